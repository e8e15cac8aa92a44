/-
 The walk of cachetref17's History.
-/
import Derived.Test.YtcddlemkimbkcaaGreatDoorKRefRows2
import Derived.Test.YtcddlemkimbkcaaGreatDoorKNum
import Derived.Test.YtcddlemkimbkcaaGreatDoorKSeq
import Derived.Test.YtcddlemkimbkcaaGreatDoorKReadEn
open Go.Lib renaming hid→za
open List renaming size_toArray→zn
open Go.Value renaming int→zy
open Go.IntKind renaming u8→z6
namespace Go.Proofs.YtcddlemkimbkcaaGreatDoor
set_option linter.unusedVariables false
set_option linter.unusedSimpArgs false
set_option linter.unusedSectionVars false
set_option maxRecDepth 100000
set_option maxHeartbeats 2000000
section
open Go.RowKit Go.Shelf
variable [OldK]
def hv (m:List CameV) (n:Bs):List CameV:=m.filter (fun c=>decide (c.e.ident=n))
theorem zvb (m:List CameV)(n:Bs):(hv m n).map CameV.cm=zf9 (m.map CameV.cm) n:=by
 unfold hv zf9;rw[List.filter_map];rfl
theorem zva (m:List CameV)(n:Bs)(i:Nat)(hi:i<m.length):hv (m.take (i+1)) n=hv (m.take i) n++(if m[i].e.ident=n then [m[i]] else []):=by
 unfold hv;rw[List.take_add_one,List.getElem?_eq_getElem hi,List.filter_append]
 congr 1
 by_cases h:m[i].e.ident=n<;>simp[h]
theorem zix {m:List CameV}{n:Bs}{c:CameV}(h:c∈hv m n):c∈m:=(List.mem_filter.1 h).1
theorem zqs (m:List CameV)(n:Bs):(hv m n).length≤m.length:=List.length_filter_le _ _
def zte (l:List CameV):List Value:=l.flatMap CameV.cells
theorem zj3:(Tryz.prog.info? 67).map (fun i=>(i.zero,i.size,i.bytes))=some (some (.agg Tryz.zeroCells67),71,168):=by kernel_rfl
theorem zh9:(Tryz.prog.info? 67).map (·.size)=some 71:=by kernel_rfl
theorem zik:∃ d,Tryz.prog.underlying 67=some d∧d.isRow=true:=⟨_,Tryz.underlying67,rfl⟩
theorem zsr (l:List CameV) (hk:∀ c∈l,c.e.ok):∀ i c,l[i]? = some c→∀ j v,c.cells[j]? = some v→(zte l)[i * 71+j]? = some v:=by
 induction l with
 | nil=>intro i c hi;cases hi
 | cons x l ih =>
   intro i c hi j v hv;have hx:=CameV.size (hk x (by simp));unfold zte;rw[List.flatMap_cons];cases i with
   | zero =>
     obtain rfl:x=c:=by simpa using hi
     rw [Nat.zero_mul,Nat.zero_add,List.getElem?_append_left (by
      have:=(List.getElem?_eq_some_iff.1 hv).1
      exact this)]
     exact hv
   | succ i =>
     rw[List.getElem?_append_right (by rw[hx];omega),hx,show(i+1) * 71+j - 71=i * 71+j by omega];exact ih (fun c hc=>hk c (by simp[hc])) i c (by simpa using hi) j v hv
theorem CRow.ofRow {m:List CameV}{v:Value}{w:World}{base:Nat}(h:w.ownsRow base 67 71 v m.length (zte m))(h1:m.length≤1000)(h2:∀ c∈m,c.e.ok)(h3:∀ c∈m,c.pv.oneCell'=true∧c.sv.oneCell'=true):CRow m v w:=by
 refine⟨h1,h2,h3,?_⟩;rcases h.2 with⟨rfl,h0⟩ | ⟨g,cap,cur,rfl,e1,e2,e3,e4,e5⟩
 ·have:m=[]:=List.length_eq_zero_iff.1 h0;subst this;exact⟨_,_,rfl,.inl rfl⟩
 refine⟨_,_,rfl,.inr ⟨g,rfl,jq e2,fun i hi j v hv=>?_⟩⟩;have:=h.cells (g:=g) rfl (i * 71+j) v (zsr m h2 i _ (List.getElem?_eq_getElem hi) j v hv);rw[Addr.add_lit]at this;rw[Nat.zero_add]at this;exact this
theorem zkj (m:List CameV) (v:Value) (n:Bs) (w:World) (h:CRow m v w) :
 Calls Tryz.prog 75 #[v,.string ⟨n.toArray⟩] w fun e w'=>∃ v',e = .returned v'∧w'.ownsRow w.heap.size 67 71 v' (hv m n).length (zte (hv m n))∧Fr NoB w w':=by
 obtain⟨a,cap,hK⟩:=h.form;have hlen:=h.len;have Hh:=za h;obtain⟨ic,hV,hD,hC,hP⟩:=info_parts zj3;obtain⟨d,hu,hd⟩:=zik;have Hu:=za hu;have Hd:=za hd;subst hK;clear h hu hd;go_enter Tryz.func75,Tryz.ntmps75
 go_wp2_with fail
 go_loopg [5,6] (m.length+1) (fun gf vo vi wr=>∃ i:Nat,vi = .int .i64 i∧i≤m.length∧i+gf=m.length+1∧Hid (wr.ownsRow w.heap.size 67 71 vo (hv (m.take i) n).length (zte (hv (m.take i) n)))∧Hid (Fr NoB w wr))
 case atStart=>exact⟨0,rfl,by omega,by omega,za ⟨rfl,.inl ⟨rfl,rfl⟩⟩,za Fr.refl⟩
 case round =>
  obtain⟨i,rfl,hi,hig,HO,hE⟩:=hrel;by_cases hI:i<m.length
  ·have hN:decide ((i:Int)<m.length)=true:=decide_eq_true (by omega);have hU:wrap64 ((i:Int)+1)=(i:Int)+1:=by unfold wrap64;omega
   have hJ:=Hh.out.keep hE.out;obtain⟨b,cap',hK,hb,hr⟩:=hJ.get hI
   injection hK with e1 e2 e3
   subst e1 e3;have hH:=hJ.ok _ (List.getElem_mem hI);have hG:=hJ.one _ (List.getElem_mem hI);obtain⟨-,k1,-,-⟩:=ze4 hH hr;have hF:=zva m n i hI;have hO:=Nat.le_trans (zqs (m.take i) n) (List.length_take_le i m);obtain⟨c,hc⟩:∃ c,m[i]=c:=⟨_,rfl⟩;rw[hc]at k1 hH hG hr hF;have hM:=CameV.size hH;have hQ:=CameV.one hG.1 hG.2;obtain⟨L,hL⟩:∃ L,hv (m.take i) n=L:=⟨_,rfl⟩;rw[hL]at HO hF hO;obtain⟨CC,hS⟩:∃ x,c.cells=x:=⟨_,rfl⟩;rw[hS]at hr hM hQ;have HR:=za hr;have Hst:=za hF;have Hhl:=za hO;have Hsz:=za hM;have hX:=za hQ;have ha:=za hS;clear hJ hr hH hG hF hO hc hM hQ hL hb hS;cases hx:(c.e.ident==n) with
   | true =>
     have Hx:=za hx;have hW:Hid ((Tryz.prog.info? 67).map (·.size)=some CC.length):=za (by rw[zh9,Hsz.out])
     have hR:=zav (P:=Tryz.prog) hV hD hC (by rfl) (by decide) (by decide:0<1) (by decide) [.agg CC.toArray] (fun v hv=>by
      obtain rfl:v = .agg CC.toArray:=by simpa using hv
      show CC.toArray.size=71
      rw[zn,Hsz.out]) rfl
     have hT:Hid (Tryz.prog.builtSlice 67 1 [(0,.agg CC.toArray)]=some CC.toArray):=za (by
      have e:([Value.agg CC.toArray].flatMap fun v=>v.cells.toList).toArray=CC.toArray:=by simp[Value.cells]
      rw[e]at hR
      exact hR)
     clear hR
     go_wp2_with (first
      | (with_reducible refine wpList_load_mid rfl 67 _ rfl b (i * 71) rfl CC d HR.out Hu.out Hd.out hW.out ?_)
      | ((with_reducible refine Great.wpList_buildSliceTo ?_ 62 67 1 _ rfl wr.heap.size rfl _ rfl Tryz.underlying62 CC.toArray ?_ ?_);rfl;(refine Eq.trans (congrArg (Tryz.prog.builtSlice 67 1) ?_) hT.out;kernel_rfl))
      | (at_builtin;refine zhf ?_))
     refine za ?_;refine wpList_append_own _ rfl _ _ 62 rfl w.heap.size 67 ic (.agg Tryz.zeroCells67) 71 168 Tryz.underlying62 hV hD hC hP rfl (by decide) _ L.length (zte L) rfl (HO.out.alloc _) ⟨wr.heap.size,0,none⟩ 1 1 CC rfl (by rw[Hsz.out]) (za1 wr CC 67) (by have h:=hX.out;rw[List.all_toArray,List.all_eq_true]at h;exact h) (by have:=Hhl.out;unfold maxLen;omega) (by have:=Hhl.out;omega) (by rw[World.size_alloc];have:=hE.out.size;omega) ?_;intro vo' w9 hA hB _;have hZ:=za (zpr (HO.out.alloc _) (Nat.le_refl _) (hE.out.alloc _) hB);have hY:=za hA;clear hA hB
     go_wp2_with fail
     go_roundg (gk - 1)
     case measure=>omega
     case rel =>
      have h2:c.e.ident=n:=by simpa using Hx.out
      have hs:=Hst.out;rw[if_pos h2]at hs;refine⟨i+1,by simp[hU],by omega,by omega,za ?_,hZ⟩;rw[hs,List.length_append];have:zte (L++[c])=zte L++CC:=by rw[← ha.out];simp[zte]
      rw[this];exact hY.out
   | false =>
     have Hx:=za hx
     go_wp2_with fail
     go_roundg (gk - 1)
     case measure=>omega
     case rel =>
      have h2:¬ c.e.ident=n:=by simpa using Hx.out
      have hs:=Hst.out;rw[if_neg h2,List.append_nil]at hs;refine⟨i+1,by simp[hU],by omega,by omega,za ?_,hE⟩;rw[hs];exact HO.out
  have hN:decide ((i:Int)<m.length)=false:=decide_eq_false (by omega);have he:m.take i=m:=List.take_of_length_le (by omega);rw[he]at HO;clear he
  go_wp2_with fail
  go_ret;exact⟨_,rfl,HO.out,hE.out⟩
end
section
open Go.RowKit Go.Shelf
variable [OldK]
def zxj:Option Cm→Bs × Bool
 | some c=>(c.1.key,decide (c.1.op≠3))
 | none=>(jo,false)
theorem ztn (m:List Cm)(n:Bs)(p:Int):rAt m n p=zxj ((zf9 m n).reverse.find? (fun c=>decide (c.2≤p))):=by
 unfold rAt;cases(zf9 m n).reverse.find? (fun c=>decide (c.2≤p))<;>rfl
theorem zpe {cs:List Cm}{p:Int}{q:Nat}(hq:q<cs.length):(cs.take (q+1)).reverse.find? (fun c=>decide (c.2≤p))=if (cs[q]).2≤p then some cs[q] else (cs.take q).reverse.find? (fun c=>decide (c.2≤p)):=by
 rw[List.take_add_one,List.getElem?_eq_getElem hq,List.reverse_append];show([cs[q]]++_).find? _=_;rw[List.singleton_append,List.find?_cons];by_cases h:(cs[q]).2≤p
 ·rw[if_pos h,decide_eq_true h]
 rw[if_neg h,decide_eq_false h]
theorem zui (m:List CameV) (v:Value) (n:Bs) (place:Int) (w:World) (h:CRow m v w) :
 Calls Tryz.prog 74 #[v,.string ⟨n.toArray⟩,.int .i64 place] w fun e w'=>e = .returned (.tuple #[.agg (Lib.byteCells (rAt (m.map CameV.cm) n place).1).toArray,.bool (rAt (m.map CameV.cm) n place).2])∧Fr NoB w w':=by
 have hF:Fr NoB w (w.alloc (.cells #[zy z6 0,zy z6 0,zy z6 0,zy z6 0,zy z6 0,zy z6 0,zy z6 0,zy z6 0,zy z6 0,zy z6 0,zy z6 0,zy z6 0,zy z6 0,zy z6 0,zy z6 0,zy z6 0,zy z6 0,zy z6 0,zy z6 0,zy z6 0,zy z6 0,zy z6 0,zy z6 0,zy z6 0,zy z6 0,zy z6 0,zy z6 0,zy z6 0,zy z6 0,zy z6 0,zy z6 0,zy z6 0] 24)):=Fr.refl.alloc _;have hW:=h.keep hF;have hC:=zkj m v n _ hW;have hk:=heap_alloc_new w (.cells #[zy z6 0,zy z6 0,zy z6 0,zy z6 0,zy z6 0,zy z6 0,zy z6 0,zy z6 0,zy z6 0,zy z6 0,zy z6 0,zy z6 0,zy z6 0,zy z6 0,zy z6 0,zy z6 0,zy z6 0,zy z6 0,zy z6 0,zy z6 0,zy z6 0,zy z6 0,zy z6 0,zy z6 0,zy z6 0,zy z6 0,zy z6 0,zy z6 0,zy z6 0,zy z6 0,zy z6 0,zy z6 0] 24);have hg:w.heap.size<(w.alloc (.cells #[zy z6 0,zy z6 0,zy z6 0,zy z6 0,zy z6 0,zy z6 0,zy z6 0,zy z6 0,zy z6 0,zy z6 0,zy z6 0,zy z6 0,zy z6 0,zy z6 0,zy z6 0,zy z6 0,zy z6 0,zy z6 0,zy z6 0,zy z6 0,zy z6 0,zy z6 0,zy z6 0,zy z6 0,zy z6 0,zy z6 0,zy z6 0,zy z6 0,zy z6 0,zy z6 0,zy z6 0,zy z6 0] 24)).heap.size:=by rw[World.size_alloc];omega
 obtain⟨R,hR⟩:∃ R,rAt (m.map CameV.cm) n place=R:=⟨_,rfl⟩;rw[hR];rw[ztn,← zvb]at hR;have hh:=Nat.le_trans (zqs m n) h.len;have hG:∀ c∈hv m n,c.e.ok:=fun c hc=>h.ok c (zix hc)
 have hE:∀ c∈hv m n,c.pv.oneCell'=true∧c.sv.oneCell'=true:=fun c hc=>h.one c (zix hc)
 obtain⟨L,hL⟩:∃ L,hv m n=L:=⟨_,rfl⟩;rw[hL]at hR hC hh hG hE;have HR:=za hR;have HF:=za hF;have Hhist:=za hC;have hU:=za hk;have hN:=za hg;have hO:=za hG;have ha:=za hE;clear hR hF hC hk hg hG hE h hW hL;go_enter Tryz.func74,Tryz.ntmps74
 go_upto_region 1 with(fail)
 change Code.wp _ _ _ _ (w.alloc (.cells #[zy z6 0,zy z6 0,zy z6 0,zy z6 0,zy z6 0,zy z6 0,zy z6 0,zy z6 0,zy z6 0,zy z6 0,zy z6 0,zy z6 0,zy z6 0,zy z6 0,zy z6 0,zy z6 0,zy z6 0,zy z6 0,zy z6 0,zy z6 0,zy z6 0,zy z6 0,zy z6 0,zy z6 0,zy z6 0,zy z6 0,zy z6 0,zy z6 0,zy z6 0,zy z6 0,zy z6 0,zy z6 0] 24));obtain⟨W,hW⟩:∃ W,w.alloc (.cells #[zy z6 0,zy z6 0,zy z6 0,zy z6 0,zy z6 0,zy z6 0,zy z6 0,zy z6 0,zy z6 0,zy z6 0,zy z6 0,zy z6 0,zy z6 0,zy z6 0,zy z6 0,zy z6 0,zy z6 0,zy z6 0,zy z6 0,zy z6 0,zy z6 0,zy z6 0,zy z6 0,zy z6 0,zy z6 0,zy z6 0,zy z6 0,zy z6 0,zy z6 0,zy z6 0,zy z6 0,zy z6 0] 24)=W:=⟨_,rfl⟩;rw[hW]at HF Hhist hU hN ⊢;obtain⟨p,hp⟩:∃ p,w.heap.size=p:=⟨_,rfl⟩;rw[hp]at hU hN ⊢;have Hp:=za hp;clear hW hp
 go_wp2_with fail
 refine Hhist.out.mono ?_;rintro e w1 ⟨v',rfl,h1,h2⟩;have hZ:=CRow.ofRow h1 hh hO.out ha.out;have hj:=h2.block _ _ hU.out (fun h=>h);obtain⟨a,cap,hX⟩:=hZ.form;subst hX;have hs:wrap64 ((L.length:Int) - 1)=(L.length:Int) - 1:=by unfold wrap64;omega
 have Hpb:Hid (∀ b',a=some ⟨b',0,none⟩→p<b'):=za (fun b' e=>by subst e;have:=(zhl h1 (k:=b') rfl).1;have:=hN.out;omega);have h5:=za hZ;have hw:=za hj;have hn:=za (HF.out.trans' h2);have Hpw1:=za (Nat.lt_of_lt_of_le hN.out h2.size);clear h1 h2 hZ hj Hhist hU HF hN
 go_wp2_with fail
 go_loopg [9] (L.length+1) (fun gf vi wr=>∃ q:Nat,vi = .int .i64 ((q:Int) - 1)∧q+1=gf∧q≤L.length∧Hid (zxj (((L.map CameV.cm).take q).reverse.find? (fun c=>decide (c.2≤place)))=R)∧wr=w1)
 case atStart=>exact⟨L.length,by simp[hs],rfl,Nat.le_refl _,za (by rw[List.take_of_length_le (by simp)];exact HR.out),rfl⟩
 case round =>
  obtain⟨q,rfl,hqg,hq,he,rfl⟩:=hrel;have hT:wr.there p 0 32:=jr hw.out (Nat.le_refl _);cases q with
  | zero =>
    have h0:R=(jo,false):=he.out.symm;subst h0;have HT:Hid (wr.there p 0 (#[zy z6 0,zy z6 0,zy z6 0,zy z6 0,zy z6 0,zy z6 0,zy z6 0,zy z6 0,zy z6 0,zy z6 0,zy z6 0,zy z6 0,zy z6 0,zy z6 0,zy z6 0,zy z6 0,zy z6 0,zy z6 0,zy z6 0,zy z6 0,zy z6 0,zy z6 0,zy z6 0,zy z6 0,zy z6 0,zy z6 0,zy z6 0,zy z6 0,zy z6 0,zy z6 0,zy z6 0,zy z6 0]:Array Value).size):=za hT;have hH:=run_loadVar_mid (P:=Tryz.prog) _ p 0 24 _ (.array 32 5) (World.rangeAt_setCells_same wr p 0 (#[zy z6 0,zy z6 0,zy z6 0,zy z6 0,zy z6 0,zy z6 0,zy z6 0,zy z6 0,zy z6 0,zy z6 0,zy z6 0,zy z6 0,zy z6 0,zy z6 0,zy z6 0,zy z6 0,zy z6 0,zy z6 0,zy z6 0,zy z6 0,zy z6 0,zy z6 0,zy z6 0,zy z6 0,zy z6 0,zy z6 0,zy z6 0,zy z6 0,zy z6 0,zy z6 0,zy z6 0,zy z6 0]:Array Value).toList HT.out) z7 rfl zvp;have HE:Hid (Fr NoB w (wr.setCells p 0 (#[zy z6 0,zy z6 0,zy z6 0,zy z6 0,zy z6 0,zy z6 0,zy z6 0,zy z6 0,zy z6 0,zy z6 0,zy z6 0,zy z6 0,zy z6 0,zy z6 0,zy z6 0,zy z6 0,zy z6 0,zy z6 0,zy z6 0,zy z6 0,zy z6 0,zy z6 0,zy z6 0,zy z6 0,zy z6 0,zy z6 0,zy z6 0,zy z6 0,zy z6 0,zy z6 0,zy z6 0,zy z6 0]:Array Value).toList)):=za (hn.out.trans (jd p _ 0 _) (fun k _ hm => .inr (by have h2:k=p:=hm;have:=Hp.out;omega)));have Hld:=za hH;clear hT hH
    go_wp2_with((with_reducible refine wpList_store_mid rfl 24 _ _ rfl p 0 #[zy z6 0,zy z6 0,zy z6 0,zy z6 0,zy z6 0,zy z6 0,zy z6 0,zy z6 0,zy z6 0,zy z6 0,zy z6 0,zy z6 0,zy z6 0,zy z6 0,zy z6 0,zy z6 0,zy z6 0,zy z6 0,zy z6 0,zy z6 0,zy z6 0,zy z6 0,zy z6 0,zy z6 0,zy z6 0,zy z6 0,zy z6 0,zy z6 0,zy z6 0,zy z6 0,zy z6 0,zy z6 0] ?_ ?_ HT.out zvp zw3 ?_);rfl;rfl)
    refine bodyPost_ret (v := .tuple #[.agg #[zy z6 0,zy z6 0,zy z6 0,zy z6 0,zy z6 0,zy z6 0,zy z6 0,zy z6 0,zy z6 0,zy z6 0,zy z6 0,zy z6 0,zy z6 0,zy z6 0,zy z6 0,zy z6 0,zy z6 0,zy z6 0,zy z6 0,zy z6 0,zy z6 0,zy z6 0,zy z6 0,zy z6 0,zy z6 0,zy z6 0,zy z6 0,zy z6 0,zy z6 0,zy z6 0,zy z6 0,zy z6 0],.bool false]) ?_ rfl ⟨rfl,HE.out⟩;have hH:=Hld.out;rw[results_cell_tmp rfl]
    try simp only[Array.toArray_toList]at hH
    simp[asAddr,Result.andThen,hH]
  | succ q =>
    obtain⟨b,cap',hX,hb,hr⟩:=h5.out.get (i:=q) (by omega)
    injection hX with e1 e2 e3
    subst e1 e3;have hP:=hO.out _ (List.getElem_mem (show q<L.length by omega));obtain⟨k0,-,k2,k3⟩:=ze4 hP hr;have hB:=zpe (p:=place) (cs:=L.map CameV.cm) (q:=q) (by simp;omega);have hi:(L.map CameV.cm)[q]'(by simp;omega)=L[q].cm:=by simp
    rw[hi]at hB;have hS:=he.out;rw[hB]at hS;have ht:((q+1:Nat):Int) - 1=(q:Int):=by omega
    have ho:wrap64 ((q:Int) - 1)=(q:Int) - 1:=by unfold wrap64;omega
    rw[ht];have hql:q<L.length:=by omega
    obtain⟨c,hc⟩:∃ c,L[q]=c:=⟨_,rfl⟩;rw[hc]at k0 k2 k3 hP hS;have hJ:(Lib.byteCells c.e.key).length=32:=by rw[ja];exact hP.2.1
    have hQ:=all_oneCell_toArray (j0 c.e.key);have hD:=za hS;clear hr hB hi hc hS he hP;by_cases hI:c.pos≤place
    ·have hY:decide (c.pos≤place)=true:=decide_eq_true hI;have hR:=hD.out;rw[if_pos (show(CameV.cm c).2≤place from hI)]at hR;have hl:R=(c.e.key,decide (c.e.op≠3)):=hR.symm;obtain⟨KC,hK⟩:∃ KC,Lib.byteCells c.e.key=KC:=⟨_,rfl⟩;rw[hK]at k2 hJ hQ;have hz:=za hK;have h4:=za k2;have Hbw:=za hb;have hf:b≠p:=by have:=Hpb.out b rfl;omega
     have hV:=za hf;have Hkz:Hid ((Tryz.prog.info? 24).map (·.size)=some KC.length):=za (by rw[jb,hJ]);have hd:Hid ((Tryz.prog.info? 24).map (·.size)=some KC.toArray.size):=za (by rw[jb,zn,hJ]);have hu:=za hQ;have HT:Hid (wr.there p 0 KC.toArray.size):=za (by rw[show KC.toArray.size=32 by rw[zn,hJ]];exact hT);have hx:=za hl;clear k2 hJ hQ hK hb hf hT hR hl hD hI
     go_wp2_with fail
     refine wp_region_held_drew (S:=fun V=>Hid (Fr (fun k _=>k=p) wr V)) (by kernel_rfl) (za Fr.refl.drew) (fun hA=>?_);simp only[qV]
     iterate 5
      refine qt (v:=?_) rfl (Or.inl ⟨by rfl,?_⟩) hA ?_;rotate_left
      ·intro W hM;have h1:=Fr.cell hM.out k0 (fun _ h=>hV.out h)
       try simp only[qQ]
       go_simp
       try rw[if_neg (by omega)]
       try with_reducible rfl
      try simp only[Act.put,qP]
     refine qi (i:=5) rfl (yieldsIf_load_mid (by rfl) 24 _ rfl b (q * 71+37) rfl KC (.array 32 5) (fun V h=>je h4.out h.out Hbw.out (fun _ h=>hV.out h)) z7 rfl Hkz.out) hA ?_
     try simp only[Act.put,qP]
     iterate 7
      refine qt (v:=?_) rfl (Or.inl ⟨by rfl,?_⟩) hA ?_;rotate_left
      ·intro W hM;have h1:=Fr.cell hM.out k0 (fun _ h=>hV.out h)
       try simp only[qQ]
       go_simp
       try rw[if_neg (by omega)]
       try with_reducible rfl
      try simp only[Act.put,qP]
     refine qr (i:=13) (by kernel_rfl) rfl (fun K hK=>?_)
     try simp only[qQ]
     rw[if_pos (by rfl)];refine wp_store_mid 24 (.tmp 6) (.tmp 32) (by rfl) p 0 KC.toArray (by rfl) (by rfl) HT.out hd.out hu.out ?_;refine hK.out _ _ (za (hA.out.trans' ((jd p _ _ _).mono (fun _ _ h=>h)))) (fun hA=>?_);clear hK K
     try simp only[Act.put,qP]
     refine qt (v:=?_) rfl (Or.inl ⟨by rfl,?_⟩) hA ?_;rotate_left
     ·intro W hM;have h1:=Fr.cell hM.out k0 (fun _ h=>hV.out h)
      try simp only[qQ]
      go_simp
      try rw[if_neg (by omega)]
      try with_reducible rfl
     try simp only[Act.put,qP]
     refine wpAnyH_done (by kernel_rfl) ?_ _;have HE:=za (hn.out.trans hA.out (fun k _ hm => .inr (by have h2:k=p:=hm;have:=Hp.out;omega)));have hH:=run_loadVar_mid (P:=Tryz.prog) _ p 0 24 KC (.array 32 5) (World.rangeAt_setCells_same wr.drew p 0 KC (by simpa using HT.out)) z7 rfl Hkz.out;clear hA
     go_wp2_with fail
     have h3:(c.e.op != 3)=decide (c.e.op≠3):=by by_cases e:c.e.op=3<;>simp[e]
     refine bodyPost_ret (v := .tuple #[.agg KC.toArray,.bool (c.e.op != 3)]) ?_ rfl ⟨by rw[hx.out,h3];simp only[hz.out],HE.out⟩;rw[results_cell_tmp rfl];simp[asAddr,Result.andThen,hH]
    have hY:decide (c.pos≤place)=false:=decide_eq_false hI;have hR:=hD.out;rw[if_neg (show ¬ (CameV.cm c).2≤place from hI)]at hR;have hy:=za hR;clear hR hD k2 hJ hQ k0 hI
    go_wp2_with fail
    go_roundg (q+1)
    case measure=>omega
    case rel=>exact⟨q,by simp[ho],by omega,by omega,hy,rfl⟩
end
end Go.Proofs.YtcddlemkimbkcaaGreatDoor
