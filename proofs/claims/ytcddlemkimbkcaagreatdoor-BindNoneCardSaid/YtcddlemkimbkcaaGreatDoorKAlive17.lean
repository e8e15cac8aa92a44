/-
 The walk of cachetlaw17's large.
-/
import Derived.Test.YtcddlemkimbkcaaGreatDoorKNum
open Go.Lib renaming hid→za,byteCells→zb
open Go.Proofs.Tryz renaming prog→ze
open Go.World renaming size_alloc→zf
open Go renaming heap_alloc_new→zh
open Go.Value renaming int→zm,int→zy
open List renaming size_toArray→zn
open Nat renaming le_refl→zt
open Go.IntKind renaming u8→z6
namespace Go.Proofs.YtcddlemkimbkcaaGreatDoor
set_option linter.unusedVariables false
set_option linter.unusedSimpArgs false
set_option linter.unusedSectionVars false
set_option maxRecDepth 100000
set_option maxHeartbeats 4000000
section
open Go.RowKit Go.Shelf
variable [OldK]
def zev (e:En):Bool:=decide (3000<e.payload.length)||decide (20<e.sigs.length)||decide (500<e.typ.length)||decide (500<e.ident.length)||e.sigs.any (fun s=>decide (500<s.id.length))
theorem zhs {e:En}(h:zev e=false):e.payload.length≤3000∧e.sigs.length≤20∧e.typ.length≤500∧e.ident.length≤500∧∀ s∈e.sigs,s.id.length≤500:=by
 unfold zev at h;simp only[Bool.or_eq_false_iff,decide_eq_false_iff_not,List.any_eq_false,decide_eq_true_eq,Nat.not_lt]at h;obtain⟨⟨⟨⟨h1,h2⟩,h3⟩,h4⟩,h5⟩:=h;exact⟨h1,h2,h3,h4,h5⟩
theorem zu8 (S S':Nat→Prop) (e:En) (pv sv:Value) (w:World) (hok:e.ok) (hp:SB S e.payload pv w) (hs:GS S' e.sigs sv w) :
 Calls ze 26 #[.agg (e.cells pv sv).toArray] w fun r w'=>r = .returned (.bool (zev e))∧Fr NoB w w':=by
 have hR:(w.alloc (.cells (e.cells pv sv).toArray 39)).rangeAt w.heap.size 0 (e.cells pv sv):=by simpa using jg (zh w (.cells (e.cells pv sv).toArray 39))
 have hF:Fr NoB w (w.alloc (.cells (e.cells pv sv).toArray 39)):=Fr.refl.alloc _;obtain⟨-,-,hK,hO,-,hJ,-,hN⟩:=En.parts hok hR;obtain⟨a1,hq,rfl⟩:=hp.form;obtain⟨a3,ho,rfl,hX,hU⟩:=id hs;obtain⟨P,hP⟩:∃ b,zev e=b:=⟨_,rfl⟩;rw[hP];unfold zev at hP;obtain⟨n1,hQ⟩:∃ n,e.payload.length=n:=⟨_,rfl⟩;obtain⟨l,hl⟩:∃ n,e.sigs=n:=⟨_,rfl⟩;obtain⟨ty,ha⟩:∃ n,e.typ=n:=⟨_,rfl⟩;obtain⟨hZ,hI⟩:∃ n,e.ident=n:=⟨_,rfl⟩;have hD:=hok.2.2;rw[hl]at hD;rw[hQ,hl]at hO hN hF hP;rw[hl]at hU;rw[ha]at hK hP;rw[hI]at hJ hP;rw[hQ,hl]at hK hJ ⊢;obtain⟨C,hC⟩:∃ C,e.cells (.slice a1 n1 hq) (.slice a3 l.length ho)=C:=⟨_,rfl⟩;rw[hC]at hK hO hJ hN hF ⊢;clear hC hQ hl ha hI hok hR hp hs hX;obtain⟨b1,hn⟩:∃ b,decide ((3000:Int)<(n1:Int))=b:=⟨_,rfl⟩;obtain⟨b2,hh⟩:∃ b,decide ((20:Int)<(l.length:Int))=b:=⟨_,rfl⟩;obtain⟨b3,hm⟩:∃ b,decide ((500:Int)<(List.length ty:Int))=b:=⟨_,rfl⟩;obtain⟨b4,hk⟩:∃ b,decide ((500:Int)<(List.length hZ:Int))=b:=⟨_,rfl⟩;have e1:decide (3000<n1)=b1:=by rw[← hn];congr 1;exact propext ⟨fun h=>by omega,fun h=>by omega⟩
 have e2:decide (20<l.length)=b2:=by rw[← hh];congr 1;exact propext ⟨fun h=>by omega,fun h=>by omega⟩
 have e3:decide (500<List.length ty)=b3:=by rw[← hm];congr 1;exact propext ⟨fun h=>by omega,fun h=>by omega⟩
 have e4:decide (500<List.length hZ)=b4:=by rw[← hk];congr 1;exact propext ⟨fun h=>by omega,fun h=>by omega⟩
 rw[e1,e2,e3,e4]at hP;clear e1 e2 e3 e4
 have hH:∀ i (hi:i<l.length),∃ b o,a3=some ⟨b,o,none⟩∧b<w.heap.size∧w.rangeAt b (o+i * 97) l[i].cells.toList:=fun i hi=>by
  rcases hU with h | ⟨b,o,h1,-,h2,h3⟩
  ·subst h;cases hi
  exact⟨b,o,h1,h2,h3 i hi⟩
 clear hU;go_enter Tryz.func26,Tryz.ntmps26
 go_upto_region 1 with(fail)
 change Code.wp _ _ _ _ (w.alloc (.cells C.toArray 39));obtain⟨W,hW⟩:∃ W,w.alloc (.cells C.toArray 39)=W:=⟨_,rfl⟩;rw[hW]at hK hO hJ hN hF ⊢;clear hW;obtain⟨p,hc⟩:∃ p,w.heap.size=p:=⟨_,rfl⟩;rw[hc]at hK hO hJ hN ⊢;clear hc;have HF:=za hF;have HP:=za hP;have Hrow:=za hH;have Hlok:=za hD;clear hF hP hH hD;cases b1
 ·cases b2
  ·cases b3
   ·cases b4
    ·have hA:Hid (l.any (fun s=>decide (500<s.id.length))=P):=za (by have:=HP.out;simpa using this);clear HP
     go_wp2_with fail
     go_loopg [30] (l.length+1) (fun gf vi wr=>∃ i:Nat,vi = .int .i64 i∧i≤l.length∧i+gf=l.length+1∧Fr NoB w wr∧Hid ((l.drop i).any (fun s=>decide (500<s.id.length))=P))
     case atStart=>exact⟨0,rfl,by omega,by omega,HF.out,za (by rw[List.drop_zero];exact hA.out)⟩
     case round =>
      obtain⟨i,rfl,hi,hig,hF,HG⟩:=hrel;have HF:=za hF;clear hF;by_cases hT:i<l.length
      ·have hS:decide ((i:Int)<l.length)=true:=decide_eq_true (by omega);have h20:l.length≤20:=by have:=of_decide_eq_false hh;omega
       have hwr:wrap64 ((i:Int)+1)=(i:Int)+1:=by unfold wrap64;omega
       obtain⟨b,o,rfl,hb,hR⟩:=Hrow.out i hT;have hM:=Hlok.out _ (List.getElem_mem hT);have hV:=List.drop_eq_getElem_cons hT;obtain⟨s,hs⟩:∃ s,l[i]=s:=⟨_,rfl⟩;rw[hs]at hM hR hV;have hG:=HG.out;rw[hV,List.any_cons]at hG;have hL:=Sg.size hM;have hB:wr.rangeAt b (o+i * 97) s.cells.toList:=je hR HF.out hb (fun _ h=>h);have HB:=za hB;obtain⟨d,hu,hd⟩:=zbv;have Hu:=za hu;have Hd:=za hd;have Hz:=za (show(Tryz.prog.info? 54).map (·.size)=some s.cells.toList.length by rw[qy];simp[hL]);have hY:=za (show(Tryz.prog.info? 54).map (·.size)=some s.cells.size by rw[qy,hL]);have H1:=za (Sg.one s);have HZ:Hid (sgZ.size=s.cells.size):=za (by rw[hL];rfl);have hf:(wr.alloc (.cells s.cells 54)).cell? ⟨wr.heap.size,0,none⟩=some (.string ⟨s.id.toArray⟩):=(Sg.in_block hM (jg (zh wr (.cells s.cells 54)))).1;obtain⟨b5,hg⟩:∃ b,decide ((500:Int)<(List.length s.id:Int))=b:=⟨_,rfl⟩;have e5:decide (500<List.length s.id)=b5:=by rw[← hg];congr 1;exact propext ⟨fun h=>by omega,fun h=>by omega⟩
       rw[e5]at hG;have hj:=za hG;obtain⟨cs,he⟩:∃ cs,s.cells=cs:=⟨_,rfl⟩;rw[he]at HB Hz hY H1 HZ hf;obtain⟨sid,hE⟩:∃ x,s.id=x:=⟨_,rfl⟩;rw[hE]at hf hg;clear hB hu hd hR hs he hM hV hG hL HG e5 hE;cases b5
       ·go_wp2_with (first
         | (with_reducible refine wpList_load_mid rfl 54 _ rfl b (o+i * 97) rfl cs.toList d HB.out Hu.out Hd.out Hz.out ?_)
         | (refine jh (w:=wr) rfl 54 _ _ rfl sgZ cs wr.heap.size rfl rfl rfl hY.out HZ.out H1.out ?_))
        go_roundg (gk - 1)
        case measure=>omega
        case rel=>exact⟨i+1,by simp,by omega,by omega,HF.out.alloc _,za (by have:=hj.out;simpa using this)⟩
       go_wp2_with (first
        | (with_reducible refine wpList_load_mid rfl 54 _ rfl b (o+i * 97) rfl cs.toList d HB.out Hu.out Hd.out Hz.out ?_)
        | (refine jh (w:=wr) rfl 54 _ _ rfl sgZ cs wr.heap.size rfl rfl rfl hY.out HZ.out H1.out ?_))
       go_ret;exact⟨jf (by have:=hj.out;simpa using this.symm),HF.out.alloc _⟩
      have hS:decide ((i:Int)<l.length)=false:=decide_eq_false (by omega);obtain rfl:i=l.length:=by omega
      have hr:Hid (P=false):=za (by have:=HG.out;simpa using this.symm);clear HG
      go_wp2_with fail
      go_ret;exact⟨jf hr.out.symm,HF.out⟩
    have hA:Hid (P=true):=za (by have:=HP.out;simpa using this.symm);clear HP
    go_wp2_with fail
    go_ret;exact⟨jf hA.out.symm,HF.out⟩
   have hA:Hid (P=true):=za (by have:=HP.out;simpa using this.symm);clear HP
   go_wp2_with fail
   go_ret;exact⟨jf hA.out.symm,HF.out⟩
  have hA:Hid (P=true):=za (by have:=HP.out;simpa using this.symm);clear HP
  go_wp2_with fail
  go_ret;exact⟨jf hA.out.symm,HF.out⟩
 have hA:Hid (P=true):=za (by have:=HP.out;simpa using this.symm);clear HP
 go_wp2_with fail
 go_ret;exact⟨jf hA.out.symm,HF.out⟩
end
section
open Go.RowKit Go.Shelf
variable [OldK]
def ze7:Bs:=[97,108,105,99,101]
def k17 (c:UInt8):Bs:=c :: List.replicate 31 0
def sgA17:Sg:=⟨ze7,jo,zb0⟩
def zdw (c:UInt8):Sg:=⟨[],k17 c,zb0⟩
def eFirst:En:=⟨4,jo,[],[],1,ze7,k17 1,[zdw 1]⟩
def eSecond:En:=⟨4,jo,[],[],2,ze7,k17 2,[sgA17,zdw 2]⟩
def tFirst:Tb:=Tb.new.came eFirst 3
def tSecond:Tb:=tFirst.came eSecond 5
theorem pb1:zb6 zhq Tb.new eFirst=0:=by kernel_rfl
theorem pb2:zb6 zhq tFirst eSecond=0:=by kernel_rfl
theorem lv1:(tSecond.life (k17 1)==2)=true:=by kernel_rfl
theorem lv2:(tSecond.life (k17 2)==2)=false:=by kernel_rfl
theorem la1:tSecond.last ze7=⟨5,true,k17 2⟩:=by kernel_rfl
theorem la2:(tSecond.hist ze7).length=2:=by kernel_rfl
theorem zfw:eFirst.ok:=⟨rfl,rfl,fun s hs=>by
 simp only[eFirst,List.mem_singleton]at hs;subst hs
 exact⟨rfl,rfl⟩⟩
theorem zi2:eSecond.ok:=⟨rfl,rfl,fun s hs=>by
 have:s=sgA17∨s=zdw 2:=by simpa[eSecond] using hs
 rcases this with rfl | rfl<;>exact⟨rfl,rfl⟩⟩
theorem zq2 (w:World):Calls ze 64 #[] w fun e w'=>(∃ g,e = .returned (.agg (eFirst.cells (.slice none 0 0) (.slice (some ⟨g,0,none⟩) 1 1)).toArray)∧GS (fun k=>w.heap.size≤k) [(zdw 1)] (.slice (some ⟨g,0,none⟩) 1 1) w')∧Fr NoB w w':=by
 obtain⟨d,hu,hd⟩:=qv;have Hu:=za hu;have Hd:=za hd;clear hu hd;have hA:(w.alloc (.cells Tryz.zeroCells39 39)).heap.size=w.heap.size+1:=by rw[zf]
 have hH:=zh w (.cells Tryz.zeroCells39 39);have hD:=zh (w.alloc (.cells Tryz.zeroCells39 39)) (.cells (zdw 1).cells 54);rw[hA]at hD
 have hG:((w.alloc (.cells Tryz.zeroCells39 39)).alloc (.cells (zdw 1).cells 54)).heap[w.heap.size]? = some (.cells Tryz.zeroCells39 39):=by
  rw[Below.heap_alloc _ _ _ (by omega)];exact hH
 have hE:=za (show((w.alloc (.cells Tryz.zeroCells39 39)).alloc (.cells (zdw 1).cells 54)).there w.heap.size 0 (eFirst.cells (.slice none 0 0) (.slice (some ⟨w.heap.size+1,0,none⟩) 1 1)).toArray.size from jr hG (by rw[zn,En.size zfw];exact zt _));have Hz:=za (show(Tryz.prog.info? 39).map (·.size)=some (eFirst.cells (.slice none 0 0) (.slice (some ⟨w.heap.size+1,0,none⟩) 1 1)).length by rw[ju,En.size zfw]);have hK:=za (show(Tryz.prog.info? 39).map (·.size)=some (eFirst.cells (.slice none 0 0) (.slice (some ⟨w.heap.size+1,0,none⟩) 1 1)).toArray.size by rw[ju,zn,En.size zfw]);have HO:=za (En.one (e:=eFirst) (pv := .slice none 0 0) (sv := .slice (some ⟨w.heap.size+1,0,none⟩) 1 1) rfl rfl);have HA:=za hA;have hI:=za hD;clear hA hH hD hG;go_enter Tryz.func64,Tryz.ntmps64
 go_wp2_with (first
  | ((with_reducible refine wpList_buildTo ?_ 24 _ rfl _ rfl (zb (k17 1)).toArray ?_ ?_);rfl;kernel_rfl)
  | ((with_reducible refine wpList_buildTo ?_ 54 _ rfl _ rfl (zdw 1).cells ?_ ?_);rfl;kernel_rfl)
  | ((with_reducible refine Great.wpList_buildSliceTo ?_ 37 54 1 _ rfl (w.heap.size+1) HA.out _ rfl Tryz.underlying37 (zdw 1).cells ?_ ?_);rfl;kernel_rfl)
  | ((with_reducible refine wpList_buildTo ?_ 39 _ rfl _ rfl (eFirst.cells (.slice none 0 0) (.slice (some ⟨w.heap.size+1,0,none⟩) 1 1)).toArray ?_ ?_);rfl;kernel_rfl)
  | ((with_reducible refine wpList_store_mid ?_ 39 _ _ rfl w.heap.size 0 (eFirst.cells (.slice none 0 0) (.slice (some ⟨w.heap.size+1,0,none⟩) 1 1)).toArray ?_ ?_ hE.out hK.out HO.out ?_);rfl;rfl;rfl))
 obtain⟨C,hC⟩:∃ C,eFirst.cells (.slice none 0 0) (.slice (some ⟨w.heap.size+1,0,none⟩) 1 1)=C:=⟨_,rfl⟩;have HC:=za hC;rw[hC]at hE Hz ⊢;have hJ:=run_loadVar_mid (P:=ze) _ w.heap.size 0 39 C d (World.rangeAt_setCells_same _ w.heap.size 0 C (by simpa using hE.out)) Hu.out Hd.out Hz.out;have hF:Fr NoB w ((((w.alloc (.cells Tryz.zeroCells39 39)).alloc (.cells (zdw 1).cells 54)).setCells w.heap.size 0 C)):=((Fr.refl.alloc _).alloc _).trans (jd _ _ _ _) (fun k _ hm => .inr (by omega));refine bodyPost_ret (v := .agg C.toArray) ?_ rfl ⟨⟨w.heap.size+1,by rw[HC.out],?_⟩,hF⟩
 ·rw[qg rfl];simp[asAddr,Result.andThen,hJ,Act.put]
 have h0:GS (fun k=>w.heap.size+1≤k) [(zdw 1)] (.slice (some ⟨w.heap.size+1,0,none⟩) 1 1) ((w.alloc (.cells Tryz.zeroCells39 39)).alloc (.cells (zdw 1).cells 54)):=by
  refine⟨_,_,rfl,zt _,.inr ⟨w.heap.size+1,0,rfl,zt _,jq hI.out,fun i hi=>?_⟩⟩;obtain rfl:i=0:=by simpa using hi
  exact jg hI.out
 obtain⟨a,c,e1,e2,h | ⟨b,o,e3,hb,hB⟩⟩:=h0.fr (jd w.heap.size C 0 _) (fun k _ hk hm=>by omega)
 ·exact absurd h (by simp)
 exact⟨a,c,e1,e2,.inr ⟨b,o,e3,by omega,hB⟩⟩
theorem zq3 {S S':Nat→Prop}{e:En}{pv sv:Value}{w:World}(hok:e.ok)(hp:SB S e.payload pv w)(hs:GS S' e.sigs sv w)(hg:Gl w)(hl:zev e=false):Fine S S' e pv sv w:=by
 obtain⟨h1,h2,h3,h4,h5⟩:=zhs hl;exact⟨hok,hp,hs,hg,by omega,by omega,by omega,by omega,fun s hs=>by have:=h5 s hs;omega⟩
theorem Gl.took {base tb n bc bl:Nat} {t:Tb} {g lv:Bs→Option Value} {w w':World} (hg:Gl w) (h:TBL base tb n bc bl t g lv w) (hb:3≤base) (hF:Fr (TM base bc bl) w w'):Gl w' :=
 hg.fr hF (fun k o _ hm=>by
  have hl:=h.low
  rcases hm with rfl | rfl | ⟨hm,-⟩<;>omega)
theorem Fr.took {base tb n bc bl:Nat} {t:Tb} {g lv:Bs→Option Value} {w0 w w':World} (hF0:Fr NoB w0 w) (h:TBL base tb n bc bl t g lv w) (hb:w0.heap.size≤base) (hF:Fr (TM base bc bl) w w'):Fr NoB w0 w' :=
 hF0.trans hF (fun k o hm => .inr (by
  have hl:=h.low
  rcases hm with rfl | rfl | ⟨hm,-⟩<;>omega))
theorem lg1:zev eFirst=false:=by decide
theorem lg2:zev eSecond=false:=by decide
theorem GS.lit (E:World) (l:List Sg) (cs:Array Value) (hl:l≠[]) (hc:cs=(l.flatMap fun s=>s.cells.toList).toArray) (hok:∀ s∈l,s.ok):GS (fun k=>E.heap.size≤k) l (.slice (some ⟨E.heap.size,0,none⟩) l.length l.length) (E.alloc (.cells cs 54)):=by
 have hb:=jg (zh E (.cells cs 54));rw[hc,List.toList_toArray]at hb;refine⟨_,_,rfl,zt _,.inr ⟨_,_,rfl,zt _,by rw[zf];omega,fun i hi=>?_⟩⟩;rw[hc];intro j v hv
 have h1:∀ (l:List Sg) (i:Nat) (hi:i<l.length),(∀ s∈l,s.ok)→∀ j v,l[i].cells.toList[j]? = some v→(l.flatMap fun s=>s.cells.toList)[i * 97+j]? = some v:=by
  intro l
  induction l with
  | nil=>intro i hi;cases hi
  | cons x l ih =>
    intro i hi hok j v hv;have hx:x.cells.toList.length=97:=by rw[Array.length_toList,Sg.size (hok x (by simp))]
    rw[List.flatMap_cons];cases i with
    | zero =>
      rw[Nat.zero_mul,Nat.zero_add,List.getElem?_append_left (by have:=(List.getElem?_eq_some_iff.1 hv).1;exact this)];exact hv
    | succ i =>
      rw[List.getElem?_append_right (by rw[hx];omega),hx,show(i+1) * 97+j - 97=i * 97+j by omega];exact ih i (by simpa using hi) (fun s hs=>hok s (by simp[hs])) j v (by simpa using hv)
 have:=hb (i * 97+j) v (h1 l i hi hok j v hv);rw[Nat.zero_add]at this;rw[Nat.zero_add];exact this
theorem zrh (w:World) (hg:Gl w):Calls ze 24 #[] w fun e w'=>e = .returned (.bool true)∧Fr NoB w w':=by
 have Hnew:=za (zxc w hg.old);have Hfirst:=za (fun W=>zq2 W);have Hg:=za hg;clear hg;have Hbk2:Hid (∀ W,(Instr.build 24 #[(0,.int .u8 2)]).run ze W = .ok (.agg (zb (k17 2)).toArray) W):=za (fun W=>run_build W 24 _ _ (by kernel_rfl));have Hbk1:Hid (∀ W,(Instr.build 24 #[(0,.int .u8 1)]).run ze W = .ok (.agg (zb (k17 1)).toArray) W):=za (fun W=>run_build W 24 _ _ (by kernel_rfl));go_enter Tryz.func24,Tryz.ntmps24
 go_wp2_with fail
 refine Hnew.out.mono ?_;rintro r w1 ⟨rfl,hT,AD⟩;have HT:=za hT;have AU:=za AD;clear hT AD;obtain⟨B,hB⟩:∃ B,w.heap.size=B:=⟨_,rfl⟩;rw[hB]at HT ⊢;have HB:=za hB;clear hB;obtain⟨tb,hi⟩:∃ B',B+2=B':=⟨_,rfl⟩;obtain⟨bl,h6⟩:∃ B',B+1=B':=⟨_,rfl⟩;rw[hi,h6]at HT;rw[hi];clear hi h6
 go_wp2_with fail
 refine(Hfirst.out _).mono ?_;rintro r w2 ⟨⟨gb,rfl,h4⟩,hq⟩;have AK:=za (AU.out.trans' hq);have hl:=HT.out.keep hq;have hj:=Hg.out.fr AK.out (fun _ _ _ h=>h.elim);have hF:=ztk _ _ eFirst (.slice none 0 0) (.slice (some ⟨gb,0,none⟩) 1 1) 3 w2 hl (zq3 zfw (SB.nil (fun _=>True) w2 0) h4 hj lg1) (Nat.zero_le _);rw[pb1,show Tb.new.take zhq eFirst 3=tFirst by unfold Tb.take;rw[if_pos pb1];rfl]at hF;have Htake:=za hF;have AG:=za hl;have AN:=za hj;clear hF hl h4 hq hj;have h3:=Hg.out.size;rw[HB.out]at h3;simp only[show zgf 0 = .nilIface from rfl]at Htake
 go_wp2_with fail
 refine Htake.out.mono ?_;rintro r w3 ⟨rfl,⟨g',lv',h9⟩,hp⟩;have AT:=za (AK.out.took AG.out (by rw[HB.out];exact zt _) hp);have AP:=za h9;have AM:=za (AN.out.took AG.out h3 hp);clear hp h9
 go_upto_region 4 with(fail)
 obtain⟨SC,hm⟩:∃ x,sgA17.cells++(zdw 2).cells=x:=⟨_,rfl⟩;have hX:=zh7 sgA17 (zdw 2) ⟨rfl,rfl⟩ ⟨rfl,rfl⟩;rw[hm]at hX
 have hW:GS (fun k=>w3.heap.size≤k) eSecond.sigs (.slice (some ⟨w3.heap.size,0,none⟩) 2 2) (w3.alloc (.cells SC 54)):=GS.lit w3 [sgA17,zdw 2] SC (by simp) (by rw[← hm];apply Array.ext';simp) (fun s hs=>by
  have:s=sgA17∨s=zdw 2:=by simpa using hs
  rcases this with rfl | rfl<;>exact⟨rfl,rfl⟩)
 obtain⟨E2,hc⟩:∃ x,eSecond.cells (.slice none 0 0) (.slice (some ⟨w3.heap.size,0,none⟩) 2 2)=x:=⟨_,rfl⟩;have hJ:E2.length=70:=by rw[← hc];exact En.size zi2 _ _
 have Hbe:Hid (Tryz.prog.built 39 [(0,.int .i64 4),(4,.int .i64 2),(5,.string ⟨#[97,108,105,99,101]⟩),(6,.agg (zb (k17 2)).toArray),(7,.slice (some ⟨w3.heap.size,0,none⟩) 2 2)]=some E2.toArray):=za (by rw[← hc];kernel_rfl);have he:Hid (Tryz.prog.built 54 [(0,.string ⟨#[97,108,105,99,101]⟩)]=some sgA17.cells):=za (by kernel_rfl);have hR:Hid (Tryz.prog.built 54 [(1,.agg (zb (k17 2)).toArray)]=some (zdw 2).cells):=za (by kernel_rfl);have Hbk:Hid (Tryz.prog.built 24 [(0,.int .u8 2)]=some (zb (k17 2)).toArray):=za (by kernel_rfl);obtain⟨K2,hn⟩:∃ x,(zb (k17 2)).toArray=x:=⟨_,rfl⟩;obtain⟨A1,AF⟩:∃ x,sgA17.cells=x:=⟨_,rfl⟩;obtain⟨A2,AE⟩:∃ x,(zdw 2).cells=x:=⟨_,rfl⟩;rw[hn]at Hbe hR Hbk;rw[AF]at he hX;rw[AE]at hR hX;have Hbt:=za hX;have AX:Hid ((Tryz.prog.info? 39).map (·.size)=some E2.toArray.size):=za (by rw[ju,zn,hJ]);have hy:Hid ((Tryz.prog.info? 39).map (·.size)=some E2.length):=za (by rw[ju,hJ]);have AW:Hid (Tryz.zeroCells39.size=E2.toArray.size):=za (by rw[show E2.toArray.size=70 by rw[zn,hJ]];rfl);have AV:Hid (E2.toArray.all (·.oneCell')=true):=za (by rw[← hc];exact En.one rfl rfl);have HE:=za hc;have HK2:=za hn;clear hc hJ hX hm hn AF AE
 go_upto_region 5 with(first
  | ((with_reducible refine wpList_buildTo ?_ 24 _ rfl _ rfl K2 ?_ ?_);rfl;(refine Eq.trans (congrArg (Tryz.prog.built 24) ?_) Hbk.out;kernel_rfl))
  | ((with_reducible refine wpList_buildTo ?_ 54 _ rfl (some 11) ?_ A1 ?_ ?_);rfl;rfl;(refine Eq.trans (congrArg (Tryz.prog.built 54) ?_) he.out;kernel_rfl))
  | ((with_reducible refine wpList_buildTo ?_ 54 _ rfl (some 13) ?_ A2 ?_ ?_);rfl;rfl;(refine Eq.trans (congrArg (Tryz.prog.built 54) ?_) hR.out;kernel_rfl))
  | ((with_reducible refine Great.wpList_buildSliceTo ?_ 37 54 2 _ rfl w3.heap.size rfl _ rfl Tryz.underlying37 SC ?_ ?_);rfl;(refine Eq.trans (congrArg (Tryz.prog.builtSlice 54 2) ?_) Hbt.out;kernel_rfl))
  | ((with_reducible refine wpList_buildTo ?_ 39 _ rfl _ rfl E2.toArray ?_ ?_);rfl;(refine Eq.trans (congrArg (Tryz.prog.built 39) ?_) Hbe.out;kernel_rfl))
  | ((with_reducible refine jh (w:=w3.alloc (.cells SC 54)) rfl 39 _ _ rfl Tryz.zeroCells39 E2.toArray (w3.heap.size+1) (zf _ _) ?_ ?_ AX.out AW.out AV.out ?_);rfl;rfl))
 change Code.wp _ _ _ _ ((w3.alloc (.cells SC 54)).alloc (.cells E2.toArray 39));have hH:Fr NoB w3 ((w3.alloc (.cells SC 54)).alloc (.cells E2.toArray 39)):=(Fr.refl.alloc _).alloc _;have hP:=hW.fr (Fr.refl.alloc (.cells E2.toArray 39)) (fun _ _ _ h=>h);have hh:=jg (zh (w3.alloc (.cells SC 54)) (.cells E2.toArray 39));rw[zf,List.toList_toArray]at hh;obtain⟨W5,h8⟩:∃ V,(w3.alloc (.cells SC 54)).alloc (.cells E2.toArray 39)=V:=⟨_,rfl⟩;rw[h8]at hH hP hh ⊢;have hk:=AP.out.keep hH;have h5:=AM.out.fr hH (fun _ _ _ h=>h.elim);have hC:=ztk _ _ eSecond (.slice none 0 0) (.slice (some ⟨w3.heap.size,0,none⟩) 2 2) 5 W5 hk (zq3 zi2 (SB.nil (fun _=>True) W5 0) hP h5 lg2) (by omega);rw[pb2,show tFirst.take zhq eSecond 5=tSecond by unfold Tb.take;rw[if_pos pb2];rfl,HE.out]at hC;simp only[show zgf 0 = .nilIface from rfl]at hC;have hQ:=za hC;have AO:=za hk;have AS:=za (AT.out.trans' hH);have AH:=za hh;obtain⟨d,hu,hd⟩:=qv;have Hu:=za hu;have Hd:=za hd;obtain⟨p5,h2⟩:∃ x,w3.heap.size+1=x:=⟨_,rfl⟩;rw[h2]at AH ⊢;clear hH hP hh hk h5 hC h8 hW hu hd h2 HE Hbe
 go_wp2_with(with_reducible refine wpList_load_mid rfl 39 _ rfl p5 0 rfl E2 d AH.out Hu.out Hd.out hy.out ?_)
 refine hQ.out.mono ?_;rintro r w6 ⟨rfl,⟨g6,lv6,hY⟩,AC⟩;have AR:=za (AS.out.took AO.out (by rw[HB.out];exact zt _) AC);have hA:=fun V (hV:Fr NoB w6 V)=>zvl ze7 V (hY.keep hV) (by decide)
 rw[la1]at hA
 have hE:∀ V,Fr NoB w6 V→Calls ze 29 #[.pointer (some ⟨tb,0,none⟩),.agg #[zm .u8 1,zm .u8 0,zm .u8 0,zm .u8 0,zm .u8 0,zm .u8 0,zm .u8 0,zm .u8 0,zm .u8 0,zm .u8 0,zm .u8 0,zm .u8 0,zm .u8 0,zm .u8 0,zm .u8 0,zm .u8 0,zm .u8 0,zm .u8 0,zm .u8 0,zm .u8 0,zm .u8 0,zm .u8 0,zm .u8 0,zm .u8 0,zm .u8 0,zm .u8 0,zm .u8 0,zm .u8 0,zm .u8 0,zm .u8 0,zm .u8 0,zm .u8 0]] V fun e w'=>e = .returned (.bool true)∧Fr NoB V w':=fun V hV=>by
  have h1:=zpi (k17 1) V (hY.keep hV) rfl;rw[lv1]at h1;exact h1
 have hD:∀ V,Fr NoB w6 V→Calls ze 29 #[.pointer (some ⟨tb,0,none⟩),.agg #[zm .u8 2,zm .u8 0,zm .u8 0,zm .u8 0,zm .u8 0,zm .u8 0,zm .u8 0,zm .u8 0,zm .u8 0,zm .u8 0,zm .u8 0,zm .u8 0,zm .u8 0,zm .u8 0,zm .u8 0,zm .u8 0,zm .u8 0,zm .u8 0,zm .u8 0,zm .u8 0,zm .u8 0,zm .u8 0,zm .u8 0,zm .u8 0,zm .u8 0,zm .u8 0,zm .u8 0,zm .u8 0,zm .u8 0,zm .u8 0,zm .u8 0,zm .u8 0]] V fun e w'=>e = .returned (.bool false)∧Fr NoB V w':=fun V hV=>by
  have h1:=zpi (k17 2) V (hY.keep hV) rfl;rw[lv2]at h1;exact h1
 have hG:=fun V (hV:Fr NoB w6 V)=>zk1 ze7 V (hY.keep hV) (by decide) (by omega)
 simp only[la2]at hG;have AL:∀ V,(Op.equalIn 10000 24 (.agg (zb (k17 2)).toArray) (.agg #[zm .u8 2,zm .u8 0,zm .u8 0,zm .u8 0,zm .u8 0,zm .u8 0,zm .u8 0,zm .u8 0,zm .u8 0,zm .u8 0,zm .u8 0,zm .u8 0,zm .u8 0,zm .u8 0,zm .u8 0,zm .u8 0,zm .u8 0,zm .u8 0,zm .u8 0,zm .u8 0,zm .u8 0,zm .u8 0,zm .u8 0,zm .u8 0,zm .u8 0,zm .u8 0,zm .u8 0,zm .u8 0,zm .u8 0,zm .u8 0,zm .u8 0,zm .u8 0])).run ze V = .ok true V:=fun V=>zdi (k17 2) (k17 2) rfl rfl V
 have hI:(zb (k17 2)).length=32:=rfl;have hO:=all_oneCell_toArray (j0 (k17 2));have hN:(#[zy z6 0,zy z6 0,zy z6 0,zy z6 0,zy z6 0,zy z6 0,zy z6 0,zy z6 0,zy z6 0,zy z6 0,zy z6 0,zy z6 0,zy z6 0,zy z6 0,zy z6 0,zy z6 0,zy z6 0,zy z6 0,zy z6 0,zy z6 0,zy z6 0,zy z6 0,zy z6 0,zy z6 0,zy z6 0,zy z6 0,zy z6 0,zy z6 0,zy z6 0,zy z6 0,zy z6 0,zy z6 0]:Array Value).size=(zb (k17 2)).toArray.size:=rfl;simp only at hA;obtain⟨hM,hZ⟩:∃ x,zb (k17 2)=x:=⟨_,rfl⟩;simp only[hZ]at hA AL hI hO hN;have Hbound:=za hA;have hL:=za hE;have hK:=za hD;have Hhist:=za hG;have Hkz:Hid ((Tryz.prog.info? 24).map (·.size)=some hM.length):=za (by rw[jb,hI]);have ht:Hid ((Tryz.prog.info? 24).map (·.size)=some hM.toArray.size):=za (by rw[jb,zn,hI]);have hw:=za hO;have hr:=za hN;clear hA hE hD hG hZ hI hO hN AC hY
 go_wp2_with fail
 refine(Hbound.out _ Fr.refl).mono ?_;rintro r w7 ⟨rfl,AB⟩;have AQ:=za AB;clear AB
 go_upto_region 8 with((with_reducible refine jh (w:=w7) rfl 24 _ _ rfl _ hM.toArray w7.heap.size rfl ?_ ?_ ht.out hr.out hw.out ?_);rfl;rfl)
 change Code.wp _ _ _ _ (w7.alloc (.cells hM.toArray 24));have hS:=jg (zh w7 (.cells hM.toArray 24));rw[List.toList_toArray]at hS;have ho:=AQ.out.alloc (.cells hM.toArray 24);obtain⟨W8,h7⟩:∃ V,w7.alloc (.cells hM.toArray 24)=V:=⟨_,rfl⟩;rw[h7]at hS ho ⊢;obtain⟨q,hz⟩:∃ q,w7.heap.size=q:=⟨_,rfl⟩;rw[hz]at hS ⊢;have HQ:=za hS;have AJ:=za ho;clear hS ho h7 hz
 go_wp2_with (first
  | (with_reducible refine z8 24 _ rfl q 0 rfl hM (.array 32 5) HQ.out z7 rfl Hkz.out rfl ?_))
 refine(hL.out _ AJ.out).mono ?_;rintro r w9 ⟨rfl,AA⟩;have AI:=za (AJ.out.trans' AA);clear AA
 go_wp2_with fail
 refine(hK.out _ AI.out).mono ?_;rintro r w10 ⟨rfl,hb⟩;have hf:=za (AI.out.trans' hb);clear hb
 go_wp2_with fail
 refine(Hhist.out _ hf.out).mono ?_;rintro r w11 ⟨v',rfl,hU,ha⟩;have hx:=za (AR.out.trans' (hf.out.trans' ha))
 obtain ⟨a,c,rfl⟩:∃ a c,v' = .slice a 2 c:=by
  rcases hU.2 with⟨-,h0⟩ | ⟨g,cap,cur,h1,-⟩
  ·cases h0
  exact⟨_,_,h1⟩
 clear ha hU
 go_wp2_with fail
 go_ret;exact⟨rfl,hx.out⟩
end
end Go.Proofs.YtcddlemkimbkcaaGreatDoor
