/-
 Small facts for the walks of chapter 17's laws.
-/
import Derived.Test.YtcddlemkimbkcaaGreatDoorKAlive17
import Derived.Test.YtcddlemkimbkcaaGreatDoorKReadCame
import Derived.Test.YtcddlemkimbkcaaGreatDoorKRefRows2
import Derived.Test.YtcddlemkimbkcaaGreatDoorKBackward
import Derived.Test.YtcddlemkimbkcaaGreatDoorKSeq
open Go.Lib renaming hid→za,byteCells→zb
open List renaming size_toArray→zn
open Go.Value renaming int→zy
open Go.IntKind renaming u8→z6
namespace Go.Proofs.YtcddlemkimbkcaaGreatDoor
set_option linter.unusedVariables false
set_option linter.unusedSimpArgs false
set_option linter.unusedSectionVars false
set_option maxRecDepth 100000
set_option maxHeartbeats 2000000
section
open Go.RowKit Go.Shelf
variable [OldK]
theorem zl9:∃ d,Tryz.prog.underlying 41=some d∧d.isRow=true:=⟨_,Tryz.underlying41,rfl⟩
theorem zgb:(Tryz.prog.info? 41).map (·.size)=some 71:=by kernel_rfl
theorem CameV.size {c:CameV}(h:c.e.ok):c.cells.length=71:=by simp[CameV.cells,En.size h]
theorem CameV.one {c:CameV}(hp:c.pv.oneCell'=true)(hs:c.sv.oneCell'=true):c.cells.toArray.all (·.oneCell')=true:=by
 refine all_oneCell_toArray (fun v hv=>?_);unfold CameV.cells at hv;rcases List.mem_append.1 hv with h | h
 ·have:=En.one (e:=c.e) hp hs;rw[List.all_toArray,List.all_eq_true]at this;exact this v h
 obtain rfl:v = .int .i64 c.pos:=by simpa using h
 rfl
end
section
open Go.RowKit Go.Shelf
variable [OldK]
theorem zbj {w:World}{base s n k:Nat}{e:TypeId}{v:Value}{xs:List Value}(h:w.ownsRow base e s v n xs)(hk:some k=v.ownBlock):base≤k∧∃ o,w.heap[k]? = some o∧OfTy e o:=by
 rcases h.2 with⟨rfl,-⟩ | ⟨g,cap,cur,rfl,h1,h2,-⟩
 ·cases hk
 obtain rfl:k=g:=by simpa[Value.ownBlock] using hk
 exact⟨h1,_,h2,_,_,rfl⟩
theorem zdb {w:World}{base e s n:Nat}{v:Value}{xs:List Value}(h:w.ownsRow base e s v n xs):(v = .slice none 0 0∧n=0)∨∃ g cap,v = .slice (some ⟨g,0,none⟩) n cap∧base≤g∧g<w.heap.size∧n≤cap∧cap≤maxLen:=by
 rcases h.2 with h | ⟨g,cap,cur,h1,h2,h3,h4,h5,-⟩
 ·exact .inl h
 exact .inr ⟨g,cap,h1,h2,jo h3,h4,h5⟩
theorem OfTy.one {e e':TypeId}{o:Obj}(h:OfTy e o)(h':OfTy e' o):e=e':=by
 obtain⟨c,f,rfl⟩:=h;obtain⟨c',f',h'⟩:=h'
 injection h' with _ h' _
theorem zeu {k:TypeId}{K:KeyB Tryz.prog k}{w:World}{b m:Nat}{M:Bs→Option Value}(h:MapB K w b m M){e:TypeId}{o:Obj}(hk:w.heap[b]? = some o):¬ OfTy e o:=fun ho=>by
 obtain⟨D,⟨es,clock,h0,-⟩,-⟩:=h;obtain⟨c,f,rfl⟩:=ho;rw[h0]at hk;cases hk
theorem TBL.beside {base base' tb n bc bl s m:Nat}{t:Tb}{g lv:Bs→Option Value}{w w':World}{e:TypeId}{v:Value}{xs:List Value}(h:TBL base tb n bc bl t g lv w)(ho:w.ownsRow base' e s v m xs)(h1:e≠117)(h2:e≠115)(hg:w.grownBy w' v.ownBlock):TBL base tb n bc bl t g lv w':=by
 have hF:Fr (fun k o=>some k=v.ownBlock∧w.heap[k]? = some o) w w':=(Fr.ofGrown hg).mono2 (fun k o hk hm=>⟨hm,hk⟩);refine h.fr hF (fun k o hk hm=>?_);obtain⟨-,o',e1,e2⟩:=zbj ho hm.1;rw[hm.2]at e1;cases e1;rcases hk with rfl | rfl | rfl | ⟨-,hk⟩
 ·have:=hm.2;rw[h.cells]at this;cases this;exact h2 (e2.one ⟨_,_,rfl⟩)
 ·exact zeu h.ch hm.2 e2
 ·exact zeu h.li hm.2 e2
 exact h1 (e2.one hk)
theorem zj1 {base base' tb n bc bl s m:Nat}{t:Tb}{g lv:Bs→Option Value}{w w':World}{e:TypeId}{v:Value}{xs:List Value}(h:TBL base tb n bc bl t g lv w)(ho:w.ownsRow base' e s v m xs)(h1:e≠117)(hF:Fr (TM base bc bl) w w'):w'.ownsRow base' e s v m xs:=by
 have hA:Fr (fun k o=>TM base bc bl k o∧w.heap[k]? = some o) w w':=hF.mono2 (fun k o hk hm=>⟨hm,hk⟩);refine zac ho hA (fun k o hk ht hm=>?_);obtain⟨hm,hw⟩:=hm;rcases hm with rfl | rfl | ⟨-,hm⟩
 ·exact zeu h.ch hw ht
 ·exact zeu h.li hw ht
 exact h1 (ht.one hm)
theorem zci {base base' s s' m m':Nat}{w w':World}{e e':TypeId}{v v':Value}{xs xs':List Value}(h:w.ownsRow base e s v m xs)(ho:w.ownsRow base' e' s' v' m' xs')(h1:e≠e')(hg:w.grownBy w' v'.ownBlock):w'.ownsRow base e s v m xs:=by
 have hF:Fr (fun k o=>some k=v'.ownBlock∧w.heap[k]? = some o) w w':=(Fr.ofGrown hg).mono2 (fun k o hk hm=>⟨hm,hk⟩);refine zac h hF (fun k o hk ht hm=>?_);obtain⟨-,o',e1,e2⟩:=zbj ho hm.1;rw[hm.2]at e1;cases e1;exact h1 (ht.one e2)
theorem zfr {base s m:Nat}{w w':World}{e:TypeId}{v:Value}{xs:List Value}(h:w.ownsRow base e s v m xs)(hF:Fr NoB w w'):w'.ownsRow base e s v m xs:=zac h hF (fun _ _ _ _ h=>h)
theorem zkz {base s m:Nat}{w0 w w':World}{e:TypeId}{v:Value}{xs:List Value}(h:w.ownsRow base e s v m xs)(hb:w0.heap.size≤base)(hF:Fr NoB w0 w)(hg:w.grownBy w' v.ownBlock):Fr NoB w0 w' :=
 hF.trans (Fr.ofGrown hg) (fun k _ hm => .inr (by have:=(zbj h (k:=k) hm).1;omega))
theorem zwe {base s m:Nat}{w w':World}{e:TypeId}{v:Value}{xs:List Value}(h:w.ownsRow base e s v m xs)(hb:3≤base)(hg:Gl w)(hgr:w.grownBy w' v.ownBlock):Gl w' :=
 hg.fr (Fr.ofGrown hgr) (fun k _ hk hm=>by have:=(zbj h (k:=k) hm).1;omega)
end
section
open Go.RowKit Go.Shelf
variable [OldK]
theorem zmk:(Tryz.prog.info? 24).map (fun i=>(i.zero,i.size,i.bytes))=some (some (.agg #[zy z6 0,zy z6 0,zy z6 0,zy z6 0,zy z6 0,zy z6 0,zy z6 0,zy z6 0,zy z6 0,zy z6 0,zy z6 0,zy z6 0,zy z6 0,zy z6 0,zy z6 0,zy z6 0,zy z6 0,zy z6 0,zy z6 0,zy z6 0,zy z6 0,zy z6 0,zy z6 0,zy z6 0,zy z6 0,zy z6 0,zy z6 0,zy z6 0,zy z6 0,zy z6 0,zy z6 0,zy z6 0]),32,32):=by kernel_rfl
def zwx (ks:List (Bs × Bool)):List Value:=ks.flatMap (fun x=>zb x.1)
theorem zvg (ks:List (Bs × Bool)) (hk:∀ x∈ks,x.1.length=32):∀ i x,ks[i]? = some x→∀ j v,(zb x.1)[j]? = some v→(zwx ks)[i * 32+j]? = some v:=by
 induction ks with
 | nil=>intro i x hi;cases hi
 | cons y l ih =>
   intro i x hi j v hv;have hy:(zb y.1).length=32:=by rw[ja];exact hk y (by simp)
   unfold zwx;rw[List.flatMap_cons];cases i with
   | zero =>
     obtain rfl:y=x:=by simpa using hi
     rw [Nat.zero_mul,Nat.zero_add,List.getElem?_append_left (by
      have:=(List.getElem?_eq_some_iff.1 hv).1
      exact this)]
     exact hv
   | succ i =>
     rw[List.getElem?_append_right (by rw[hy];omega),hy,show(i+1) * 32+j - 32=i * 32+j by omega];exact ih (fun c hc=>hk c (by simp[hc])) i x (by simpa using hi) j v hv
theorem zuw {w:World}{base g n cap m:Nat}{ks:List (Bs × Bool)}(h:w.ownsRow base 24 32 (.slice (some ⟨g,0,none⟩) n cap) m (zwx ks))(hk:∀ x∈ks,x.1.length=32)(i:Nat)(x:Bs × Bool)(hi:ks[i]? = some x):w.rangeAt g (i * 32) (zb x.1):=by
 intro j v hv;have:=h.cells (g:=g) rfl (i * 32+j) v (zvg ks hk i x hi j v hv);rw[Addr.add_lit]at this;rw[Nat.zero_add]at this;exact this
end
section
open Go.RowKit Go.Shelf
variable [OldK]
def hv (m:List CameV) (n:Bs):List CameV:=m.filter (fun c=>decide (c.e.ident=n))
theorem zvq (m:List CameV)(n:Bs):(hv m n).map CameV.cm=zgm (m.map CameV.cm) n:=by
 unfold hv zgm;rw[List.filter_map];rfl
theorem zvp (m:List CameV)(n:Bs)(i:Nat)(hi:i<m.length):hv (m.take (i+1)) n=hv (m.take i) n++(if m[i].e.ident=n then [m[i]] else []):=by
 unfold hv;rw[List.take_add_one,List.getElem?_eq_getElem hi,List.filter_append]
 congr 1
 by_cases h:m[i].e.ident=n<;>simp[h]
theorem zjf {m:List CameV}{n:Bs}{c:CameV}(h:c∈hv m n):c∈m:=(List.mem_filter.1 h).1
theorem zrb (m:List CameV)(n:Bs):(hv m n).length≤m.length:=List.length_filter_le _ _
def ztv (l:List CameV):List Value:=l.flatMap CameV.cells
theorem zgd:(Tryz.prog.info? 67).map (fun i=>(i.zero,i.size,i.bytes))=some (some (.agg Tryz.zeroCells67),71,168):=by kernel_rfl
theorem zip:(Tryz.prog.info? 67).map (·.size)=some 71:=by kernel_rfl
theorem zi1:∃ d,Tryz.prog.underlying 67=some d∧d.isRow=true:=⟨_,Tryz.underlying67,rfl⟩
theorem zs9 (l:List CameV) (hk:∀ c∈l,c.e.ok):∀ i c,l[i]? = some c→∀ j v,c.cells[j]? = some v→(ztv l)[i * 71+j]? = some v:=by
 induction l with
 | nil=>intro i c hi;cases hi
 | cons x l ih =>
   intro i c hi j v hv;have hx:=CameV.size (hk x (by simp));unfold ztv;rw[List.flatMap_cons];cases i with
   | zero =>
     obtain rfl:x=c:=by simpa using hi
     rw [Nat.zero_mul,Nat.zero_add,List.getElem?_append_left (by
      have:=(List.getElem?_eq_some_iff.1 hv).1
      exact this)]
     exact hv
   | succ i =>
     rw[List.getElem?_append_right (by rw[hx];omega),hx,show(i+1) * 71+j - 71=i * 71+j by omega];exact ih (fun c hc=>hk c (by simp[hc])) i c (by simpa using hi) j v hv
theorem CRow.ofRow {m:List CameV}{v:Value}{w:World}{base:Nat}(h:w.ownsRow base 67 71 v m.length (ztv m))(h1:m.length≤1000)(h2:∀ c∈m,c.e.ok)(h3:∀ c∈m,c.pv.oneCell'=true∧c.sv.oneCell'=true):CRow m v w:=by
 refine⟨h1,h2,h3,?_⟩;rcases h.2 with⟨rfl,h0⟩ | ⟨g,cap,cur,rfl,e1,e2,e3,e4,e5⟩
 ·have:m=[]:=List.length_eq_zero_iff.1 h0;subst this;exact⟨_,_,rfl,.inl rfl⟩
 refine⟨_,_,rfl,.inr ⟨g,rfl,jo e2,fun i hi j v hv=>?_⟩⟩;have:=h.cells (g:=g) rfl (i * 71+j) v (zs9 m h2 i _ (List.getElem?_eq_getElem hi) j v hv);rw[Addr.add_lit]at this;rw[Nat.zero_add]at this;exact this
theorem zk2 (m:List CameV) (v:Value) (n:Bs) (w:World) (h:CRow m v w) :
 Calls Tryz.prog 75 #[v,.string ⟨n.toArray⟩] w fun e w'=>∃ v',e = .returned v'∧w'.ownsRow w.heap.size 67 71 v' (hv m n).length (ztv (hv m n))∧Fr NoB w w':=by
 obtain⟨a,cap,hK⟩:=h.form;have hlen:=h.len;have Hh:=za h;obtain⟨ic,hV,hD,hC,hP⟩:=info_parts zgd;obtain⟨d,hu,hd⟩:=zi1;have Hu:=za hu;have Hd:=za hd;subst hK;clear h hu hd;go_enter Tryz.func75,Tryz.ntmps75
 go_wp2_with fail
 go_loopg [5,6] (m.length+1) (fun gf vo vi wr=>∃ i:Nat,vi = .int .i64 i∧i≤m.length∧i+gf=m.length+1∧Hid (wr.ownsRow w.heap.size 67 71 vo (hv (m.take i) n).length (ztv (hv (m.take i) n)))∧Hid (Fr NoB w wr))
 case atStart=>exact⟨0,rfl,by omega,by omega,za ⟨rfl,.inl ⟨rfl,rfl⟩⟩,za Fr.refl⟩
 case round =>
  obtain⟨i,rfl,hi,hig,HO,hE⟩:=hrel;by_cases hI:i<m.length
  ·have hN:decide ((i:Int)<m.length)=true:=decide_eq_true (by omega);have hU:wrap64 ((i:Int)+1)=(i:Int)+1:=by unfold wrap64;omega
   have hJ:=Hh.out.keep hE.out;obtain⟨b,cap',hK,hb,hr⟩:=hJ.get hI
   injection hK with e1 e2 e3
   subst e1 e3;have hH:=hJ.ok _ (List.getElem_mem hI);have hG:=hJ.one _ (List.getElem_mem hI);obtain⟨-,k1,-,-⟩:=zfb hH hr;have hF:=zvp m n i hI;have hO:=Nat.le_trans (zrb (m.take i) n) (List.length_take_le i m);obtain⟨c,hc⟩:∃ c,m[i]=c:=⟨_,rfl⟩;rw[hc]at k1 hH hG hr hF;have hM:=CameV.size hH;have hQ:=CameV.one hG.1 hG.2;obtain⟨L,hL⟩:∃ L,hv (m.take i) n=L:=⟨_,rfl⟩;rw[hL]at HO hF hO;obtain⟨CC,hS⟩:∃ x,c.cells=x:=⟨_,rfl⟩;rw[hS]at hr hM hQ;have HR:=za hr;have Hst:=za hF;have Hhl:=za hO;have Hsz:=za hM;have hX:=za hQ;have ha:=za hS;clear hJ hr hH hG hF hO hc hM hQ hL hb hS;cases hx:(c.e.ident==n) with
   | true =>
     have Hx:=za hx;have hW:Hid ((Tryz.prog.info? 67).map (·.size)=some CC.length):=za (by rw[zip,Hsz.out])
     have hR:=zaj (P:=Tryz.prog) hV hD hC (by rfl) (by decide) (by decide:0<1) (by decide) [.agg CC.toArray] (fun v hv=>by
      obtain rfl:v = .agg CC.toArray:=by simpa using hv
      show CC.toArray.size=71
      rw[zn,Hsz.out]) rfl
     have hT:Hid (Tryz.prog.builtSlice 67 1 [(0,.agg CC.toArray)]=some CC.toArray):=za (by
      have e:([Value.agg CC.toArray].flatMap fun v=>v.cells.toList).toArray=CC.toArray:=by simp[Value.cells]
      rw[e]at hR
      exact hR)
     clear hR
     go_wp2_with (first
      | (with_reducible refine wpList_load_mid rfl 67 _ rfl b (i * 71) rfl CC d HR.out Hu.out Hd.out hW.out ?_)
      | ((with_reducible refine Great.wpList_buildSliceTo ?_ 62 67 1 _ rfl wr.heap.size rfl _ rfl Tryz.underlying62 CC.toArray ?_ ?_);rfl;(refine Eq.trans (congrArg (Tryz.prog.builtSlice 67 1) ?_) hT.out;kernel_rfl))
      | (at_builtin;refine zfm ?_))
     refine za ?_;refine wpList_append_own _ rfl _ _ 62 rfl w.heap.size 67 ic (.agg Tryz.zeroCells67) 71 168 Tryz.underlying62 hV hD hC hP rfl (by decide) _ L.length (ztv L) rfl (HO.out.alloc _) ⟨wr.heap.size,0,none⟩ 1 1 CC rfl (by rw[Hsz.out]) (zar wr CC 67) (by have h:=hX.out;rw[List.all_toArray,List.all_eq_true]at h;exact h) (by have:=Hhl.out;unfold maxLen;omega) (by have:=Hhl.out;omega) (by rw[World.size_alloc];have:=hE.out.size;omega) ?_;intro vo' w9 hA hB _;have hZ:=za (zkz (HO.out.alloc _) (Nat.le_refl _) (hE.out.alloc _) hB);have hY:=za hA;clear hA hB
     go_wp2_with fail
     go_roundg (gk - 1)
     case measure=>omega
     case rel =>
      have h2:c.e.ident=n:=by simpa using Hx.out
      have hs:=Hst.out;rw[if_pos h2]at hs;refine⟨i+1,by simp[hU],by omega,by omega,za ?_,hZ⟩;rw[hs,List.length_append];have:ztv (L++[c])=ztv L++CC:=by rw[← ha.out];simp[ztv]
      rw[this];exact hY.out
   | false =>
     have Hx:=za hx
     go_wp2_with fail
     go_roundg (gk - 1)
     case measure=>omega
     case rel =>
      have h2:¬ c.e.ident=n:=by simpa using Hx.out
      have hs:=Hst.out;rw[if_neg h2,List.append_nil]at hs;refine⟨i+1,by simp[hU],by omega,by omega,za ?_,hE⟩;rw[hs];exact HO.out
  have hN:decide ((i:Int)<m.length)=false:=decide_eq_false (by omega);have he:m.take i=m:=List.take_of_length_le (by omega);rw[he]at HO;clear he
  go_wp2_with fail
  go_ret;exact⟨_,rfl,HO.out,hE.out⟩
end
section
open Go.RowKit Go.Shelf
variable [OldK]
def zxw:Option Cm→Bs × Bool
 | some c=>(c.1.key,decide (c.1.op≠3))
 | none=>(ji,false)
theorem zt3 (m:List Cm)(n:Bs)(p:Int):rAt m n p=zxw ((zgm m n).reverse.find? (fun c=>decide (c.2≤p))):=by
 unfold rAt;cases(zgm m n).reverse.find? (fun c=>decide (c.2≤p))<;>rfl
theorem zpx {cs:List Cm}{p:Int}{q:Nat}(hq:q<cs.length):(cs.take (q+1)).reverse.find? (fun c=>decide (c.2≤p))=if (cs[q]).2≤p then some cs[q] else (cs.take q).reverse.find? (fun c=>decide (c.2≤p)):=by
 rw[List.take_add_one,List.getElem?_eq_getElem hq,List.reverse_append];show([cs[q]]++_).find? _=_;rw[List.singleton_append,List.find?_cons];by_cases h:(cs[q]).2≤p
 ·rw[if_pos h,decide_eq_true h]
 rw[if_neg h,decide_eq_false h]
theorem zux (m:List CameV) (v:Value) (n:Bs) (place:Int) (w:World) (h:CRow m v w) :
 Calls Tryz.prog 74 #[v,.string ⟨n.toArray⟩,.int .i64 place] w fun e w'=>e = .returned (.tuple #[.agg (zb (rAt (m.map CameV.cm) n place).1).toArray,.bool (rAt (m.map CameV.cm) n place).2])∧Fr NoB w w':=by
 have hF:Fr NoB w (w.alloc (.cells #[zy z6 0,zy z6 0,zy z6 0,zy z6 0,zy z6 0,zy z6 0,zy z6 0,zy z6 0,zy z6 0,zy z6 0,zy z6 0,zy z6 0,zy z6 0,zy z6 0,zy z6 0,zy z6 0,zy z6 0,zy z6 0,zy z6 0,zy z6 0,zy z6 0,zy z6 0,zy z6 0,zy z6 0,zy z6 0,zy z6 0,zy z6 0,zy z6 0,zy z6 0,zy z6 0,zy z6 0,zy z6 0] 24)):=Fr.refl.alloc _;have hW:=h.keep hF;have hC:=zk2 m v n _ hW;have hk:=heap_alloc_new w (.cells #[zy z6 0,zy z6 0,zy z6 0,zy z6 0,zy z6 0,zy z6 0,zy z6 0,zy z6 0,zy z6 0,zy z6 0,zy z6 0,zy z6 0,zy z6 0,zy z6 0,zy z6 0,zy z6 0,zy z6 0,zy z6 0,zy z6 0,zy z6 0,zy z6 0,zy z6 0,zy z6 0,zy z6 0,zy z6 0,zy z6 0,zy z6 0,zy z6 0,zy z6 0,zy z6 0,zy z6 0,zy z6 0] 24);have hg:w.heap.size<(w.alloc (.cells #[zy z6 0,zy z6 0,zy z6 0,zy z6 0,zy z6 0,zy z6 0,zy z6 0,zy z6 0,zy z6 0,zy z6 0,zy z6 0,zy z6 0,zy z6 0,zy z6 0,zy z6 0,zy z6 0,zy z6 0,zy z6 0,zy z6 0,zy z6 0,zy z6 0,zy z6 0,zy z6 0,zy z6 0,zy z6 0,zy z6 0,zy z6 0,zy z6 0,zy z6 0,zy z6 0,zy z6 0,zy z6 0] 24)).heap.size:=by rw[World.size_alloc];omega
 obtain⟨R,hR⟩:∃ R,rAt (m.map CameV.cm) n place=R:=⟨_,rfl⟩;rw[hR];rw[zt3,← zvq]at hR;have hh:=Nat.le_trans (zrb m n) h.len;have hG:∀ c∈hv m n,c.e.ok:=fun c hc=>h.ok c (zjf hc)
 have hE:∀ c∈hv m n,c.pv.oneCell'=true∧c.sv.oneCell'=true:=fun c hc=>h.one c (zjf hc)
 obtain⟨L,hL⟩:∃ L,hv m n=L:=⟨_,rfl⟩;rw[hL]at hR hC hh hG hE;have HR:=za hR;have HF:=za hF;have Hhist:=za hC;have hU:=za hk;have hN:=za hg;have hO:=za hG;have ha:=za hE;clear hR hF hC hk hg hG hE h hW hL;go_enter Tryz.func74,Tryz.ntmps74
 go_upto_region 1 with(fail)
 change Code.wp _ _ _ _ (w.alloc (.cells #[zy z6 0,zy z6 0,zy z6 0,zy z6 0,zy z6 0,zy z6 0,zy z6 0,zy z6 0,zy z6 0,zy z6 0,zy z6 0,zy z6 0,zy z6 0,zy z6 0,zy z6 0,zy z6 0,zy z6 0,zy z6 0,zy z6 0,zy z6 0,zy z6 0,zy z6 0,zy z6 0,zy z6 0,zy z6 0,zy z6 0,zy z6 0,zy z6 0,zy z6 0,zy z6 0,zy z6 0,zy z6 0] 24));obtain⟨W,hW⟩:∃ W,w.alloc (.cells #[zy z6 0,zy z6 0,zy z6 0,zy z6 0,zy z6 0,zy z6 0,zy z6 0,zy z6 0,zy z6 0,zy z6 0,zy z6 0,zy z6 0,zy z6 0,zy z6 0,zy z6 0,zy z6 0,zy z6 0,zy z6 0,zy z6 0,zy z6 0,zy z6 0,zy z6 0,zy z6 0,zy z6 0,zy z6 0,zy z6 0,zy z6 0,zy z6 0,zy z6 0,zy z6 0,zy z6 0,zy z6 0] 24)=W:=⟨_,rfl⟩;rw[hW]at HF Hhist hU hN ⊢;obtain⟨p,hp⟩:∃ p,w.heap.size=p:=⟨_,rfl⟩;rw[hp]at hU hN ⊢;have Hp:=za hp;clear hW hp
 go_wp2_with fail
 refine Hhist.out.mono ?_;rintro e w1 ⟨v',rfl,h1,h2⟩;have hZ:=CRow.ofRow h1 hh hO.out ha.out;have hj:=h2.block _ _ hU.out (fun h=>h);obtain⟨a,cap,hX⟩:=hZ.form;subst hX;have hs:wrap64 ((L.length:Int) - 1)=(L.length:Int) - 1:=by unfold wrap64;omega
 have Hpb:Hid (∀ b',a=some ⟨b',0,none⟩→p<b'):=za (fun b' e=>by subst e;have:=(zbj h1 (k:=b') rfl).1;have:=hN.out;omega);have h5:=za hZ;have hw:=za hj;have hn:=za (HF.out.trans' h2);have Hpw1:=za (Nat.lt_of_lt_of_le hN.out h2.size);clear h1 h2 hZ hj Hhist hU HF hN
 go_wp2_with fail
 go_loopg [9] (L.length+1) (fun gf vi wr=>∃ q:Nat,vi = .int .i64 ((q:Int) - 1)∧q+1=gf∧q≤L.length∧Hid (zxw (((L.map CameV.cm).take q).reverse.find? (fun c=>decide (c.2≤place)))=R)∧wr=w1)
 case atStart=>exact⟨L.length,by simp[hs],rfl,Nat.le_refl _,za (by rw[List.take_of_length_le (by simp)];exact HR.out),rfl⟩
 case round =>
  obtain⟨q,rfl,hqg,hq,he,rfl⟩:=hrel;have hT:wr.there p 0 32:=jr hw.out (Nat.le_refl _);cases q with
  | zero =>
    have h0:R=(ji,false):=he.out.symm;subst h0;have HT:Hid (wr.there p 0 (#[zy z6 0,zy z6 0,zy z6 0,zy z6 0,zy z6 0,zy z6 0,zy z6 0,zy z6 0,zy z6 0,zy z6 0,zy z6 0,zy z6 0,zy z6 0,zy z6 0,zy z6 0,zy z6 0,zy z6 0,zy z6 0,zy z6 0,zy z6 0,zy z6 0,zy z6 0,zy z6 0,zy z6 0,zy z6 0,zy z6 0,zy z6 0,zy z6 0,zy z6 0,zy z6 0,zy z6 0,zy z6 0]:Array Value).size):=za hT;have hH:=run_loadVar_mid (P:=Tryz.prog) _ p 0 24 _ (.array 32 5) (World.rangeAt_setCells_same wr p 0 (#[zy z6 0,zy z6 0,zy z6 0,zy z6 0,zy z6 0,zy z6 0,zy z6 0,zy z6 0,zy z6 0,zy z6 0,zy z6 0,zy z6 0,zy z6 0,zy z6 0,zy z6 0,zy z6 0,zy z6 0,zy z6 0,zy z6 0,zy z6 0,zy z6 0,zy z6 0,zy z6 0,zy z6 0,zy z6 0,zy z6 0,zy z6 0,zy z6 0,zy z6 0,zy z6 0,zy z6 0,zy z6 0]:Array Value).toList HT.out) z7 rfl zv3;have HE:Hid (Fr NoB w (wr.setCells p 0 (#[zy z6 0,zy z6 0,zy z6 0,zy z6 0,zy z6 0,zy z6 0,zy z6 0,zy z6 0,zy z6 0,zy z6 0,zy z6 0,zy z6 0,zy z6 0,zy z6 0,zy z6 0,zy z6 0,zy z6 0,zy z6 0,zy z6 0,zy z6 0,zy z6 0,zy z6 0,zy z6 0,zy z6 0,zy z6 0,zy z6 0,zy z6 0,zy z6 0,zy z6 0,zy z6 0,zy z6 0,zy z6 0]:Array Value).toList)):=za (hn.out.trans (jd p _ 0 _) (fun k _ hm => .inr (by have h2:k=p:=hm;have:=Hp.out;omega)));have Hld:=za hH;clear hT hH
    go_wp2_with((with_reducible refine wpList_store_mid rfl 24 _ _ rfl p 0 #[zy z6 0,zy z6 0,zy z6 0,zy z6 0,zy z6 0,zy z6 0,zy z6 0,zy z6 0,zy z6 0,zy z6 0,zy z6 0,zy z6 0,zy z6 0,zy z6 0,zy z6 0,zy z6 0,zy z6 0,zy z6 0,zy z6 0,zy z6 0,zy z6 0,zy z6 0,zy z6 0,zy z6 0,zy z6 0,zy z6 0,zy z6 0,zy z6 0,zy z6 0,zy z6 0,zy z6 0,zy z6 0] ?_ ?_ HT.out zv3 zxi ?_);rfl;rfl)
    refine bodyPost_ret (v := .tuple #[.agg #[zy z6 0,zy z6 0,zy z6 0,zy z6 0,zy z6 0,zy z6 0,zy z6 0,zy z6 0,zy z6 0,zy z6 0,zy z6 0,zy z6 0,zy z6 0,zy z6 0,zy z6 0,zy z6 0,zy z6 0,zy z6 0,zy z6 0,zy z6 0,zy z6 0,zy z6 0,zy z6 0,zy z6 0,zy z6 0,zy z6 0,zy z6 0,zy z6 0,zy z6 0,zy z6 0,zy z6 0,zy z6 0],.bool false]) ?_ rfl ⟨rfl,HE.out⟩;have hH:=Hld.out;rw[results_cell_tmp rfl]
    try simp only[Array.toArray_toList]at hH
    simp[asAddr,Result.andThen,hH]
  | succ q =>
    obtain⟨b,cap',hX,hb,hr⟩:=h5.out.get (i:=q) (by omega)
    injection hX with e1 e2 e3
    subst e1 e3;have hP:=hO.out _ (List.getElem_mem (show q<L.length by omega));obtain⟨k0,-,k2,k3⟩:=zfb hP hr;have hB:=zpx (p:=place) (cs:=L.map CameV.cm) (q:=q) (by simp;omega);have hi:(L.map CameV.cm)[q]'(by simp;omega)=L[q].cm:=by simp
    rw[hi]at hB;have hS:=he.out;rw[hB]at hS;have ht:((q+1:Nat):Int) - 1=(q:Int):=by omega
    have ho:wrap64 ((q:Int) - 1)=(q:Int) - 1:=by unfold wrap64;omega
    rw[ht];have hql:q<L.length:=by omega
    obtain⟨c,hc⟩:∃ c,L[q]=c:=⟨_,rfl⟩;rw[hc]at k0 k2 k3 hP hS;have hJ:(zb c.e.key).length=32:=by rw[ja];exact hP.2.1
    have hQ:=all_oneCell_toArray (jz c.e.key);have hD:=za hS;clear hr hB hi hc hS he hP;by_cases hI:c.pos≤place
    ·have hY:decide (c.pos≤place)=true:=decide_eq_true hI;have hR:=hD.out;rw[if_pos (show(CameV.cm c).2≤place from hI)]at hR;have hl:R=(c.e.key,decide (c.e.op≠3)):=hR.symm;obtain⟨KC,hK⟩:∃ KC,zb c.e.key=KC:=⟨_,rfl⟩;rw[hK]at k2 hJ hQ;have hz:=za hK;have h4:=za k2;have Hbw:=za hb;have hf:b≠p:=by have:=Hpb.out b rfl;omega
     have hV:=za hf;have Hkz:Hid ((Tryz.prog.info? 24).map (·.size)=some KC.length):=za (by rw[jc,hJ]);have hd:Hid ((Tryz.prog.info? 24).map (·.size)=some KC.toArray.size):=za (by rw[jc,zn,hJ]);have hu:=za hQ;have HT:Hid (wr.there p 0 KC.toArray.size):=za (by rw[show KC.toArray.size=32 by rw[zn,hJ]];exact hT);have hx:=za hl;clear k2 hJ hQ hK hb hf hT hR hl hD hI
     go_wp2_with fail
     refine wp_region_held_drew (S:=fun V=>Hid (Fr (fun k _=>k=p) wr V)) (by kernel_rfl) (za Fr.refl.drew) (fun hA=>?_);simp only[qV]
     iterate 5
      refine qt (v:=?_) rfl (Or.inl ⟨by rfl,?_⟩) hA ?_;rotate_left
      ·intro W hM;have h1:=Fr.cell hM.out k0 (fun _ h=>hV.out h)
       try simp only[qQ]
       go_simp
       try rw[if_neg (by omega)]
       try with_reducible rfl
      try simp only[Act.put,qP]
     refine qi (i:=5) rfl (yieldsIf_load_mid (by rfl) 24 _ rfl b (q * 71+37) rfl KC (.array 32 5) (fun V h=>je h4.out h.out Hbw.out (fun _ h=>hV.out h)) z7 rfl Hkz.out) hA ?_
     try simp only[Act.put,qP]
     iterate 7
      refine qt (v:=?_) rfl (Or.inl ⟨by rfl,?_⟩) hA ?_;rotate_left
      ·intro W hM;have h1:=Fr.cell hM.out k0 (fun _ h=>hV.out h)
       try simp only[qQ]
       go_simp
       try rw[if_neg (by omega)]
       try with_reducible rfl
      try simp only[Act.put,qP]
     refine qr (i:=13) (by kernel_rfl) rfl (fun K hK=>?_)
     try simp only[qQ]
     rw[if_pos (by rfl)];refine wp_store_mid 24 (.tmp 6) (.tmp 32) (by rfl) p 0 KC.toArray (by rfl) (by rfl) HT.out hd.out hu.out ?_;refine hK.out _ _ (za (hA.out.trans' ((jd p _ _ _).mono (fun _ _ h=>h)))) (fun hA=>?_);clear hK K
     try simp only[Act.put,qP]
     refine qt (v:=?_) rfl (Or.inl ⟨by rfl,?_⟩) hA ?_;rotate_left
     ·intro W hM;have h1:=Fr.cell hM.out k0 (fun _ h=>hV.out h)
      try simp only[qQ]
      go_simp
      try rw[if_neg (by omega)]
      try with_reducible rfl
     try simp only[Act.put,qP]
     refine wpAnyH_done (by kernel_rfl) ?_ _;have HE:=za (hn.out.trans hA.out (fun k _ hm => .inr (by have h2:k=p:=hm;have:=Hp.out;omega)));have hH:=run_loadVar_mid (P:=Tryz.prog) _ p 0 24 KC (.array 32 5) (World.rangeAt_setCells_same wr.drew p 0 KC (by simpa using HT.out)) z7 rfl Hkz.out;clear hA
     go_wp2_with fail
     have h3:(c.e.op != 3)=decide (c.e.op≠3):=by by_cases e:c.e.op=3<;>simp[e]
     refine bodyPost_ret (v := .tuple #[.agg KC.toArray,.bool (c.e.op != 3)]) ?_ rfl ⟨by rw[hx.out,h3];simp only[hz.out],HE.out⟩;rw[results_cell_tmp rfl];simp[asAddr,Result.andThen,hH]
    have hY:decide (c.pos≤place)=false:=decide_eq_false hI;have hR:=hD.out;rw[if_neg (show ¬ (CameV.cm c).2≤place from hI)]at hR;have hy:=za hR;clear hR hD k2 hJ hQ k0 hI
    go_wp2_with fail
    go_roundg (q+1)
    case measure=>omega
    case rel=>exact⟨q,by simp[ho],by omega,by omega,hy,rfl⟩
end
end Go.Proofs.YtcddlemkimbkcaaGreatDoor
