/-
 The walks of slices.Grow at a nil row of bytes,and of slices.Concat at bytes.
-/
import Derived.Test.YtmgfncjfgkllcaaGreatDoorKNum
import Derived.Test.YtmgfncjfgkllcaaGreatDoorKEnAt
import Derived.Test.YtmgfncjfgkllcaaGreatDoorKShelf
import Derived.Deep.LoopGhost
import Derived.Test.YtmgfncjfgkllcaaGreatDoorKWriteAll
import Derived.Lib.ItoaLen
import Derived.Lib.AppendZeros
import Derived.Test.YtmgfncjfgkllcaaGreatDoorKSubjEq
import Derived.Deep.AppendSrc
open Go.Lib renaming hid→za,byteCells→zb
open List renaming length_append→zq
namespace Go.Proofs.YtmgfncjfgkllcaaGreatDoor
set_option linter.unusedVariables false
set_option linter.unusedSimpArgs false
set_option linter.unusedSectionVars false
set_option maxRecDepth 100000
set_option maxHeartbeats 4000000
section
open Go.RowKit Go.Shelf Go.Sort
variable [OldK]
theorem zn4:(Tryz.prog.info? 5).map (fun i=>(i.zero,i.size,i.bytes))=some (some (.int .u8 0),1,1):=by kernel_rfl
def flat (vs:List (Value × Bs)):Bs:=vs.flatMap fun x=>x.2
end
section
open Go.RowKit Go.Shelf
variable [OldK]
attribute [local go_sem] Oper.semAt_some
def sDsse:Bs:=[68,83,83,69,118,49]
def zer (k p:Bs):Bs:=sDsse++(32 :: (Lib.itoa k.length++(32 :: (k++(32 :: (Lib.itoa p.length++[32]))))))
def zug (k p:Bs):Bs:=zer k p++p
theorem zuv (k p:Bs):Lib.join [sDsse,Lib.itoa k.length,k,Lib.itoa p.length,[]] [32]=zer k p:=by
 simp[Lib.join,zer]
theorem zhs {b:Nat} {T:TypeId} {f:Nat × Nat}:∀ (vs:List Value) (o:Nat) (w:World) (c:Array Value),w.heap[b]? = some (.cells c T f)→∃ c',(w.setCells b o vs).heap[b]? = some (.cells c' T f)
 | [],_,_,c,h=>⟨c,h⟩
 | v :: vs,o,w,c,h=>by
   rw[World.setCells];exact zhs vs (o+1) _ _ (z7 (o:=o) v h)
theorem SB.src {S:Nat→Prop} {l:Bs} {v:Value} {w:World} (h:SB S l v w):Src Tryz.prog 1 24 v l.length (zb l) w:=by
 obtain⟨a,hA,rfl,hcp,rfl | ⟨b,o,cs,T,f,rfl,h2,⟨h3,_⟩,h4⟩⟩:=h
 ·cases a with
  | none=>exact Src.ofNil w Tryz.underlying24 hA
  | some ad=>exact Src.ofSlice w Tryz.underlying24 ad 0 hA [] rfl (by intro j u h;simp at h) (by intro u h;cases h)
 refine Src.ofSlice w Tryz.underlying24 ⟨b,o,none⟩ l.length hA _ (by simp[zb]) (fun j u hj=>?_) (by intro u hu;simp only[zb,List.mem_map]at hu;obtain⟨x,-,rfl⟩:=hu;rfl);rw[Addr.add_lit];obtain⟨hB,rfl⟩:=List.getElem?_eq_some_iff.1 hj;have hl:j<l.length:=by simpa[zb] using hB
 simp[World.cell?,h3,h4 j hl,zb]
theorem zpk (hd p:Bs) (S:Nat→Prop) (pv:Value) (w:World) (hl:hd.length+p.length≤100000000) (hp:SB S p pv w) :
 ∃ v1 w1 v' w',(convert 9 24 (.string ⟨hd.toArray⟩)).run Tryz.prog w = .ok v1 w1∧(Builtin.append_ #[24,24] 24 #[v1,pv]).run Tryz.prog w1 = .ok v' w' ∧
  SB (fun k=>w.heap.size≤k) (hd++p) v' w'∧Fr NoB w w':=by
 obtain⟨i0,hQ,hU,hJ,hT⟩:=info_parts zn4;obtain⟨C,hC⟩:∃ C,bytesRow ⟨hd.toArray⟩ (grownCap w hd.length 0 5)=C:=⟨_,rfl⟩;obtain⟨hB,hI⟩:∃ c,grownCap w hd.length 0 5=c:=⟨_,rfl⟩;have hge:hd.length≤hB:=by rw[← hI];exact grownCap_ge w hd.length 0 5
 have hD:=run_bytes_of_string w _ _ 5 ⟨hd.toArray⟩ Tryz.underlying9 Tryz.underlying24 Tryz.underlying5;have hN:(ByteArray.mk hd.toArray).size=hd.length:=by show hd.toArray.size=_;simp
 rw[hN,hC,hI]at hD
 have hR:C.size=hB:=by
  rw[← hC,hI];unfold bytesRow;rw[Array.size_append,Array.size_map,Array.size_replicate];show hd.toArray.size+(hB - (ByteArray.mk hd.toArray).size)=hB;rw[hN];simp;omega
 have ha:∀ j (hj:j<hd.length),C[j]? = some (.int .u8 (hd[j].toNat:Int)):=by
  intro j hj;rw[← hC];unfold bytesRow;rw[Array.getElem?_append_left (by simpa using hj)];simp[hj]
 obtain⟨W,hW⟩:∃ W,w.drew.alloc (.cells C 5 (C.size,C.size+1))=W:=⟨_,rfl⟩;rw[hW]at hD;have hE:W.heap[w.heap.size]? = some (.cells C 5 (C.size,C.size+1)):=by rw[← hW];exact heap_alloc_new w.drew _
 have hK:Fr NoB w W:=by rw[← hW];exact(Fr.refl.drew).alloc _
 have hV:=hp.fr hK (fun _ _ _ _ h=>h);have hs:=hV.src
 have hM:∀ j,j<hd.length→W.cell? ⟨w.heap.size,j,none⟩=some (.int .u8 (hd[j]!.toNat:Int)):=by
  intro j hj;simp only[World.cell?,hE];rw[ha j hj];simp[hj]
 by_cases hG:hd.length+p.length≤hB
 ·have hA:∀ j,j<(zb p).length→(W.cell? ⟨w.heap.size,0+hd.length * i0.size+j,none⟩).isSome=true:=by
   intro j hj;have hZ:j<p.length:=by simpa[zb] using hj
   rw[hJ];simp only[World.cell?,hE];rw[Array.getElem?_eq_getElem (by rw[hR];omega)];rfl
  have hF:=run_append_room_src W 24 24 24 5 i0 Tryz.underlying24 hQ w.heap.size 0 hd.length hB pv p.length (zb p) (by rw[hJ];exact hs) hG hA
   (by
     intro j hj;have hZ:j<p.length:=by simpa[zb] using hj
     rw[hJ];simp only[World.frozen?,hE,hR]
     simp;omega)
  rw[hJ]at hA hF;refine⟨_,_,_,_,hD,hF,?_,hK.trans (z8 _ _ _ _) (fun k _ hm => .inr (by omega))⟩;obtain⟨C',hS⟩:=zhs (zb p) (0+hd.length * 1) W C hE;refine⟨some ⟨w.heap.size,0,none⟩,hB,by rw[zq],by rw[zq];exact hG,.inr ⟨w.heap.size,0,C',_,_,rfl,Nat.le_refl _,⟨hS,.inl rfl⟩,fun j hj=>?_⟩⟩
  have hH:(W.setCells w.heap.size (0+hd.length * 1) (zb p)).cell? ⟨w.heap.size,j,none⟩=some (.int .u8 ((hd++p)[j].toNat:Int)):=by
   by_cases hP:j<hd.length
   ·rw[World.cell?_setCells_out _ _ _ _ _ (fun _ _=>Or.inl (by show j<0+hd.length * 1;omega)),hM j hP];simp[hP]
   have hY:j - hd.length<(zb p).length:=by simp only[zq]at hj;simp only[zb,List.length_map];omega
   have:=World.cell?_setCells_in w.heap.size (zb p) (0+hd.length * 1) W hA (j - hd.length) hY;rw[show 0+hd.length * 1+(j - hd.length)=j by omega]at this;rw[this,List.getElem_append_right (by omega)];simp[zb]
  rw[Nat.zero_add];simp only[World.cell?,hS]at hH;exact hH
 have hL:(Builtin.firstCells i0.size hd.length (.slice (some ⟨w.heap.size,0,none⟩) hd.length hB)).run Tryz.prog W.drew = .ok (zb hd).toArray W.drew:=by
  refine run_firstCells_some W.drew i0.size hd.length ⟨w.heap.size,0,none⟩ hd.length hB _ (by rw[hJ];simp[zb]) (fun j u hj=>?_);obtain⟨hX,rfl⟩:=List.getElem?_eq_some_iff.1 hj;have hO:j<hd.length:=by simpa[zb] using hX
  rw[Addr.add_lit,Nat.zero_add];show W.cell? _=_;rw[hM j hO];simp[zb,hO]
 have hF:=run_append_grow_src W 24 24 24 5 i0 (.int .u8 0) Tryz.underlying24 hQ hU (some ⟨w.heap.size,0,none⟩) hd.length hB (zb hd) hL pv p.length (zb p) (by rw[hJ];exact hs) (by omega) (by omega) (growslice_fits (by omega) (by rw[hT];omega));refine⟨_,_,_,_,hD,hF,?_,(hK.drew).alloc _⟩;refine⟨some ⟨W.heap.size,0,none⟩,_,by rw[zq],by rw[zq];exact grownCap_ge _ _ _ _,.inr ⟨W.heap.size,0,_,_,_,rfl,hK.size,⟨heap_alloc_new W.drew _,.inl rfl⟩,fun j hj=>?_⟩⟩;rw[Nat.zero_add,Array.getElem?_append_left (by simpa[zb] using hj)];have:(zb hd++zb p)=zb (hd++p):=by simp[zb]
 rw[this,List.getElem?_toArray];unfold zb;rw[List.getElem?_map,List.getElem?_eq_getElem hj];rfl
theorem zjh (n:Nat)(h:n≤1000000):(Lib.itoa (n:Int)).length≤21:=Lib.itoa_length_le _ (by omega) (by omega)
theorem znm (k p:Bs)(hk:k.length≤1000000)(hp:p.length≤1000000):(zer k p).length≤k.length+60:=by
 have h1:=zjh k.length hk;have h2:=zjh p.length hp;simp only[zer,sDsse,zq,List.length_cons,List.length_nil];omega
theorem z1r (S:Nat→Prop) (k p:Bs) (pv:Value) (w:World) (hg:Gl w) (hp:SB S p pv w) (hk:k.length≤1000000) (hpl:p.length≤1000000) :
 Calls Tryz.prog 34 #[.string ⟨k.toArray⟩,pv] w fun e w'=>∃ v,e = .returned v∧SB (fun b=>w.heap.size≤b) (zug k p) v w'∧Fr NoB w w':=by
 have hsz:(ByteArray.mk k.toArray).size=k.length:=by show k.toArray.size=_;simp
 have hkw:IntKind.i64.wrap ((k.length:Nat):Int)=(k.length:Int):=by rw[IntKind.wrap_i64];omega
 have hpw:IntKind.i64.wrap ((p.length:Nat):Int)=(p.length:Int):=by rw[IntKind.wrap_i64];omega
 obtain⟨a,cap,rfl⟩:=hp.form;have Hp:=za hp;have Hg:=za hg;clear hp hg;go_enter Tryz.func34,Tryz.ntmps34
 go_wp2_with fail
 refine(Go.Proofs.Tryz.strconv_Itoa k.length (by omega) (by omega) _ Hg.out.pow10).mono ?_;rintro e w1 ⟨rfl,q,os,rfl⟩;have hC:=za (zlv w q os);obtain⟨W1,hM⟩:∃ W,Go.Sort.grow (w.drewN q) os=W:=⟨_,rfl⟩;rw[hM]at hC ⊢;clear hM;have hO:=za (Hg.out.fr hC.out (fun _ _ _ h=>h.elim))
 go_wp2_with fail
 refine(Go.Proofs.Tryz.strconv_Itoa p.length (by omega) (by omega) _ hO.out.pow10).mono ?_;rintro e w2 ⟨rfl,q2,hH,rfl⟩;have hG:=za (hC.out.trans' (zlv W1 q2 hH));obtain⟨W2,hL⟩:∃ W,Go.Sort.grow (W1.drewN q2) hH=W:=⟨_,rfl⟩;rw[hL]at hG ⊢;clear hL hO hC;obtain⟨x1,hE⟩:∃ x,Lib.itoa (k.length:Int)=x:=⟨_,rfl⟩;obtain⟨x2,hD⟩:∃ x,Lib.itoa (p.length:Int)=x:=⟨_,rfl⟩;have Hx:Hid (zer k p=Lib.join [sDsse,x1,k,x2,[]] [32]):=za (by rw[← zuv,hE,hD]);have Hl:=za (znm k p hk hpl);rw[hE,hD];clear hE hD
 go_wp2_with fail
 obtain⟨T,hT⟩:∃ T,zer k p=T:=⟨_,rfl⟩;have hK:zug k p=T++p:=by unfold zug;rw[hT]
 have hQ:=za hK;rw[hT]at Hx Hl;clear hT hK
 have hA:=Go.Proofs.Tryz.strings_Join W2.heap.size 0 5 [⟨sDsse.toArray⟩,⟨x1.toArray⟩,⟨k.toArray⟩,⟨x2.toArray⟩,⟨#[]⟩] ⟨#[32]⟩ (W2.alloc (Obj.cells #[Value.string ⟨#[68,83,83,69,118,49]⟩,Value.string ⟨x1.toArray⟩,Value.string ⟨k.toArray⟩,Value.string ⟨x2.toArray⟩,Value.string ⟨#[]⟩] 9))
  (fun j x hj=>by
    have hw:=World.cell?_alloc_new W2 #[Value.string ⟨#[68,83,83,69,118,49]⟩,Value.string ⟨x1.toArray⟩,Value.string ⟨k.toArray⟩,Value.string ⟨x2.toArray⟩,Value.string ⟨#[]⟩] 9 (0+j);rw[hw]
    match j,hj with
    | 0,hj=>simp at hj;subst hj;rfl
    | 1,hj=>simp at hj;subst hj;rfl
    | 2,hj=>simp at hj;subst hj;rfl
    | 3,hj=>simp at hj;subst hj;rfl
    | 4,hj=>simp at hj;subst hj;rfl
    | j+5,hj=>simp at hj) (by rw[World.size_alloc];omega) (by show(5:Nat)≤140737488355328;decide) (by show(5:Nat)≤5;decide) (by simp only[List.map_cons,List.map_nil];rw[← Hx.out];have:=Hl.out;omega)
 simp only[List.map_cons,List.map_nil]at hA;rw[← Hx.out]at hA;refine hA.mono ?_;rintro e w3 ⟨rfl,hB⟩;have hF:=za ((hG.out.alloc _).trans' (Fr.ofBelow hB));clear hA hB hG Hx;obtain⟨v1,w4,v5,w5,hr1,hJ,hI,hN⟩:=zpk T p S _ w3 (by have:=Hl.out;omega) (Hp.out.fr hF.out (fun _ _ _ _ h=>h));have hP:=za hJ;have Hfin:Hid (SB (fun b=>w.heap.size≤b) (zug k p) v5 w5∧Fr NoB w w5):=za ⟨by rw[hQ.out];exact hI.kp (fun b o h hb _=>⟨Nat.le_trans hF.out.size h,hb⟩),hF.out.trans' hN⟩;clear hJ hI hN
 go_wp2_with(at_builtin;refine Lib.wpList_append_run _ rfl _ _ 24 24 rfl _ _ rfl rfl _ _ hP.out ?_)
 go_ret;exact⟨_,rfl,Hfin.out⟩
end
end Go.Proofs.YtmgfncjfgkllcaaGreatDoor
