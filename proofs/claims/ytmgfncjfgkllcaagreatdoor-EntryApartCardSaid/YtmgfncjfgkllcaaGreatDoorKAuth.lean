/-
 An entry that may be asked for;whether a payload is a statement's,as entry.Subjects tells it.
-/
import Derived.Test.YtmgfncjfgkllcaaGreatDoorKCheckE
import Derived.Test.YtmgfncjfgkllcaaGreatDoorKSubjects
import Derived.Test.YtmgfncjfgkllcaaGreatDoorKSpecVal
import Derived.Test.YtmgfncjfgkllcaaGreatDoorKConcat
import Derived.Test.YtmgfncjfgkllcaaGreatDoorKSignerOf
import Derived.Test.YtmgfncjfgkllcaaGreatDoorShelf
import Derived.Test.YtmgfncjfgkllcaaGreatDoorKWriteAll
import Derived.Lib.ItoaLen
import Derived.Lib.AppendZeros
import Derived.Deep.AppendSrc
namespace Go.Proofs.YtmgfncjfgkllcaaGreatDoor
set_option linter.unusedVariables false
set_option linter.unusedSimpArgs false
set_option linter.unusedSectionVars false
open Go.RowKit Go.Shelf
variable [OldK]
def zfx (s:Bs):Bool:=(zb3 s).isSome
theorem zkz {S:Nat→Prop} {e:En} {pv:Value} {w:World} (hb:SB S e.payload pv w) (hg:Gl w) (hlen:e.payload.length≤1000000):SubC zfx e pv w:=fun _ W hF =>
 (znw S _ pv W (hb.fr hF (fun _ _ _ _ h=>h)) (hg.fr hF (fun _ _ _ h=>h.elim)) (hg.fr hF (fun _ _ _ h=>h.elim)).old hlen).mono (by
   rintro r w' ⟨h1,h2⟩;refine⟨?_,h2⟩;unfold zrk zfx;cases hs:zb3 e.payload with
   | none =>
     rw[hs]at h1;exact⟨_,_,h1,rfl⟩
   | some l =>
     rw[hs]at h1;obtain⟨v,h1,-⟩:=h1
     exact⟨_,_,h1,rfl⟩)
structure Fine (S S':Nat→Prop) (e:En) (pv sv:Value) (w:World):Prop where
 ok:e.ok
 pay:SB S e.payload pv w
 sgs:GS S' e.sigs sv w
 gl:Gl w
 typ:e.typ.length≤1000000
 idn:e.ident.length≤1000000
 len:e.payload.length≤1000000
 many:e.sigs.length≤1000
 ids:∀ s∈e.sigs,s.id.length≤1000000
theorem Fine.fr {S S':Nat→Prop}{e:En}{pv sv:Value}{w w':World}(h:Fine S S' e pv sv w)(hF:Fr NoB w w'):Fine S S' e pv sv w' :=
 ⟨h.ok,h.pay.fr hF (fun _ _ _ _ h=>h),h.sgs.fr hF (fun _ _ _ h=>h),h.gl.fr hF (fun _ _ _ h=>h.elim),h.typ,h.idn,h.len,h.many,h.ids⟩
end Go.Proofs.YtmgfncjfgkllcaaGreatDoor
namespace Go.Proofs.YtmgfncjfgkllcaaGreatDoor
set_option linter.unusedVariables false
set_option linter.unusedSimpArgs false
set_option linter.unusedSectionVars false
open Go.RowKit
variable [OldK]
def zaq:Array Value:=#[.string ⟨#[]⟩,.string ⟨wArt.toArray⟩,.string ⟨wEnv.toArray⟩,.string ⟨wSta.toArray⟩,.string ⟨wBin.toArray⟩]
def zks:Array Value:=#[.string ⟨#[]⟩,.string ⟨wBind.toArray⟩,.string ⟨wRot.toArray⟩,.string ⟨wRev.toArray⟩]
set_option maxRecDepth 100000 in
theorem zgx (w:World):Calls Tryz.prog 75 #[] w fun e w'=>e = .returned (.agg zaq)∧Fr NoB w w':=by
 have hr:(w.alloc (.cells zaq 135)).rangeAt w.heap.size 0 (zaq).toList:=jg (heap_alloc_new w _);have hA:=run_loadVar_mid (P:=Tryz.prog) (w.alloc (.cells zaq 135)) w.heap.size 0 135 (zaq).toList (.array 5 9) hr (by kernel_rfl) rfl (by kernel_rfl);rw[show(zaq).toList.toArray=zaq from rfl]at hA;have Hld:=Lib.hid hA;clear hA hr;go_enter Tryz.func75,Tryz.ntmps75
 go_wp2_with fail
 refine bodyPost_ret (v := .agg zaq) (w:=w.alloc (.cells zaq 135)) ?_ rfl ⟨rfl,Fr.refl.alloc _⟩;rw[j4 rfl];show((asAddr (.pointer (some ⟨w.heap.size,0,none⟩))).run _ (w.alloc (.cells zaq 135))).andThen _=_;simp[asAddr,Result.andThen,Hld.out]
set_option maxRecDepth 100000 in
theorem zvw (w:World):Calls Tryz.prog 76 #[] w fun e w'=>e = .returned (.agg zks)∧Fr NoB w w':=by
 have hr:(w.alloc (.cells zks 137)).rangeAt w.heap.size 0 (zks).toList:=jg (heap_alloc_new w _);have hA:=run_loadVar_mid (P:=Tryz.prog) (w.alloc (.cells zks 137)) w.heap.size 0 137 (zks).toList (.array 4 9) hr (by kernel_rfl) rfl (by kernel_rfl);rw[show(zks).toList.toArray=zks from rfl]at hA;have Hld:=Lib.hid hA;clear hA hr;go_enter Tryz.func76,Tryz.ntmps76
 go_wp2_with fail
 refine bodyPost_ret (v := .agg zks) (w:=w.alloc (.cells zks 137)) ?_ rfl ⟨rfl,Fr.refl.alloc _⟩;rw[j4 rfl];show((asAddr (.pointer (some ⟨w.heap.size,0,none⟩))).run _ (w.alloc (.cells zks 137))).andThen _=_;simp[asAddr,Result.andThen,Hld.out]
end Go.Proofs.YtmgfncjfgkllcaaGreatDoor
namespace Go.Proofs.YtmgfncjfgkllcaaGreatDoor
set_option linter.unusedVariables false
set_option linter.unusedSimpArgs false
set_option linter.unusedSectionVars false
open Go.RowKit
variable [OldK]
structure EnB (p:Nat) (e:En) (pv sv:Value) (V:World):Prop where
 rg:V.rangeAt p 0 (e.cells pv sv)
 th:V.there p 0 70
 lt:p<V.heap.size
 ty:∃ c,V.heap[p]? = some (.cells c 28 (0,0))
section
variable {p:Nat} {e:En} {pv sv:Value} {V V':World}
theorem EnB.fr {M:Nat→Obj→Prop}(h:EnB p e pv sv V)(hF:Fr M V V')(hM:∀ c,¬ M p (.cells c 28 (0,0))):EnB p e pv sv V':=by
 obtain⟨c,hc⟩:=h.ty;have hB:=hF.block _ _ hc (hM c);have hA:∀ o,V'.cell? ⟨p,o,none⟩=V.cell? ⟨p,o,none⟩:=fun o=>by simp only[World.cell?,hc,hB]
 have hC:∀ o,V'.frozen? ⟨p,o,none⟩=V.frozen? ⟨p,o,none⟩:=fun o=>by simp only[World.frozen?,hc,hB]
 exact⟨fun j x hx=>by rw[hA];exact h.rg j x hx,fun j hj=>by rw[hA,hC];exact h.th j hj,ja hB,c,hB⟩
theorem zd9 {b:Nat} {T:TypeId}:∀ (vs:List Value) (o:Nat) (w:World) (c:Array Value),w.heap[b]? = some (.cells c T (0,0))→∃ c',(w.setCells b o vs).heap[b]? = some (.cells c' T (0,0))
 | [],_,_,c,h=>⟨c,h⟩
 | v :: vs,o,w,c,h=>by
   rw[World.setCells];exact zd9 vs (o+1) _ _ (z7 (o:=o) v h)
theorem EnB.sets (h:EnB p e pv sv V)(o:Nat)(vs:List Value){e':En}{pv' sv':Value}(hr:(V.setCells p o vs).rangeAt p 0 (e'.cells pv' sv')):EnB p e' pv' sv' (V.setCells p o vs):=by
 obtain⟨c,hc⟩:=h.ty;obtain⟨c',hA⟩:=zd9 vs o V c hc;exact⟨hr,World.there_setCells h.th _ _ _,ja hA,c',hA⟩
theorem EnB.set1 (h:EnB p e pv sv V)(o:Nat)(v:Value){e':En}{pv' sv':Value}(hr:(V.setCell ⟨p,o,none⟩ v).rangeAt p 0 (e'.cells pv' sv')):EnB p e' pv' sv' (V.setCell ⟨p,o,none⟩ v) :=
 EnB.sets h o [v] hr
theorem EnB.at (h:EnB p e pv sv V)(o:Nat)(ho:o<70):(∃ x,V.cell? ⟨p,o,none⟩=some x)∧V.frozen? ⟨p,o,none⟩=false:=by
 have:=h.th o ho;rw[Nat.zero_add]at this;exact⟨Option.isSome_iff_exists.1 this.1,this.2⟩
theorem EnB.part (h:EnB p e pv sv V)(o n:Nat)(ho:o+n≤70):V.there p o n:=fun j hj=>by
 have:=h.th (o+j) (by omega)
 rwa [Nat.zero_add]at this
end
def kindsL:List ByteArray:=[⟨#[]⟩,⟨wArt.toArray⟩,⟨wEnv.toArray⟩,⟨wSta.toArray⟩,⟨wBin.toArray⟩]
def opsL:List ByteArray:=[⟨#[]⟩,⟨wBind.toArray⟩,⟨wRot.toArray⟩,⟨wRev.toArray⟩]
theorem zwh (a b:Bs):((⟨a.toArray⟩:ByteArray)=⟨b.toArray⟩)↔a=b:=by
 constructor
 ·intro h
  injection h with h
  have:=congrArg Array.toList h;simpa using this
 rintro rfl;rfl
theorem zqg (t:Bs):Lib.idxOfS kindsL ⟨t.toArray⟩=zeq t:=by
 unfold Lib.idxOfS kindsL zeq;have e0:(⟨#[]⟩:ByteArray)=⟨([]:Bs).toArray⟩:=rfl;rw[e0];simp only[Lib.idxFromS,beq_iff_eq,zwh];by_cases h0:t=[]
 ·simp[h0]
 by_cases h1:t=wArt
 ·simp[h1,wArt]
 by_cases h2:t=wEnv
 ·simp[h2,wArt,wEnv]
 by_cases h3:t=wSta
 ·simp[h3,wArt,wEnv,wSta]
 by_cases h4:t=wBin
 ·simp[h4,wArt,wEnv,wSta,wBin]
 simp[h0,h1,h2,h3,h4,Ne.symm h0,Ne.symm h1,Ne.symm h2,Ne.symm h3,Ne.symm h4]
theorem zur (t:Bs):Lib.idxOfS opsL ⟨t.toArray⟩=zut t:=by
 unfold Lib.idxOfS opsL zut;have e0:(⟨#[]⟩:ByteArray)=⟨([]:Bs).toArray⟩:=rfl;rw[e0];simp only[Lib.idxFromS,beq_iff_eq,zwh];by_cases h0:t=[]
 ·simp[h0]
 by_cases h1:t=wBind
 ·simp[h1,wBind]
 by_cases h2:t=wRot
 ·simp[h2,wBind,wRot]
 by_cases h3:t=wRev
 ·simp[h3,wBind,wRot,wRev]
 simp[h0,h1,h2,h3,Ne.symm h0,Ne.symm h1,Ne.symm h2,Ne.symm h3]
theorem zst (t:Bs) (b:Nat) (w:World) (hb:w.heap[b]? = some (.cells zaq 135 (0,0))) :
 Calls Tryz.prog 77 #[.slice (some ⟨b,0,none⟩) 5 5,.string ⟨t.toArray⟩] w fun r w'=>r = .returned (.int .i64 (zeq t))∧w'=w:=by
 have h:=Tryz.slices_Index_string b 0 5 5 kindsL ⟨t.toArray⟩ w (by decide) (by decide) (fun j hj=>by
  have:j=0∨j=1∨j=2∨j=3∨j=4:=by have:kindsL.length=5:=rfl;omega
  rcases this with rfl | rfl | rfl | rfl | rfl<;>simp[World.cell?,hb,zaq,kindsL])
 rw[show kindsL.take 5=kindsL from rfl,zqg]at h;exact h
theorem zvx (t:Bs) (b:Nat) (w:World) (hb:w.heap[b]? = some (.cells zks 137 (0,0))) :
 Calls Tryz.prog 77 #[.slice (some ⟨b,0,none⟩) 4 4,.string ⟨t.toArray⟩] w fun r w'=>r = .returned (.int .i64 (zut t))∧w'=w:=by
 have h:=Tryz.slices_Index_string b 0 4 4 opsL ⟨t.toArray⟩ w (by decide) (by decide) (fun j hj=>by
  have:j=0∨j=1∨j=2∨j=3:=by have:opsL.length=4:=rfl;omega
  rcases this with rfl | rfl | rfl | rfl<;>simp[World.cell?,hb,zks,opsL])
 rw[show opsL.take 4=opsL from rfl,zur]at h;exact h
end Go.Proofs.YtmgfncjfgkllcaaGreatDoor
namespace Go.Proofs.YtmgfncjfgkllcaaGreatDoor
set_option linter.unusedVariables false
set_option linter.unusedSimpArgs false
set_option linter.unusedSectionVars false
open Go.RowKit Go.Shelf
variable [OldK]
attribute [local go_sem] Oper.semAt_some
def sDsse:Bs:=[68,83,83,69,118,49]
def zco (k p:Bs):Bs:=sDsse++(32 :: (Lib.itoa k.length++(32 :: (k++(32 :: (Lib.itoa p.length++[32]))))))
def zfd (k p:Bs):Bs:=zco k p++p
theorem zqh (k p:Bs):Lib.join [sDsse,Lib.itoa k.length,k,Lib.itoa p.length,[]] [32]=zco k p:=by
 simp[Lib.join,zco]
theorem zfn {b:Nat} {T:TypeId} {f:Nat × Nat}:∀ (vs:List Value) (o:Nat) (w:World) (c:Array Value),w.heap[b]? = some (.cells c T f)→∃ c',(w.setCells b o vs).heap[b]? = some (.cells c' T f)
 | [],_,_,c,h=>⟨c,h⟩
 | v :: vs,o,w,c,h=>by
   rw[World.setCells];exact zfn vs (o+1) _ _ (z7 (o:=o) v h)
theorem SB.src {S:Nat→Prop} {l:Bs} {v:Value} {w:World} (h:SB S l v w):Src Tryz.prog 1 24 v l.length (Lib.byteCells l) w:=by
 obtain⟨a,hA,rfl,hcp,rfl | ⟨b,o,cs,T,f,rfl,h2,⟨h3,_⟩,h4⟩⟩:=h
 ·cases a with
  | none=>exact Src.ofNil w Tryz.underlying24 hA
  | some ad=>exact Src.ofSlice w Tryz.underlying24 ad 0 hA [] rfl (by intro j u h;simp at h) (by intro u h;cases h)
 refine Src.ofSlice w Tryz.underlying24 ⟨b,o,none⟩ l.length hA _ (by simp[Lib.byteCells]) (fun j u hj=>?_) (by intro u hu;simp only[Lib.byteCells,List.mem_map]at hu;obtain⟨x,-,rfl⟩:=hu;rfl);rw[Addr.add_lit];obtain⟨hB,rfl⟩:=List.getElem?_eq_some_iff.1 hj;have hl:j<l.length:=by simpa[Lib.byteCells] using hB
 simp[World.cell?,h3,h4 j hl,Lib.byteCells]
set_option maxRecDepth 100000 in
theorem zlx (hd p:Bs) (S:Nat→Prop) (pv:Value) (w:World) (hl:hd.length+p.length≤100000000) (hp:SB S p pv w) :
 ∃ v1 w1 v' w',(convert 9 24 (.string ⟨hd.toArray⟩)).run Tryz.prog w = .ok v1 w1∧(Builtin.append_ #[24,24] 24 #[v1,pv]).run Tryz.prog w1 = .ok v' w' ∧
  SB (fun k=>w.heap.size≤k) (hd++p) v' w'∧Fr NoB w w':=by
 obtain⟨i0,hQ,hU,hJ,hT⟩:=info_parts zkl;obtain⟨C,hC⟩:∃ C,bytesRow ⟨hd.toArray⟩ (grownCap w hd.length 0 5)=C:=⟨_,rfl⟩;obtain⟨hB,hI⟩:∃ c,grownCap w hd.length 0 5=c:=⟨_,rfl⟩;have hge:hd.length≤hB:=by rw[← hI];exact grownCap_ge w hd.length 0 5
 have hD:=run_bytes_of_string w _ _ 5 ⟨hd.toArray⟩ Tryz.underlying9 Tryz.underlying24 Tryz.underlying5;have hN:(ByteArray.mk hd.toArray).size=hd.length:=by show hd.toArray.size=_;simp
 rw[hN,hC,hI]at hD
 have hR:C.size=hB:=by
  rw[← hC,hI];unfold bytesRow;rw[Array.size_append,Array.size_map,Array.size_replicate];show hd.toArray.size+(hB - (ByteArray.mk hd.toArray).size)=hB;rw[hN];simp;omega
 have ha:∀ j (hj:j<hd.length),C[j]? = some (.int .u8 (hd[j].toNat:Int)):=by
  intro j hj;rw[← hC];unfold bytesRow;rw[Array.getElem?_append_left (by simpa using hj)];simp[hj]
 obtain⟨W,hW⟩:∃ W,w.drew.alloc (.cells C 5 (C.size,C.size+1))=W:=⟨_,rfl⟩;rw[hW]at hD;have hE:W.heap[w.heap.size]? = some (.cells C 5 (C.size,C.size+1)):=by rw[← hW];exact heap_alloc_new w.drew _
 have hK:Fr NoB w W:=by rw[← hW];exact(Fr.refl.drew).alloc _
 have hV:=hp.fr hK (fun _ _ _ _ h=>h);have hs:=hV.src
 have hM:∀ j,j<hd.length→W.cell? ⟨w.heap.size,j,none⟩=some (.int .u8 (hd[j]!.toNat:Int)):=by
  intro j hj;simp only[World.cell?,hE];rw[ha j hj];simp[hj]
 by_cases hG:hd.length+p.length≤hB
 ·have hA:∀ j,j<(Lib.byteCells p).length→(W.cell? ⟨w.heap.size,0+hd.length * i0.size+j,none⟩).isSome=true:=by
   intro j hj;have hZ:j<p.length:=by simpa[Lib.byteCells] using hj
   rw[hJ];simp only[World.cell?,hE];rw[Array.getElem?_eq_getElem (by rw[hR];omega)];rfl
  have hF:=run_append_room_src W 24 24 24 5 i0 Tryz.underlying24 hQ w.heap.size 0 hd.length hB pv p.length (Lib.byteCells p) (by rw[hJ];exact hs) hG hA
   (by
     intro j hj;have hZ:j<p.length:=by simpa[Lib.byteCells] using hj
     rw[hJ];simp only[World.frozen?,hE,hR]
     simp;omega)
  rw[hJ]at hA hF;refine⟨_,_,_,_,hD,hF,?_,hK.trans (z8 _ _ _ _) (fun k _ hm => .inr (by omega))⟩;obtain⟨C',hS⟩:=zfn (Lib.byteCells p) (0+hd.length * 1) W C hE;refine⟨some ⟨w.heap.size,0,none⟩,hB,by rw[List.length_append],by rw[List.length_append];exact hG,.inr ⟨w.heap.size,0,C',_,_,rfl,Nat.le_refl _,⟨hS,.inl rfl⟩,fun j hj=>?_⟩⟩
  have hH:(W.setCells w.heap.size (0+hd.length * 1) (Lib.byteCells p)).cell? ⟨w.heap.size,j,none⟩=some (.int .u8 ((hd++p)[j].toNat:Int)):=by
   by_cases hP:j<hd.length
   ·rw[World.cell?_setCells_out _ _ _ _ _ (fun _ _=>Or.inl (by show j<0+hd.length * 1;omega)),hM j hP];simp[hP]
   have hY:j - hd.length<(Lib.byteCells p).length:=by simp only[List.length_append]at hj;simp only[Lib.byteCells,List.length_map];omega
   have:=World.cell?_setCells_in w.heap.size (Lib.byteCells p) (0+hd.length * 1) W hA (j - hd.length) hY;rw[show 0+hd.length * 1+(j - hd.length)=j by omega]at this;rw[this,List.getElem_append_right (by omega)];simp[Lib.byteCells]
  rw[Nat.zero_add];simp only[World.cell?,hS]at hH;exact hH
 have hL:(Builtin.firstCells i0.size hd.length (.slice (some ⟨w.heap.size,0,none⟩) hd.length hB)).run Tryz.prog W.drew = .ok (Lib.byteCells hd).toArray W.drew:=by
  refine run_firstCells_some W.drew i0.size hd.length ⟨w.heap.size,0,none⟩ hd.length hB _ (by rw[hJ];simp[Lib.byteCells]) (fun j u hj=>?_);obtain⟨hX,rfl⟩:=List.getElem?_eq_some_iff.1 hj;have hO:j<hd.length:=by simpa[Lib.byteCells] using hX
  rw[Addr.add_lit,Nat.zero_add];show W.cell? _=_;rw[hM j hO];simp[Lib.byteCells,hO]
 have hF:=run_append_grow_src W 24 24 24 5 i0 (.int .u8 0) Tryz.underlying24 hQ hU (some ⟨w.heap.size,0,none⟩) hd.length hB (Lib.byteCells hd) hL pv p.length (Lib.byteCells p) (by rw[hJ];exact hs) (by omega) (by omega) (growslice_fits (by omega) (by rw[hT];omega));refine⟨_,_,_,_,hD,hF,?_,(hK.drew).alloc _⟩;refine⟨some ⟨W.heap.size,0,none⟩,_,by rw[List.length_append],by rw[List.length_append];exact grownCap_ge _ _ _ _,.inr ⟨W.heap.size,0,_,_,_,rfl,hK.size,⟨heap_alloc_new W.drew _,.inl rfl⟩,fun j hj=>?_⟩⟩;rw[Nat.zero_add,Array.getElem?_append_left (by simpa[Lib.byteCells] using hj)];have:(Lib.byteCells hd++Lib.byteCells p)=Lib.byteCells (hd++p):=by simp[Lib.byteCells]
 rw[this,List.getElem?_toArray];unfold Lib.byteCells;rw[List.getElem?_map,List.getElem?_eq_getElem hj];rfl
theorem zgy (n:Nat)(h:n≤1000000):(Lib.itoa (n:Int)).length≤21:=Lib.itoa_length_le _ (by omega) (by omega)
theorem zkh (k p:Bs)(hk:k.length≤1000000)(hp:p.length≤1000000):(zco k p).length≤k.length+60:=by
 have h1:=zgy k.length hk;have h2:=zgy p.length hp;simp only[zco,sDsse,List.length_append,List.length_cons,List.length_nil];omega
set_option maxRecDepth 100000 in
set_option maxHeartbeats 4000000 in
theorem zrf (S:Nat→Prop) (k p:Bs) (pv:Value) (w:World) (hg:Gl w) (hp:SB S p pv w) (hk:k.length≤1000000) (hpl:p.length≤1000000) :
 Calls Tryz.prog 34 #[.string ⟨k.toArray⟩,pv] w fun e w'=>∃ v,e = .returned v∧SB (fun b=>w.heap.size≤b) (zfd k p) v w'∧Fr NoB w w':=by
 have hsz:(ByteArray.mk k.toArray).size=k.length:=by show k.toArray.size=_;simp
 have hkw:IntKind.i64.wrap ((k.length:Nat):Int)=(k.length:Int):=by rw[IntKind.wrap_i64];omega
 have hpw:IntKind.i64.wrap ((p.length:Nat):Int)=(p.length:Int):=by rw[IntKind.wrap_i64];omega
 obtain⟨a,cap,rfl⟩:=hp.form;have Hp:=Lib.hid hp;have Hg:=Lib.hid hg;clear hp hg;go_enter Tryz.func34,Tryz.ntmps34
 go_wp2_with fail
 refine(Go.Proofs.Tryz.strconv_Itoa k.length (by omega) (by omega) _ Hg.out.pow10).mono ?_;rintro e w1 ⟨rfl,q,os,rfl⟩;have hC:=Lib.hid (ziy w q os);obtain⟨W1,hM⟩:∃ W,Go.Sort.grow (w.drewN q) os=W:=⟨_,rfl⟩;rw[hM]at hC ⊢;clear hM;have hO:=Lib.hid (Hg.out.fr hC.out (fun _ _ _ h=>h.elim))
 go_wp2_with fail
 refine(Go.Proofs.Tryz.strconv_Itoa p.length (by omega) (by omega) _ hO.out.pow10).mono ?_;rintro e w2 ⟨rfl,q2,hH,rfl⟩;have hG:=Lib.hid (hC.out.trans' (ziy W1 q2 hH));obtain⟨W2,hL⟩:∃ W,Go.Sort.grow (W1.drewN q2) hH=W:=⟨_,rfl⟩;rw[hL]at hG ⊢;clear hL hO hC;obtain⟨x1,hE⟩:∃ x,Lib.itoa (k.length:Int)=x:=⟨_,rfl⟩;obtain⟨x2,hD⟩:∃ x,Lib.itoa (p.length:Int)=x:=⟨_,rfl⟩;have Hx:Hid (zco k p=Lib.join [sDsse,x1,k,x2,[]] [32]):=Lib.hid (by rw[← zqh,hE,hD]);have Hl:=Lib.hid (zkh k p hk hpl);rw[hE,hD];clear hE hD
 go_wp2_with fail
 obtain⟨T,hT⟩:∃ T,zco k p=T:=⟨_,rfl⟩;have hK:zfd k p=T++p:=by unfold zfd;rw[hT]
 have hQ:=Lib.hid hK;rw[hT]at Hx Hl;clear hT hK
 have hA:=Go.Proofs.Tryz.strings_Join W2.heap.size 0 5 [⟨sDsse.toArray⟩,⟨x1.toArray⟩,⟨k.toArray⟩,⟨x2.toArray⟩,⟨#[]⟩] ⟨#[32]⟩ (W2.alloc (Obj.cells #[Value.string ⟨#[68,83,83,69,118,49]⟩,Value.string ⟨x1.toArray⟩,Value.string ⟨k.toArray⟩,Value.string ⟨x2.toArray⟩,Value.string ⟨#[]⟩] 9))
  (fun j x hj=>by
    have hw:=World.cell?_alloc_new W2 #[Value.string ⟨#[68,83,83,69,118,49]⟩,Value.string ⟨x1.toArray⟩,Value.string ⟨k.toArray⟩,Value.string ⟨x2.toArray⟩,Value.string ⟨#[]⟩] 9 (0+j);rw[hw]
    match j,hj with
    | 0,hj=>simp at hj;subst hj;rfl
    | 1,hj=>simp at hj;subst hj;rfl
    | 2,hj=>simp at hj;subst hj;rfl
    | 3,hj=>simp at hj;subst hj;rfl
    | 4,hj=>simp at hj;subst hj;rfl
    | j+5,hj=>simp at hj) (by rw[World.size_alloc];omega) (by show(5:Nat)≤140737488355328;decide) (by show(5:Nat)≤5;decide) (by simp only[List.map_cons,List.map_nil];rw[← Hx.out];have:=Hl.out;omega)
 simp only[List.map_cons,List.map_nil]at hA;rw[← Hx.out]at hA;refine hA.mono ?_;rintro e w3 ⟨rfl,hB⟩;have hF:=Lib.hid ((hG.out.alloc _).trans' (Fr.ofBelow hB));clear hA hB hG Hx;obtain⟨v1,w4,v5,w5,hr1,hJ,hI,hN⟩:=zlx T p S _ w3 (by have:=Hl.out;omega) (Hp.out.fr hF.out (fun _ _ _ _ h=>h));have hP:=Lib.hid hJ;have Hfin:Hid (SB (fun b=>w.heap.size≤b) (zfd k p) v5 w5∧Fr NoB w w5):=Lib.hid ⟨by rw[hQ.out];exact hI.kp (fun b o h hb _=>⟨Nat.le_trans hF.out.size h,hb⟩),hF.out.trans' hN⟩;clear hJ hI hN
 go_wp2_with(at_builtin;refine Lib.wpList_append_run _ rfl _ _ 24 24 rfl _ _ rfl rfl _ _ hP.out ?_)
 go_ret;exact⟨_,rfl,Hfin.out⟩
end Go.Proofs.YtmgfncjfgkllcaaGreatDoor
