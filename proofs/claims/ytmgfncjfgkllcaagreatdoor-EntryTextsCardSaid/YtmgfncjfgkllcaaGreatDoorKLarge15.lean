/-
 An entry that may be asked for;whether a payload is a statement's,as entry.Subjects tells it.
-/
import Derived.Test.YtmgfncjfgkllcaaGreatDoorKCheckE
import Derived.Test.YtmgfncjfgkllcaaGreatDoorKSubjects
import Derived.Test.YtmgfncjfgkllcaaGreatDoorKSpecVal
import Derived.Test.YtmgfncjfgkllcaaGreatDoorKRefHex
import Derived.Test.YtmgfncjfgkllcaaGreatDoorKSignerOf
import Derived.Test.YtmgfncjfgkllcaaGreatDoorKShelf
import Derived.Test.YtmgfncjfgkllcaaGreatDoorKSeq
namespace Go.Proofs.YtmgfncjfgkllcaaGreatDoor
set_option linter.unusedVariables false
set_option linter.unusedSimpArgs false
set_option linter.unusedSectionVars false
set_option maxRecDepth 100000
section
open Go.RowKit Go.Shelf
variable [OldK]
def zcl (s:Bs):Bool:=(zb4 s).isSome
theorem zl5 {S:Nat→Prop} {e:En} {pv:Value} {w:World} (hb:SB S e.payload pv w) (hg:Gl w) (hlen:e.payload.length≤1000000):SubC zcl e pv w:=fun _ W hF =>
 (zo7 S _ pv W (hb.fr hF (fun _ _ _ _ h=>h)) (hg.fr hF (fun _ _ _ h=>h.elim)) (hg.fr hF (fun _ _ _ h=>h.elim)).old hlen).mono (by
   rintro r w' ⟨h1,h2⟩;refine⟨?_,h2⟩;unfold zsu zcl;cases hs:zb4 e.payload with
   | none =>
     rw[hs]at h1;exact⟨_,_,h1,rfl⟩
   | some l =>
     rw[hs]at h1;obtain⟨v,h1,-⟩:=h1
     exact⟨_,_,h1,rfl⟩)
structure Fine (S S':Nat→Prop) (e:En) (pv sv:Value) (w:World):Prop where
 ok:e.ok
 pay:SB S e.payload pv w
 sgs:GS S' e.sigs sv w
 gl:Gl w
 typ:e.typ.length≤1000000
 idn:e.ident.length≤1000000
 len:e.payload.length≤1000000
 many:e.sigs.length≤1000
 ids:∀ s∈e.sigs,s.id.length≤1000000
theorem Fine.fr {S S':Nat→Prop}{e:En}{pv sv:Value}{w w':World}(h:Fine S S' e pv sv w)(hF:Fr NoB w w'):Fine S S' e pv sv w' :=
 ⟨h.ok,h.pay.fr hF (fun _ _ _ _ h=>h),h.sgs.fr hF (fun _ _ _ h=>h),h.gl.fr hF (fun _ _ _ h=>h.elim),h.typ,h.idn,h.len,h.many,h.ids⟩
end
section
open Go.RowKit
variable [OldK]
def zat:Array Value:=#[.string ⟨#[]⟩,.string ⟨wArt.toArray⟩,.string ⟨wEnv.toArray⟩,.string ⟨wSta.toArray⟩,.string ⟨wBin.toArray⟩]
def zly:Array Value:=#[.string ⟨#[]⟩,.string ⟨wBind.toArray⟩,.string ⟨wRot.toArray⟩,.string ⟨wRev.toArray⟩]
theorem zhk (w:World):Calls Tryz.prog 75 #[] w fun e w'=>e = .returned (.agg zat)∧Fr NoB w w':=by
 have hr:(w.alloc (.cells zat 135)).rangeAt w.heap.size 0 (zat).toList:=jh (heap_alloc_new w _);have hA:=run_loadVar_mid (P:=Tryz.prog) (w.alloc (.cells zat 135)) w.heap.size 0 135 (zat).toList (.array 5 9) hr (by kernel_rfl) rfl (by kernel_rfl);rw[show(zat).toList.toArray=zat from rfl]at hA;have Hld:=Lib.hid hA;clear hA hr;go_enter Tryz.func75,Tryz.ntmps75
 go_wp2_with fail
 refine bodyPost_ret (v := .agg zat) (w:=w.alloc (.cells zat 135)) ?_ rfl ⟨rfl,Fr.refl.alloc _⟩;rw[j5 rfl];show((asAddr (.pointer (some ⟨w.heap.size,0,none⟩))).run _ (w.alloc (.cells zat 135))).andThen _=_;simp[asAddr,Result.andThen,Hld.out]
theorem zw0 (w:World):Calls Tryz.prog 76 #[] w fun e w'=>e = .returned (.agg zly)∧Fr NoB w w':=by
 have hr:(w.alloc (.cells zly 137)).rangeAt w.heap.size 0 (zly).toList:=jh (heap_alloc_new w _);have hA:=run_loadVar_mid (P:=Tryz.prog) (w.alloc (.cells zly 137)) w.heap.size 0 137 (zly).toList (.array 4 9) hr (by kernel_rfl) rfl (by kernel_rfl);rw[show(zly).toList.toArray=zly from rfl]at hA;have Hld:=Lib.hid hA;clear hA hr;go_enter Tryz.func76,Tryz.ntmps76
 go_wp2_with fail
 refine bodyPost_ret (v := .agg zly) (w:=w.alloc (.cells zly 137)) ?_ rfl ⟨rfl,Fr.refl.alloc _⟩;rw[j5 rfl];show((asAddr (.pointer (some ⟨w.heap.size,0,none⟩))).run _ (w.alloc (.cells zly 137))).andThen _=_;simp[asAddr,Result.andThen,Hld.out]
end
section
open Go.RowKit
variable [OldK]
structure EnB (p:Nat) (e:En) (pv sv:Value) (V:World):Prop where
 rg:V.rangeAt p 0 (e.cells pv sv)
 th:V.there p 0 70
 lt:p<V.heap.size
 ty:∃ c,V.heap[p]? = some (.cells c 28 (0,0))
section
variable {p:Nat} {e:En} {pv sv:Value} {V V':World}
theorem EnB.fr {M:Nat→Obj→Prop}(h:EnB p e pv sv V)(hF:Fr M V V')(hM:∀ c,¬ M p (.cells c 28 (0,0))):EnB p e pv sv V':=by
 obtain⟨c,hc⟩:=h.ty;have hB:=hF.block _ _ hc (hM c);have hA:∀ o,V'.cell? ⟨p,o,none⟩=V.cell? ⟨p,o,none⟩:=fun o=>by simp only[World.cell?,hc,hB]
 have hC:∀ o,V'.frozen? ⟨p,o,none⟩=V.frozen? ⟨p,o,none⟩:=fun o=>by simp only[World.frozen?,hc,hB]
 exact⟨fun j x hx=>by rw[hA];exact h.rg j x hx,fun j hj=>by rw[hA,hC];exact h.th j hj,jb hB,c,hB⟩
theorem zel {b:Nat} {T:TypeId}:∀ (vs:List Value) (o:Nat) (w:World) (c:Array Value),w.heap[b]? = some (.cells c T (0,0))→∃ c',(w.setCells b o vs).heap[b]? = some (.cells c' T (0,0))
 | [],_,_,c,h=>⟨c,h⟩
 | v :: vs,o,w,c,h=>by
   rw[World.setCells];exact zel vs (o+1) _ _ (z7 (o:=o) v h)
theorem EnB.sets (h:EnB p e pv sv V)(o:Nat)(vs:List Value){e':En}{pv' sv':Value}(hr:(V.setCells p o vs).rangeAt p 0 (e'.cells pv' sv')):EnB p e' pv' sv' (V.setCells p o vs):=by
 obtain⟨c,hc⟩:=h.ty;obtain⟨c',hA⟩:=zel vs o V c hc;exact⟨hr,World.there_setCells h.th _ _ _,jb hA,c',hA⟩
theorem EnB.set1 (h:EnB p e pv sv V)(o:Nat)(v:Value){e':En}{pv' sv':Value}(hr:(V.setCell ⟨p,o,none⟩ v).rangeAt p 0 (e'.cells pv' sv')):EnB p e' pv' sv' (V.setCell ⟨p,o,none⟩ v) :=
 EnB.sets h o [v] hr
theorem EnB.at (h:EnB p e pv sv V)(o:Nat)(ho:o<70):(∃ x,V.cell? ⟨p,o,none⟩=some x)∧V.frozen? ⟨p,o,none⟩=false:=by
 have:=h.th o ho;rw[Nat.zero_add]at this;exact⟨Option.isSome_iff_exists.1 this.1,this.2⟩
theorem EnB.part (h:EnB p e pv sv V)(o n:Nat)(ho:o+n≤70):V.there p o n:=fun j hj=>by
 have:=h.th (o+j) (by omega)
 rwa [Nat.zero_add]at this
end
def kindsL:List ByteArray:=[⟨#[]⟩,⟨wArt.toArray⟩,⟨wEnv.toArray⟩,⟨wSta.toArray⟩,⟨wBin.toArray⟩]
def opsL:List ByteArray:=[⟨#[]⟩,⟨wBind.toArray⟩,⟨wRot.toArray⟩,⟨wRev.toArray⟩]
theorem zxl (a b:Bs):((⟨a.toArray⟩:ByteArray)=⟨b.toArray⟩)↔a=b:=by
 constructor
 ·intro h
  injection h with h
  have:=congrArg Array.toList h;simpa using this
 rintro rfl;rfl
theorem zrp (t:Bs):Lib.idxOfS kindsL ⟨t.toArray⟩=ze3 t:=by
 unfold Lib.idxOfS kindsL ze3;have e0:(⟨#[]⟩:ByteArray)=⟨([]:Bs).toArray⟩:=rfl;rw[e0];simp only[Lib.idxFromS,beq_iff_eq,zxl];by_cases h0:t=[]
 ·simp[h0]
 by_cases h1:t=wArt
 ·simp[h1,wArt]
 by_cases h2:t=wEnv
 ·simp[h2,wArt,wEnv]
 by_cases h3:t=wSta
 ·simp[h3,wArt,wEnv,wSta]
 by_cases h4:t=wBin
 ·simp[h4,wArt,wEnv,wSta,wBin]
 simp[h0,h1,h2,h3,h4,Ne.symm h0,Ne.symm h1,Ne.symm h2,Ne.symm h3,Ne.symm h4]
theorem zvw (t:Bs):Lib.idxOfS opsL ⟨t.toArray⟩=zvy t:=by
 unfold Lib.idxOfS opsL zvy;have e0:(⟨#[]⟩:ByteArray)=⟨([]:Bs).toArray⟩:=rfl;rw[e0];simp only[Lib.idxFromS,beq_iff_eq,zxl];by_cases h0:t=[]
 ·simp[h0]
 by_cases h1:t=wBind
 ·simp[h1,wBind]
 by_cases h2:t=wRot
 ·simp[h2,wBind,wRot]
 by_cases h3:t=wRev
 ·simp[h3,wBind,wRot,wRev]
 simp[h0,h1,h2,h3,Ne.symm h0,Ne.symm h1,Ne.symm h2,Ne.symm h3]
theorem zt1 (t:Bs) (b:Nat) (w:World) (hb:w.heap[b]? = some (.cells zat 135 (0,0))) :
 Calls Tryz.prog 77 #[.slice (some ⟨b,0,none⟩) 5 5,.string ⟨t.toArray⟩] w fun r w'=>r = .returned (.int .i64 (ze3 t))∧w'=w:=by
 have h:=Tryz.slices_Index_string b 0 5 5 kindsL ⟨t.toArray⟩ w (by decide) (by decide) (fun j hj=>by
  have:j=0∨j=1∨j=2∨j=3∨j=4:=by have:kindsL.length=5:=rfl;omega
  rcases this with rfl | rfl | rfl | rfl | rfl<;>simp[World.cell?,hb,zat,kindsL])
 rw[show kindsL.take 5=kindsL from rfl,zrp]at h;exact h
theorem zw1 (t:Bs) (b:Nat) (w:World) (hb:w.heap[b]? = some (.cells zly 137 (0,0))) :
 Calls Tryz.prog 77 #[.slice (some ⟨b,0,none⟩) 4 4,.string ⟨t.toArray⟩] w fun r w'=>r = .returned (.int .i64 (zvy t))∧w'=w:=by
 have h:=Tryz.slices_Index_string b 0 4 4 opsL ⟨t.toArray⟩ w (by decide) (by decide) (fun j hj=>by
  have:j=0∨j=1∨j=2∨j=3:=by have:opsL.length=4:=rfl;omega
  rcases this with rfl | rfl | rfl | rfl<;>simp[World.cell?,hb,zly,opsL])
 rw[show opsL.take 4=opsL from rfl,zvw]at h;exact h
end
section
open Go.RowKit Go.Shelf
variable [OldK]
end
end Go.Proofs.YtmgfncjfgkllcaaGreatDoor
