/-
 The walks of slices.Values,AppendSeq,Collect at signatures: a range over a function.
-/
import Derived.RangeFuncNested
import Derived.RangeFuncBound
import Derived.RangeFuncCalls
import Derived.RangeFuncLeaves
import Derived.Shelf.Abstract
import Derived.Shelf.RegionOpen
import Derived.OwnWalkIn
import Derived.TacticsInMore
import Derived.LoopNIn
import Derived.LoopIn
import Derived.Deep.WholeRow
import Derived.Great.Walk
import Derived.Test.YtmgfncjfgkllcaaGreatDoorKGet
import Derived.Test.YtmgfncjfgkllcaaGreatDoorKSubjects
import Derived.Test.YtmgfncjfgkllcaaGreatDoorKSort2
open Go.Value renaming int→zy
open Go.IntKind renaming u8→z6
namespace Go.Proofs.YtmgfncjfgkllcaaGreatDoor
set_option linter.unusedVariables false
set_option linter.unusedSimpArgs false
set_option linter.unusedSectionVars false
open Go.RowKit Go.Shelf
variable [OldK]
attribute [local go_sem] Oper.semAt_some
section
variable {F:Fence} {nF:Nat} {P:Program} {ops:Array Oper} {rest:List Oper} {op:Oper} {a:Act} {w:World} {Q:Exit→Act→World→Prop}
end
theorem zp8 {P:Program} {T:TypeId} {i:TypeInfo} {z:Value} {s len:Nat} (hi:P.info? T=some i) (hz:i.zero=some z) (hs:i.size=s) (hzs:z.cells.size=s) (h0:0<s) (hl:0<len) (hsm:len * s≤2 ^ 24) (vs:List Value) (h1:∀ v∈vs,v.cells.size=s) (hlen:vs.length=len) :
 P.builtSlice T len ((vs.zipIdx 0).map fun x=>(x.2,x.1))=some (vs.flatMap fun v=>v.cells.toList).toArray:=by
 subst hs hlen;unfold Program.builtSlice;rw[hi];simp only[hz]
 rw [if_neg (by
  rintro(h | h)
  ·omega
  rcases Nat.mul_eq_zero.1 h with h | h<;>omega)]
 exact Great.fill_whole h0 vs _ h1 (by simp)
def sgZ:Array Value:=#[.string ⟨#[]⟩,zy z6 0,zy z6 0,zy z6 0,zy z6 0,zy z6 0,zy z6 0,zy z6 0,zy z6 0,zy z6 0,zy z6 0,zy z6 0,zy z6 0,zy z6 0,zy z6 0,zy z6 0,zy z6 0,zy z6 0,zy z6 0,zy z6 0,zy z6 0,zy z6 0,zy z6 0,zy z6 0,zy z6 0,zy z6 0,zy z6 0,zy z6 0,zy z6 0,zy z6 0,zy z6 0,zy z6 0,zy z6 0,zy z6 0,zy z6 0,zy z6 0,zy z6 0,zy z6 0,zy z6 0,zy z6 0,zy z6 0,zy z6 0,zy z6 0,zy z6 0,zy z6 0,zy z6 0,zy z6 0,zy z6 0,zy z6 0,zy z6 0,zy z6 0,zy z6 0,zy z6 0,zy z6 0,zy z6 0,zy z6 0,zy z6 0,zy z6 0,zy z6 0,zy z6 0,zy z6 0,zy z6 0,zy z6 0,zy z6 0,zy z6 0,zy z6 0,zy z6 0,zy z6 0,zy z6 0,zy z6 0,zy z6 0,zy z6 0,zy z6 0,zy z6 0,zy z6 0,zy z6 0,zy z6 0,zy z6 0,zy z6 0,zy z6 0,zy z6 0,zy z6 0,zy z6 0,zy z6 0,zy z6 0,zy z6 0,zy z6 0,zy z6 0,zy z6 0,zy z6 0,zy z6 0,zy z6 0,zy z6 0,zy z6 0,zy z6 0,zy z6 0,zy z6 0]
def Sg.enc (x:Sg):List Value:=if x.cells.size=97 then x.cells.toList else sgZ.toList
theorem Sg.enc_one (x:Sg):x.enc.toArray.all (·.oneCell')=true:=by
 unfold Sg.enc;split
 ·simpa using Sg.one x
 kernel_rfl
def SgRow (n₀ gb:Nat) (xs:List Sg) (W:World):Prop:=gb<n₀∧∀ (i:Nat) (x:Sg),xs[i]? = some x→W.rangeAt gb (i * 97) x.cells.toList
theorem SgRow.below {n₀ gb:Nat}{xs:List Sg}{A B:World}(h:SgRow n₀ gb xs A)(hb:Below n₀ A B):SgRow n₀ gb xs B :=
 ⟨h.1,fun i x hx=>zim (h.2 i x hx) (hb.block gb h.1)⟩
theorem zpz {w w':World} (h:Fr NoB w w'):w.grownBy w' none :=
 ⟨h.os,h.tape,h.output,h.size,fun k hk _=>by
  obtain⟨o,ho⟩:=ze7 hk;rw[ho]
  exact h.block k o ho (fun h=>h)⟩
theorem zhy:(Tryz.prog.info? 115).map (fun i=>(i.zero,i.size,i.bytes))=some (some (.agg sgZ),97,112):=by kernel_rfl
theorem zbs {P:Program}{ops:Array Oper}{rest:List Oper}{op:Oper}{a:Act}{w:World}{Q:Exit→Act→World→Prop}(hgd:op.guard=none)(ty:TypeId)(x y:Operand)(ho:op.op = .store ty x y)(c c':Array Value)(N:Nat)(hN:w.heap.size=N)
 (hx:a.eval x = .pointer (some ⟨N,0,none⟩)) (hy:a.eval y = .agg c') (hi:(P.info? ty).map (·.size)=some c'.size) (hs:c.size=c'.size) (h1:c'.all (·.oneCell')=true)
 (h:wpList P ops Q rest (a.put op.dst undef) (w.alloc (.cells c' ty))):wpList P ops Q (op :: rest) a (w.alloc (.cells c ty)):=by
 subst hN;refine wpList_plain hgd fun K hK=>?_
 unfold Oper.wp execOp;simp only[ho,hx,hy];rw[Sem.run_bind,run_storeAt_new w ty c c' hi hs h1];exact hK _ _ h
end Go.Proofs.YtmgfncjfgkllcaaGreatDoor
