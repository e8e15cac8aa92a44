/-
 The walks of slices.Values,AppendSeq,Collect at signatures: a range over a function.
-/
import Derived.RangeFuncNested
import Derived.RangeFuncBound
import Derived.RangeFuncCalls
import Derived.RangeFuncLeaves
import Derived.Shelf.Abstract
import Derived.Shelf.RegionOpen
import Derived.OwnWalkIn
import Derived.TacticsInMore
import Derived.LoopNIn
import Derived.LoopIn
import Derived.Deep.WholeRow
import Derived.Great.Walk
import Derived.Test.YtffggpplnjibgaaGreatDoorKGet
import Derived.Test.YtffggpplnjibgaaGreatDoorKSubjects
import Derived.Test.YtffggpplnjibgaaGreatDoorKSort2
open Go.Value renaming int→jf
open Go.IntKind renaming u8→jg
namespace Go.Proofs.YtffggpplnjibgaaGreatDoor
set_option linter.unusedVariables false
set_option linter.unusedSimpArgs false
set_option linter.unusedSectionVars false
open Go.RowKit Go.Shelf
variable [OldK]
attribute [local go_sem] Oper.semAt_some
theorem zk9 {p:Prop}(h:Hid p):p:=h.out
section
variable {F:Fence} {nF:Nat} {P:Program} {ops:Array Oper} {rest:List Oper} {op:Oper} {a:Act} {w:World} {Q:Exit→Act→World→Prop}
theorem zgr (hgd:op.guard=none)(ty:TypeId)(x:Operand)(ho:op.op = .load ty x)
 (b o:Nat) (hx:a.eval x = .pointer (some ⟨b,o,none⟩)) (cs:List Value) (d:TypeDesc) (hc:w.rangeAt b o cs)
 (hu:P.underlying ty=some d) (hd:d.isRow=true) (hi:(P.info? ty).map (·.size)=some cs.length)
 (h:wpListIn F nF P ops Q rest (a.put op.dst (.agg cs.toArray)) w):wpListIn F nF P ops Q (op :: rest) a w:=by
 refine wpListIn_plain hgd fun K hK=>?_
 unfold Oper.wpIn;refine⟨by simp[Oper.about,ho],?_⟩;rw[Oper.semAt_plain F _ _ (by rw[ho];intro c hB;cases hB)];simp only[execOp,ho,hx];rw[Sem.run_bind,run_loadAt_mid w b o ty cs d hc hu hd hi];exact hK _ _ h
end
def sgZ:Array Value:=#[.string ⟨#[]⟩,jf jg 0,jf jg 0,jf jg 0,jf jg 0,jf jg 0,jf jg 0,jf jg 0,jf jg 0,jf jg 0,jf jg 0,jf jg 0,jf jg 0,jf jg 0,jf jg 0,jf jg 0,jf jg 0,jf jg 0,jf jg 0,jf jg 0,jf jg 0,jf jg 0,jf jg 0,jf jg 0,jf jg 0,jf jg 0,jf jg 0,jf jg 0,jf jg 0,jf jg 0,jf jg 0,jf jg 0,jf jg 0,jf jg 0,jf jg 0,jf jg 0,jf jg 0,jf jg 0,jf jg 0,jf jg 0,jf jg 0,jf jg 0,jf jg 0,jf jg 0,jf jg 0,jf jg 0,jf jg 0,jf jg 0,jf jg 0,jf jg 0,jf jg 0,jf jg 0,jf jg 0,jf jg 0,jf jg 0,jf jg 0,jf jg 0,jf jg 0,jf jg 0,jf jg 0,jf jg 0,jf jg 0,jf jg 0,jf jg 0,jf jg 0,jf jg 0,jf jg 0,jf jg 0,jf jg 0,jf jg 0,jf jg 0,jf jg 0,jf jg 0,jf jg 0,jf jg 0,jf jg 0,jf jg 0,jf jg 0,jf jg 0,jf jg 0,jf jg 0,jf jg 0,jf jg 0,jf jg 0,jf jg 0,jf jg 0,jf jg 0,jf jg 0,jf jg 0,jf jg 0,jf jg 0,jf jg 0,jf jg 0,jf jg 0,jf jg 0,jf jg 0,jf jg 0]
def Sg.enc (x:Sg):List Value:=if x.cells.size=97 then x.cells.toList else sgZ.toList
theorem Sg.enc_one (x:Sg):x.enc.toArray.all (·.oneCell')=true:=by
 unfold Sg.enc;split
 ·simpa using Sg.one x
 kernel_rfl
def SgRow (n₀ gb:Nat) (xs:List Sg) (W:World):Prop:=gb<n₀∧∀ (i:Nat) (x:Sg),xs[i]? = some x→W.rangeAt gb (i * 97) x.cells.toList
theorem SgRow.below {n₀ gb:Nat}{xs:List Sg}{A B:World}(h:SgRow n₀ gb xs A)(hb:Below n₀ A B):SgRow n₀ gb xs B :=
 ⟨h.1,fun i x hx=>ze4 (h.2 i x hx) (hb.block gb h.1)⟩
theorem zp2 {w w':World} (h:Fr NoB w w'):w.grownBy w' none :=
 ⟨h.os,h.tape,h.output,h.size,fun k hk _=>by
  obtain⟨o,ho⟩:=zd8 hk;rw[ho]
  exact h.block k o ho (fun h=>h)⟩
theorem qc {P:Program}{ops:Array Oper}{rest:List Oper}{op:Oper}{a:Act}{w:World}{Q:Exit→Act→World→Prop}(hgd:op.guard=none)(ty:TypeId)(x y:Operand)(ho:op.op = .store ty x y)(c c':Array Value)(N:Nat)(hN:w.heap.size=N)
 (hx:a.eval x = .pointer (some ⟨N,0,none⟩)) (hy:a.eval y = .agg c') (hi:(P.info? ty).map (·.size)=some c'.size) (hs:c.size=c'.size) (h1:c'.all (·.oneCell')=true)
 (h:wpList P ops Q rest (a.put op.dst undef) (w.alloc (.cells c' ty))):wpList P ops Q (op :: rest) a (w.alloc (.cells c ty)):=by
 subst hN;refine wpList_plain hgd fun K hK=>?_
 unfold Oper.wp execOp;simp only[ho,hx,hy];rw[Sem.run_bind,run_storeAt_new w ty c c' hi hs h1];exact hK _ _ h
end Go.Proofs.YtffggpplnjibgaaGreatDoor
