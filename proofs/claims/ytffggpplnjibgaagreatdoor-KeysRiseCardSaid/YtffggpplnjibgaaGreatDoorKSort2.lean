/-
 The walks of bind.by's two functions: do two signers have one text,which text is less.
-/
import Derived.Test.YtffggpplnjibgaaGreatDoorKTable
import Derived.OrdersHeld
import Derived.Deep.RegionHeld3
import Derived.LoopN
import Derived.Shelf.Lay
namespace Go.Proofs.YtffggpplnjibgaaGreatDoor
set_option linter.unusedVariables false
set_option linter.unusedSimpArgs false
set_option linter.unusedSectionVars false
section
open Go.RowKit
variable [OldK]
end
section
open Go.RowKit
variable [OldK]
structure SR2 (gb:Nat) (a b:Sg) (w:World):Prop where
 one:w.rangeAt gb 0 a.cells.toList
 two:w.rangeAt gb 97 b.cells.toList
 there:w.there gb 0 194
theorem SR2.fr {M:Nat→Obj→Prop}{gb:Nat}{a b:Sg}{w w':World}(h:SR2 gb a b w)(hb:gb<w.heap.size)(hF:Fr M w w')(hM:∀ o,¬ M gb o):SR2 gb a b w' :=
 ⟨jo h.one hF hb hM,jo h.two hF hb hM,zdi h.there hF hb hM⟩
end
end Go.Proofs.YtffggpplnjibgaaGreatDoor
