/-
 The walks of bind.by's two functions: do two signers have one text,which text is less.
-/
import Derived.Test.YtmgfncjfgkllcaaGreatDoorKTable
import Derived.OrdersHeld
import Derived.Deep.RegionHeld3
import Derived.LoopN
import Derived.Shelf.Lay
namespace Go.Proofs.YtmgfncjfgkllcaaGreatDoor
set_option linter.unusedVariables false
set_option linter.unusedSimpArgs false
set_option linter.unusedSectionVars false
open Go.RowKit
variable [OldK]
end Go.Proofs.YtmgfncjfgkllcaaGreatDoor
namespace Go.Proofs.YtmgfncjfgkllcaaGreatDoor
set_option linter.unusedVariables false
set_option linter.unusedSimpArgs false
set_option linter.unusedSectionVars false
open Go.RowKit
variable [OldK]
structure SR2 (gb:Nat) (a b:Sg) (w:World):Prop where
 one:w.rangeAt gb 0 a.cells.toList
 two:w.rangeAt gb 97 b.cells.toList
 there:w.there gb 0 194
theorem SR2.fr {M:Nat→Obj→Prop}{gb:Nat}{a b:Sg}{w w':World}(h:SR2 gb a b w)(hb:gb<w.heap.size)(hF:Fr M w w')(hM:∀ o,¬ M gb o):SR2 gb a b w' :=
 ⟨jf h.one hF hb hM,jf h.two hF hb hM,zdz h.there hF hb hM⟩
theorem zhr {w:World}{b n:Nat}(h:w.there b 0 n)(o m:Nat)(hm:o+m≤n):w.there b o m:=fun j hj=>by
 have:=h (o+j) (by omega)
 rwa [Nat.zero_add]at this
theorem SR2.swap {gb:Nat}{a b:Sg}{w:World}(h:SR2 gb a b w)(ha:a.ok)(hb:b.ok):SR2 gb b a ((w.setCells gb 97 a.cells.toList).setCells gb 0 b.cells.toList):=by
 have la:a.cells.toList.length=97:=by rw[Array.length_toList,Sg.size ha]
 have lb:b.cells.toList.length=97:=by rw[Array.length_toList,Sg.size hb]
 refine⟨World.rangeAt_setCells_same _ gb 0 _ (by rw[lb];exact zhr (World.there_setCells h.there _ _ _) 0 97 (by omega)),?_,World.there_setCells (World.there_setCells h.there _ _ _) _ _ _⟩;exact World.rangeAt_setCells_apart (World.rangeAt_setCells_same w gb 97 _ (by rw[la];exact zhr h.there 97 97 (by omega))) _ _ _ (.inr (.inr (by omega)))
end Go.Proofs.YtmgfncjfgkllcaaGreatDoor
