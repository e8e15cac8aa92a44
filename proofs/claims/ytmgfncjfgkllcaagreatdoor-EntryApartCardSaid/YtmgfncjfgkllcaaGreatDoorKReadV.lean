/-
 From a value that can be read as data to a value of package api: a tree.
-/
import Derived.Test.YtmgfncjfgkllcaaGreatDoorKCellRows
import Derived.Test.YtmgfncjfgkllcaaGreatDoorKFits
import Derived.Lib.LaidU8
import Derived.ProofKit
import Derived.Deep.MidRow
namespace Go.Proofs.YtmgfncjfgkllcaaGreatDoor
set_option linter.unusedVariables false
set_option linter.unusedSimpArgs false
set_option linter.unusedSectionVars false
open Go.RowKit
variable [OldK]

theorem zhc:Tryz.prog.cellsOf 9=1:=by kernel_rfl
theorem zxa {cs:List Value}(h:cs.length=5):∃ c0 c1 c2 c3 c4,cs=[c0,c1,c2,c3,c4]:=by
 match cs,h with
 | [c0,c1,c2,c3,c4],_=>exact⟨c0,c1,c2,c3,c4,rfl⟩
theorem six {cs:List Value}(h:cs.length=6):∃ c0 c1 c2 c3 c4 c5,cs=[c0,c1,c2,c3,c4,c5]:=by
 match cs,h with
 | [c0,c1,c2,c3,c4,c5],_=>exact⟨c0,c1,c2,c3,c4,c5,rfl⟩
section
variable {H:Type} {enc:TypeId × Value→H} {sp:Nat→Bool} {held:Bool} {w:World}
theorem bind_some {α β:Type}{o:Option α}{f:α→Option β}{y:β}(h:o.bind f=some y):∃ x,o=some x∧f x=some y:=by
 cases o with
 | none=>simp at h
 | some x=>exact⟨x,rfl,by simpa using h⟩
end
end Go.Proofs.YtmgfncjfgkllcaaGreatDoor
