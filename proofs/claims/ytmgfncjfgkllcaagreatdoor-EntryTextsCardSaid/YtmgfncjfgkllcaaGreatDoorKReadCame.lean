/-
 From an array of bytes that can be read as data to bytes;a world in which the tables lie;what a walk keeps.
-/
import Derived.Test.YtmgfncjfgkllcaaGreatDoorKRefHex
import Derived.Test.YtmgfncjfgkllcaaGreatDoorRows
import Derived.Lib.LaidU8
import Derived.ProofKit
import Derived.OpenShut
import Derived.Deep.DeepHandedRow
import Derived.Test.YtmgfncjfgkllcaaGreatDoorKCellRows
import Derived.Test.YtmgfncjfgkllcaaGreatDoorKFits
import Derived.Deep.MidRow
import Derived.Test.YtmgfncjfgkllcaaGreatDoorKSpecBind
import Derived.Test.YtmgfncjfgkllcaaGreatDoorKGet
namespace Go.Proofs.YtmgfncjfgkllcaaGreatDoor
set_option linter.unusedVariables false
set_option linter.unusedSimpArgs false
set_option linter.unusedSectionVars false
section
open Go.ChangeShapes Go.WideShapes Go.ChangeAt Go.RowKit
section
variable {H:Type} {enc:TypeId × Value→H}
end
end
section
open Go.RowKit
variable [OldK]

theorem zyg {cs:List Value}(h:cs.length=5):∃ c0 c1 c2 c3 c4,cs=[c0,c1,c2,c3,c4]:=by
 match cs,h with
 | [c0,c1,c2,c3,c4],_=>exact⟨c0,c1,c2,c3,c4,rfl⟩
theorem six {cs:List Value}(h:cs.length=6):∃ c0 c1 c2 c3 c4 c5,cs=[c0,c1,c2,c3,c4,c5]:=by
 match cs,h with
 | [c0,c1,c2,c3,c4,c5],_=>exact⟨c0,c1,c2,c3,c4,c5,rfl⟩
section
variable {H:Type} {enc:TypeId × Value→H} {sp:Nat→Bool} {held:Bool} {w:World}
theorem bind_some {α β:Type}{o:Option α}{f:α→Option β}{y:β}(h:o.bind f=some y):∃ x,o=some x∧f x=some y:=by
 cases o with
 | none=>simp at h
 | some x=>exact⟨x,rfl,by simpa using h⟩
end
end
section
open Go.ChangeShapes Go.WideShapes Go.ChangeAt Go.RowKit
variable [OldK]
def Old:Nat→Prop:=fun k=>k<OldK.k
def EnIn (w:World) (e:En) (pv sv:Value):Prop:=e.ok∧SB Old e.payload pv w∧GS Old e.sigs sv w
theorem EnIn.fr {M:Nat→Obj→Prop}{w w':World}{e:En}{pv sv:Value}(h:EnIn w e pv sv)(hF:Fr M w w')(hM:∀ k o,k<OldK.k→¬ M k o):EnIn w' e pv sv :=
 ⟨h.1,h.2.1.fr hF (fun b o hs _=>hM b o hs),h.2.2.fr hF hM⟩
section
variable {H:Type} {enc:TypeId × Value→H} {sp:Nat→Bool} {held:Bool} {w:World} {fuel:Nat}
end
end
end Go.Proofs.YtmgfncjfgkllcaaGreatDoor
