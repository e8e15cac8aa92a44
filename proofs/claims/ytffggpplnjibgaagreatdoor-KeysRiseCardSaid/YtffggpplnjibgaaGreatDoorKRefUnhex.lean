/-
 The walks of the reference's place,Unhex and Sum.
-/
import Derived.Test.YtffggpplnjibgaaGreatDoorKTextsEq
import Derived.Test.YtffggpplnjibgaaGreatDoorKConcat
namespace Go.Proofs.YtffggpplnjibgaaGreatDoor
set_option linter.unusedVariables false
set_option linter.unusedSimpArgs false
set_option linter.unusedSectionVars false
open Go.RowKit
variable [OldK]
end Go.Proofs.YtffggpplnjibgaaGreatDoor
