/-
  The walks of what pairs are compared by.
-/
import Derived.Test.YtbfmpbhikipipaaDoorCellRows
import Derived.Deep.QuietTactic
namespace Go.Proofs.YtbfmpbhikipipaaDoor
set_option linter.unusedVariables false
set_option linter.unusedSimpArgs false
set_option linter.unusedSectionVars false
open Go.RowKit

def cmpB (a b : Bs) : Int := if Op.bytesLess a b then -1 else if a == b then 0 else 1
set_option maxRecDepth 100000 in
set_option maxHeartbeats 400000 in
theorem isNaN_c (a : Bs) (w : World) : Calls Tryd.prog 61 #[.string ⟨a.toArray⟩] w fun e w' => e = .returned (.bool false) ∧ w' = w := by
  go_enter Tryd.func61, Tryd.ntmps61
  go_wp2_with fail
  go_ret
  exact ⟨rfl, rfl⟩
set_option maxRecDepth 100000 in
set_option maxHeartbeats 400000 in
theorem compare_c (a b : Bs) (w : World) : Calls Tryd.prog 40 #[.string ⟨a.toArray⟩, .string ⟨b.toArray⟩] w fun e w' => e = .returned (.int .i64 (cmpB a b)) ∧ w' = w := by
  unfold cmpB
  obtain ⟨x, hx⟩ : ∃ x, Op.bytesLess a b = x := ⟨_, rfl⟩
  obtain ⟨y, hy⟩ : ∃ y, (a == b) = y := ⟨_, rfl⟩
  rw [hx, hy]
  cases x
  · cases y
    all_goals
      go_enter Tryd.func40, Tryd.ntmps40
      go_wp2_with fail
      refine (isNaN_c a w).mono ?_
      rintro e w1 ⟨rfl, rfl⟩
      go_wp2_with fail
      refine (isNaN_c b w1).mono ?_
      rintro e w2 ⟨rfl, rfl⟩
      go_wp2_with fail
      go_ret
      exact ⟨rfl, rfl⟩
  · go_enter Tryd.func40, Tryd.ntmps40
    go_wp2_with fail
    refine (isNaN_c a w).mono ?_
    rintro e w1 ⟨rfl, rfl⟩
    go_wp2_with fail
    refine (isNaN_c b w1).mono ?_
    rintro e w2 ⟨rfl, rfl⟩
    go_wp2_with fail
    go_ret
    exact ⟨rfl, rfl⟩
set_option maxRecDepth 100000 in
set_option maxHeartbeats 400000 in
theorem byName_c (a b : Bs) (x0 x1 x2 x3 x4 y0 y1 y2 y3 y4 : Value) (w : World) :
    Calls Tryd.prog 30 #[.agg #[.string ⟨a.toArray⟩, x0, x1, x2, x3, x4], .agg #[.string ⟨b.toArray⟩, y0, y1, y2, y3, y4]] w fun e w' => e = .returned (.int .i64 (cmpB a b)) ∧
      w' = (w.alloc (.cells #[.string ⟨a.toArray⟩, x0, x1, x2, x3, x4] 31)).alloc (.cells #[.string ⟨b.toArray⟩, y0, y1, y2, y3, y4] 31) := by
  go_enter Tryd.func30, Tryd.ntmps30
  go_wp2_with fail
  refine (compare_c a b _).mono ?_
  rintro e w2 ⟨rfl, rfl⟩
  go_wp2_with fail
  go_ret
  exact ⟨rfl, rfl⟩
end Go.Proofs.YtbfmpbhikipipaaDoor
