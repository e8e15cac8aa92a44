/-
  The walk of slices.SortStableFunc at pairs: at most 19 of them; none.
-/
import Derived.Test.YtbfmpbhikipipaaDoorInsert
namespace Go.Proofs.YtbfmpbhikipipaaDoor
set_option linter.unusedVariables false
set_option linter.unusedSimpArgs false
set_option linter.unusedSectionVars false
open Go.RowKit

/-- what SortStableFunc does to rows of at most N pairs -/
def SortOk (N : Nat) : Prop := ∀ (b o c : Nat) (l : List PV) (w : World), PRow b o l w → l.length ≤ N →
  Calls Tryd.prog 29 #[.slice (some ⟨b, o, none⟩) l.length c, .func (.func 30) #[] #[]] w fun e w' => e = .returned (.tuple #[]) ∧ PRow b o (isort PV.nm l) w' ∧ Fr (MBk b) w w'

set_option maxRecDepth 100000 in
set_option maxHeartbeats 1000000 in
theorem insert_none (v : Value) (w : World) :
    Calls Tryd.prog 59 #[v, .int .i64 0, .int .i64 0, .func (.func 30) #[] #[]] w fun e w' => e = .returned (.tuple #[]) ∧ w' = w := by
  go_enter Tryd.func59, Tryd.ntmps59
  go_wp2_with fail
  go_loopg [8] 0 (fun g vi wr => vi = .int .i64 1 ∧ wr = w)
  case atStart => exact ⟨rfl, rfl⟩
  case round =>
    obtain ⟨rfl, rfl⟩ := hrel
    go_wp2_with fail
    go_end0
    exact ⟨rfl, rfl⟩

set_option maxRecDepth 100000 in
set_option maxHeartbeats 1000000 in
theorem stable_small (b o c n : Nat) (l : List PV) (w : World) (h : PRow b o l w) (hl : l.length = n) (hn : n ≤ 19) :
    Calls Tryd.prog 39 #[.slice (some ⟨b, o, none⟩) n c, .int .i64 n, .func (.func 30) #[] #[]] w fun e w' => e = .returned (.tuple #[]) ∧ PRow b o (isort PV.nm l) w' ∧ Fr (MBk b) w w' := by
  have h1 : ¬ (20 : Int) ≤ n := by omega
  have h2 : ¬ (20 : Int) < n := by omega
  go_enter Tryd.func39, Tryd.ntmps39
  go_wp2_with fail
  go_loopg [7, 8] 0 (fun g va vb wr => va = .int .i64 0 ∧ vb = .int .i64 20 ∧ wr = w)
  case atStart => exact ⟨rfl, rfl, rfl⟩
  case round =>
    obtain ⟨rfl, rfl, rfl⟩ := hrel
    go_wp2_with fail
    have hins := insert_c b o c n 0 n [] l [] wr (by simpa using h) rfl (by omega) (by simp) (by omega)
    refine hins.mono ?_
    rintro e w1 ⟨rfl, hP, hF⟩
    go_wp2_with fail
    go_loopg [6, 7, 8] 0 (fun g va vb vc wr => va = .int .i64 20 ∧ wr = w1)
    case atStart => exact ⟨rfl, rfl⟩
    case round =>
      obtain ⟨rfl, rfl⟩ := hrel
      go_wp2_with fail
      go_end0
      exact ⟨rfl, by simpa using hP, hF⟩
set_option maxRecDepth 100000 in
set_option maxHeartbeats 1000000 in
theorem sort_small : SortOk 19 := by
  intro b o c l w h hl
  go_enter Tryd.func29, Tryd.ntmps29
  go_wp2_with fail
  refine (stable_small b o c l.length l w h rfl hl).mono ?_
  rintro e w1 ⟨rfl, hP, hF⟩
  go_wp2_with fail
  go_end0
  exact ⟨rfl, hP, hF⟩
set_option maxRecDepth 100000 in
set_option maxHeartbeats 1000000 in
theorem stable_none (v : Value) (w : World) :
    Calls Tryd.prog 39 #[v, .int .i64 0, .func (.func 30) #[] #[]] w fun e w' => e = .returned (.tuple #[]) ∧ w' = w := by
  go_enter Tryd.func39, Tryd.ntmps39
  go_wp2_with fail
  go_loopg [7, 8] 0 (fun g va vb wr => va = .int .i64 0 ∧ vb = .int .i64 20 ∧ wr = w)
  case atStart => exact ⟨rfl, rfl, rfl⟩
  case round =>
    obtain ⟨rfl, rfl, rfl⟩ := hrel
    go_wp2_with fail
    refine (insert_none v wr).mono ?_
    rintro e w1 ⟨rfl, rfl⟩
    go_wp2_with fail
    go_loopg [6, 7, 8] 0 (fun g va vb vc wr => va = .int .i64 20 ∧ wr = w1)
    case atStart => exact ⟨rfl, rfl⟩
    case round =>
      obtain ⟨rfl, rfl⟩ := hrel
      go_wp2_with fail
      go_end0
      exact ⟨rfl, rfl⟩
set_option maxRecDepth 100000 in
set_option maxHeartbeats 1000000 in
theorem sort_none (a : Option Addr) (c : Nat) (w : World) :
    Calls Tryd.prog 29 #[.slice a 0 c, .func (.func 30) #[] #[]] w fun e w' => e = .returned (.tuple #[]) ∧ w' = w := by
  go_enter Tryd.func29, Tryd.ntmps29
  go_wp2_with fail
  refine (stable_none _ w).mono ?_
  rintro e w1 ⟨rfl, rfl⟩
  go_wp2_with fail
  go_end0
  exact ⟨rfl, rfl⟩
end Go.Proofs.YtbfmpbhikipipaaDoor
