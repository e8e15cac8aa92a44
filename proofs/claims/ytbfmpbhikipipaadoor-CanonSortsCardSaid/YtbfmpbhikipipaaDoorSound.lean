/-
  The walk of json's sound.
-/
import Derived.Test.YtbfmpbhikipipaaDoorCellRows
import Derived.Test.YtbfmpbhikipipaaDoorParse
import Derived.Test.YtbfmpbhikipipaaDoorSpecSound
namespace Go.Proofs.YtbfmpbhikipipaaDoor
set_option linter.unusedVariables false
set_option linter.unusedSimpArgs false
set_option linter.unusedSectionVars false
open Go.RowKit
variable [OldK]

/-- what 'sound' does, at most f deeper -/
def SoundOk (f : Nat) : Prop := ∀ (d : Int) (S : Nat → Prop) (j : J) (v : Value) (w : World), RJ S w j v → fits 67108864 j = true → Gl w → 0 ≤ d → d + f = 8 →
  Calls Tryd.prog 35 #[v, .int .i64 d] w fun e w' => e = .returned (.bool (pSound d j)) ∧ Fr NoB w w'

theorem len_zero {α : Type} (p : List α) : ((p.length : Int) == 0) = p.isEmpty := by
  cases p with
  | nil => rfl
  | cons x l => simp; omega
theorem eq_false {a b : Int} (h : ¬ a = b) : (a == b) = false := by simpa using h

set_option maxRecDepth 100000 in
set_option maxHeartbeats 1000000 in
theorem sound_flat (f : Nat) (d : Int) (S : Nat → Prop) (k n : Int) (t : Bs) (l : List J) (p : List (Bs × J)) (v : Value) (w : World) (h : RJ S w (.mk k n t l p) v) (htl : t.length ≤ 67108864) (hg : Gl w) (hd : 0 ≤ d) (hdf : d + f = 8) (hk : k = 0 ∨ k = 1 ∨ k = 2 ∨ k = 3) :
    Calls Tryd.prog 35 #[v, .int .i64 d] w fun e w' => e = .returned (.bool (pSound d (.mk k n t l p))) ∧ Fr NoB w w' := by
  obtain ⟨a1, c1, a2, c2, rfl, hl, hp⟩ := h.open
  obtain ⟨a0, a1', a2', a3, a4, fz, hlt1⟩ := VB.at (heap_alloc_new w (.cells #[.int .i64 k, .int .i64 n, .string ⟨t.toArray⟩, .slice a1 l.length c1, .slice a2 p.length c2] 25))
  have z1 := len_zero l
  have z2 := len_zero p
  clear h hl hp
  rcases hk with rfl | rfl | rfl | rfl
  · unfold pSound
    simp only [if_true]
    go_enter Tryd.func35, Tryd.ntmps35
    go_wp2_with fail
    all_goals
      go_ret
      refine ⟨ret_bool ?_, Fr.refl.alloc _⟩
      simp_all
      try (intros; omega)
  · unfold pSound
    simp only [show ¬ (1 : Int) = 0 by decide, if_false, if_true]
    go_enter Tryd.func35, Tryd.ntmps35
    go_wp2_with fail
    all_goals
      go_ret
      refine ⟨ret_bool ?_, Fr.refl.alloc _⟩
      simp_all
      try (intros; omega)
  · unfold pSound
    simp only [show ¬ (2 : Int) = 0 by decide, show ¬ (2 : Int) = 1 by decide, if_false, if_true]
    go_enter Tryd.func35, Tryd.ntmps35
    go_wp2_with fail
    all_goals
      go_ret
      refine ⟨ret_bool ?_, Fr.refl.alloc _⟩
      simp_all
      try (intros; omega)
  · unfold pSound
    simp only [show ¬ (3 : Int) = 0 by decide, show ¬ (3 : Int) = 1 by decide, show ¬ (3 : Int) = 2 by decide, if_false, if_true]
    go_enter Tryd.func35, Tryd.ntmps35
    go_wp2_with fail
    all_goals first
      | (refine (Go.Proofs.Tryd.utf8_ValidString ⟨t.toArray⟩ _ (Nat.le_trans htl (by decide)) (hg.alloc _).utf8).mono ?_
         rintro e w1 ⟨rfl, hb1⟩
         have hFw := (Fr.refl (M := NoB)).alloc _ |>.trans' (Fr.ofBelow hb1)
         have Hb := Lib.hid hFw
         clear hFw hb1
         go_wp2_with fail
         all_goals
           go_ret
           refine ⟨ret_bool ?_, Hb.out⟩
           simp_all
           try (intros; omega))
      | (go_ret
         refine ⟨ret_bool ?_, Fr.refl.alloc _⟩
         simp_all
         try (intros; omega))
end Go.Proofs.YtbfmpbhikipipaaDoor
