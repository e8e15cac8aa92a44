/-
  strings.ContainsFunc at a function that may lay blocks of its own.
-/
import Derived.Test.YtcddlemkimbkcaaGreatDoorKTyped
import Derived.Laws.Runes
namespace Go.Proofs.YtcddlemkimbkcaaGreatDoor
set_option linter.unusedVariables false
set_option linter.unusedSimpArgs false
set_option linter.unusedSectionVars false
open Go.RowKit
variable [OldK]
/-- function g answers p at every rune; what lay stays -/
def RunePred (g : Nat) (p : Nat → Bool) : Prop :=
  ∀ (W : World) (x : Nat), x ≤ 1114111 → Calls Tryz.prog g #[.int .i32 (x : Int)] W fun e w' => e = .returned (.bool (p x)) ∧ Below W.heap.size W w'
theorem indexf_c (g : Nat) (eg : ∀ args w, (callFunc g args).run Tryz.prog w = .ok (.enter g args) w) (p : Nat → Bool) (s : ByteArray) (w : World) (hp : RunePred g p) :
    Calls Tryz.prog 269 #[.string s, .func (.func g) #[] #[], .bool true] w fun e w' => e = .returned (.int .i64 (Lib.idxFunc p true s)) ∧ Below w.heap.size w w' := by
  go_enter Tryz.func269, Tryz.ntmps269
  go_wp2_with fail
  go_loopg [] s.size (fun gf wx => ∃ i : Nat, wx.heap[w.heap.size]? = some (.stringIter s i) ∧ Below w.heap.size w wx ∧ Lib.idxFuncFrom p true s gf i = Lib.idxFunc p true s ∧ s.size ≤ i + gf)
  case atStart => exact ⟨0, World.iter_heap w s 0, (Below.refl _ w).alloc (Nat.le_refl _) _, rfl, by omega⟩
  case round =>
    obtain ⟨i, hat, hB, hG, hf⟩ := hrel
    by_cases hi : i < s.size
    · obtain ⟨h, rfl⟩ : ∃ h, gk = h + 1 := ⟨gk - 1, by omega⟩
      have hn : ∀ ty, (Instr.next (.pointer (some ⟨w.heap.size, 0, none⟩)) true ty).run Tryz.prog wr = _ := fun ty => Lib.run_next_any_at wr w.heap.size s i ty hat hi
      have hw := Lib.width_pos s i
      have hr := Lib.rune_le s i
      rw [Lib.idxFuncFrom, if_pos hi] at hG
      obtain ⟨R, hR⟩ : ∃ R, (Utf8.decode s i).1 = R := ⟨_, rfl⟩
      obtain ⟨L, hL⟩ : ∃ L, (Utf8.decode s i).2 = L := ⟨_, rfl⟩
      rw [hR, hL] at hG hn
      rw [hR] at hr
      rw [hL] at hw
      have hat1 := Lib.iterAt_heap wr w.heap.size s i (i + L) hat
      have hB1 := Lib.below_iterAt hB (k := w.heap.size) (Nat.le_refl _) s (i + L)
      obtain ⟨W, hW⟩ : ∃ W, wr.iterAt w.heap.size s (i + L) = W := ⟨_, rfl⟩
      rw [hW] at hn hat1 hB1
      have hc := hp W R hr
      clear hp hat hB hR hL hr hW
      cases hx : p R with
      | true =>
        rw [hx] at hc
        rw [hx, if_pos rfl] at hG
        go_wp2_with (go_at_fn g; refine hc.mono ?_; rintro e W' ⟨rfl, hB2⟩)
        go_ret
        exact ⟨by rw [← hG] <;> rfl, hB1.trans (hB2.mono hB1.size)⟩
      | false =>
        rw [hx] at hc
        rw [hx, if_neg (by simp)] at hG
        go_wp2_with (go_at_fn g; refine hc.mono ?_; rintro e W' ⟨rfl, hB2⟩)
        go_roundg h
        case measure => omega
        case rel => exact ⟨i + L, by rw [hB2.block _ (get_lt hat1)]; exact hat1, hB1.trans (hB2.mono hB1.size), hG, by omega⟩
    · have hn : ∀ ty, (Instr.next (.pointer (some ⟨w.heap.size, 0, none⟩)) true ty).run Tryz.prog wr = _ := fun ty => Lib.run_next_end_at wr w.heap.size s i ty hat hi
      rw [Lib.idxFuncFrom_end p true s gk i hi] at hG
      go_wp2_with fail
      go_ret
      exact ⟨by rw [← hG] <;> rfl, hB⟩
theorem containsf_c (g : Nat) (eg : ∀ args w, (callFunc g args).run Tryz.prog w = .ok (.enter g args) w) (p : Nat → Bool) (s : ByteArray) (w : World) (hp : RunePred g p) :
    Calls Tryz.prog 183 #[.string s, .func (.func g) #[] #[]] w fun e w' => e = .returned (.bool (decide (0 ≤ Lib.idxFunc p true s))) ∧ Below w.heap.size w w' := by
  have Hc := Lib.hid (indexf_c g eg p s w hp)
  have hi : Calls Tryz.prog 224 #[.string s, .func (.func g) #[] #[]] w fun e w' => e = .returned (.int .i64 (Lib.idxFunc p true s)) ∧ Below w.heap.size w w' := by
    go_enter Tryz.func224, Tryz.ntmps224
    go_wp2_with fail
    refine Hc.out.mono ?_
    rintro e W' ⟨rfl, hB⟩
    go_wp2_with fail
    go_ret
    exact ⟨rfl, hB⟩
  have Hi := Lib.hid hi
  clear hi Hc
  go_enter Tryz.func183, Tryz.ntmps183
  go_wp2_with fail
  refine Hi.out.mono ?_
  rintro e W' ⟨rfl, hB⟩
  go_wp2_with fail
  go_ret
  exact ⟨rfl, hB⟩
end Go.Proofs.YtcddlemkimbkcaaGreatDoor
