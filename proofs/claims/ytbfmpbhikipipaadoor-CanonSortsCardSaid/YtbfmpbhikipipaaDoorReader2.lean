/-
  The walks of json's reader, further: signs by figures, escapes, texts.
-/
import Derived.Test.YtbfmpbhikipipaaDoorReader
namespace Go.Proofs.YtbfmpbhikipipaaDoor
set_option linter.unusedVariables false
set_option linter.unusedSimpArgs false
set_option linter.unusedSectionVars false
open Go.RowKit
variable [OldK]

theorem sHex_lt : ∀ (k n m : Nat) (st : St), n < 16 ^ m → (sHex k n st).1 < 16 ^ (m + k) := by
  intro k
  induction k with
  | zero => intro n m st h; simpa [sHex] using h
  | succ k ih =>
    intro n m st h
    have hp : 0 < 16 ^ (m + (k + 1)) := Nat.pow_pos (by decide)
    unfold sHex
    split
    · exact hp
    · split
      · rename_i x l hs ov v hv
        have hv' : v < 16 := by
          unfold hexOf at hv
          split at hv
          · simp at hv; omega
          · split at hv
            · simp at hv; omega
            · simp at hv
        have := ih (16 * n + v) (m + 1) ⟨l, st.bad⟩ (by rw [Nat.pow_succ]; omega)
        rw [show m + (k + 1) = m + 1 + k by omega]
        exact this
      · exact hp

set_option maxRecDepth 100000 in
set_option maxHeartbeats 1000000 in
theorem sign_c (r : Nat) (s : Bs) (bad : Bool) (d : Int) (w : World) (h : Rd r s bad d w) :
    Calls Tryd.prog 78 #[.pointer (some ⟨r, 0, none⟩)] w fun e w' => e = .returned (.int .i32 (sSign ⟨s, bad⟩).1) ∧ Rd r (sSign ⟨s, bad⟩).2.s (sSign ⟨s, bad⟩).2.bad d w' ∧ Fr (MR r) w w' := by
  have hlt := sHex_lt 4 0 0 ⟨s, bad⟩ (by decide)
  unfold sSign
  have hc := hex_c r s bad d w h
  generalize sHex 4 0 ⟨s, bad⟩ = G at *
  obtain ⟨n, s1, b1⟩ := G
  simp only at hlt hc ⊢
  have hn : n < 65536 := hlt
  clear hlt
  have Hc := Lib.hid hc
  clear hc
  by_cases h1 : n < 55296 ∨ 57344 ≤ n
  · rw [if_pos h1]
    rcases h1 with h1 | h1
    all_goals
      have h1' : (n : Int) < 55296 ∨ ¬ (n : Int) < 55296 := by omega
      go_enter Tryd.func78, Tryd.ntmps78
      go_wp2_with fail
      refine Hc.out.mono ?_
      rintro e w1 ⟨rfl, hR1, hF1⟩
      go_wp2_with fail
      go_ret
      exact ⟨rfl, hR1, hF1⟩
  · rw [if_neg h1]
    have h2 : decide ((n : Int) < 55296) = false := by simp; omega
    have h3 : decide ((57344 : Int) ≤ n) = false := by simp; omega
    have hn2 : (55296 : Int) ≤ n ∧ (n : Int) < 57344 := by omega
    have Hn2 := Lib.hid hn2
    clear h1 hn2
    by_cases h4 : 56320 ≤ n
    · rw [if_pos h4]
      have h4' : decide ((56320 : Int) ≤ n) = true := by simp; omega
      clear h4
      have H := Lib.hid hn
      clear hn
      go_enter Tryd.func78, Tryd.ntmps78
      go_wp2_with fail
      refine Hc.out.mono ?_
      rintro e w1 ⟨rfl, hR1, hF1⟩
      go_wp2_with fail
      refine (fail_c r _ _ d _ hR1).mono ?_
      rintro e w2 ⟨rfl, hR2, hF2⟩
      go_wp2_with fail
      go_ret
      exact ⟨rfl, hR2, hF1.trans' hF2⟩
    · rw [if_neg h4]
      have h4' : decide ((56320 : Int) ≤ n) = false := by simp; omega
      clear h4
      generalize hM : sMust [92, 117] ⟨s1, b1⟩ = M
      have HM := Lib.hid hM
      clear hM
      obtain ⟨s2, b2⟩ := M
      have hlt := sHex_lt 4 0 0 ⟨s2, b2⟩ (by decide)
      generalize hG2 : sHex 4 0 ⟨s2, b2⟩ = G2
      have HG2 := Lib.hid hG2
      rw [hG2] at hlt
      clear hG2
      obtain ⟨low, s3, b3⟩ := G2
      simp only at hlt ⊢
      have hl : low < 65536 := hlt
      clear hlt
      have key : ∀ w1, Rd r s1 b1 d w1 → Fr (MR r) w w1 → Calls Tryd.prog 43 #[.pointer (some ⟨r, 0, none⟩), .string ⟨#[92, 117]⟩] w1 fun e w' => e = .returned (.tuple #[]) ∧ Rd r s2 b2 d w' ∧ Fr (MR r) w w' := by
        intro w1 hR1 hF1
        refine (must_c r s1 [92, 117] b1 d w1 hR1).mono ?_
        rintro e w2 ⟨rfl, hR2, hF2⟩
        rw [HM.out] at hR2
        exact ⟨rfl, hR2, hF1.trans' hF2⟩
      have key2 : ∀ w1, Rd r s2 b2 d w1 → Fr (MR r) w w1 → Calls Tryd.prog 87 #[.pointer (some ⟨r, 0, none⟩)] w1 fun e w' => e = .returned (.int .i32 low) ∧ Rd r s3 b3 d w' ∧ Fr (MR r) w w' := by
        intro w1 hR1 hF1
        refine (hex_c r s2 b2 d w1 hR1).mono ?_
        rintro e w2 ⟨rfl, hR2, hF2⟩
        rw [HG2.out] at hR2 ⊢
        exact ⟨rfl, hR2, hF1.trans' hF2⟩
      have Key := Lib.hid key
      have Key2 := Lib.hid key2
      clear key key2
      by_cases h5 : b3 = true ∨ low < 56320 ∨ 57344 ≤ low
      · rw [if_pos h5]
        have h6 : b3 = true ∨ (b3 = false ∧ decide ((low : Int) < 56320) = true) ∨ (b3 = false ∧ decide ((low : Int) < 56320) = false ∧ decide ((57344 : Int) ≤ low) = true) := by
          cases b3 <;> simp at h5 ⊢ <;> omega
        clear h5
        have Hn := Lib.hid hn
        have Hl := Lib.hid hl
        clear hn hl
        rcases h6 with rfl | ⟨rfl, h6⟩ | ⟨rfl, h6, h7⟩
        all_goals
          go_enter Tryd.func78, Tryd.ntmps78
          go_wp2_with fail
          refine Hc.out.mono ?_
          rintro e w1 ⟨rfl, hR1, hF1⟩
          go_wp2_with fail
          refine (Key.out _ hR1 hF1).mono ?_
          rintro e w2 ⟨rfl, hR2, hF2⟩
          go_wp2_with fail
          refine (Key2.out _ hR2 hF2).mono ?_
          rintro e w3 ⟨rfl, hR3, hF3⟩
          obtain ⟨c0, c1, c2, f1, hr1⟩ := hR3.cells
          go_wp2_with fail
          refine (fail_c r _ _ d _ hR3).mono ?_
          rintro e w4 ⟨rfl, hR4, hF4⟩
          go_wp2_with fail
          go_ret
          exact ⟨rfl, hR4, hF3.trans' hF4⟩
      · rw [if_neg h5]
        obtain ⟨rfl, h6, h7⟩ : b3 = false ∧ decide ((low : Int) < 56320) = false ∧ decide ((57344 : Int) ≤ low) = false := by
          cases b3 <;> simp at h5 ⊢ <;> omega
        clear h5
        have hl0 : (0 : Int) ≤ low := by omega
        have hl1 : (low : Int) < 65536 := by omega
        have hn1 : (n : Int) < 65536 := by omega
        have Hn := Lib.hid hn
        have Hl := Lib.hid hl
        clear hn hl
        go_enter Tryd.func78, Tryd.ntmps78
        go_wp2_with fail
        refine Hc.out.mono ?_
        rintro e w1 ⟨rfl, hR1, hF1⟩
        go_wp2_with fail
        refine (Key.out _ hR1 hF1).mono ?_
        rintro e w2 ⟨rfl, hR2, hF2⟩
        go_wp2_with fail
        refine (Key2.out _ hR2 hF2).mono ?_
        rintro e w3 ⟨rfl, hR3, hF3⟩
        obtain ⟨c0, c1, c2, f1, hr1⟩ := hR3.cells
        go_wp2_with fail
        go_ret
        have hn2 := Hn2.out
        simp at h4' h6 h7
        exact ⟨ret_int (by omega), hR3, hF3⟩

theorem ne_int {c : UInt8} {k : Nat} (h : c ≠ UInt8.ofNat k) : ((c.toNat : Int) == (k : Int)) = false := by
  rw [beq_eq_false_iff_ne]
  intro e
  apply h
  have e : c.toNat = k := by omega
  rw [← e]; simp

set_option maxHeartbeats 1000000 in
theorem escape_c (r : Nat) (s : Bs) (bad : Bool) (d : Int) (w : World) (h : Rd r s bad d w) :
    Calls Tryd.prog 64 #[.pointer (some ⟨r, 0, none⟩)] w fun e w' => e = .returned (.int .i32 (sEscape ⟨s, bad⟩).1) ∧ Rd r (sEscape ⟨s, bad⟩).2.s (sEscape ⟨s, bad⟩).2.bad d w' ∧ Fr (MR r) w w' := by
  obtain ⟨c0, c1, c2, f1, hr1⟩ := h.cells
  cases s with
  | nil =>
    simp only [sEscape]
    go_enter Tryd.func64, Tryd.ntmps64
    go_wp2_with fail
    refine (fail_c r _ _ d _ h).mono ?_
    rintro e w1 ⟨rfl, hR1, hF1⟩
    go_wp2_with fail
    go_ret
    exact ⟨rfl, hR1, hF1⟩
  | cons c l =>
    have hx := Lib.hid (extract_drop (c :: l) 1 (l.length + 1) (by simp))
    have hset : Hid (Rd r l bad d (w.setCell ⟨r, 0, none⟩ (.string ⟨(List.drop 1 (c :: l)).toArray⟩))) := h.set0 l
    have hF : Fr (MR r) w (w.setCell ⟨r, 0, none⟩ (.string ⟨(List.drop 1 (c :: l)).toArray⟩)) := Fr.refl.setCell _ _ h.one
    by_cases hp : c = 34 ∨ c = 92 ∨ c = 47 ∨ c = 98 ∨ c = 102 ∨ c = 110 ∨ c = 114 ∨ c = 116
    · rcases hp with rfl | rfl | rfl | rfl | rfl | rfl | rfl | rfl
      all_goals
        simp only [sEscape, plainEsc]
        go_enter Tryd.func64, Tryd.ntmps64
        go_wp2_with fail
        go_ret
        rw [hx.out]
        exact ⟨by simp, hset.out, hF⟩
    · have h34 : c ≠ 34 := fun e => hp (by simp [e])
      have h92 : c ≠ 92 := fun e => hp (by simp [e])
      have h47 : c ≠ 47 := fun e => hp (by simp [e])
      have h98 : c ≠ 98 := fun e => hp (by simp [e])
      have h102 : c ≠ 102 := fun e => hp (by simp [e])
      have h110 : c ≠ 110 := fun e => hp (by simp [e])
      have h114 : c ≠ 114 := fun e => hp (by simp [e])
      have h116 : c ≠ 116 := fun e => hp (by simp [e])
      by_cases h117 : c = 117
      · subst h117
        have hs : sEscape ⟨117 :: l, bad⟩ = sSign ⟨l, bad⟩ := by simp [sEscape, plainEsc]
        rw [hs]
        clear hs hp h34 h92 h47 h98 h102 h110 h114 h116
        go_enter Tryd.func64, Tryd.ntmps64
        go_wp2_with fail
        rw [hx.out]
        refine (sign_c r l bad d _ hset.out).mono ?_
        rintro e w1 ⟨rfl, hR1, hF1⟩
        go_wp2_with fail
        go_ret
        exact ⟨rfl, hR1, hF.trans' hF1⟩
      · have hs : sEscape ⟨c :: l, bad⟩ = (0, ⟨l, true⟩) := by simp [sEscape, plainEsc, *]
        rw [hs]
        have e34 : ((c.toNat : Int) == 34) = false := ne_int h34
        have e92 : ((c.toNat : Int) == 92) = false := ne_int h92
        have e47 : ((c.toNat : Int) == 47) = false := ne_int h47
        have e98 : ((c.toNat : Int) == 98) = false := ne_int h98
        have e102 : ((c.toNat : Int) == 102) = false := ne_int h102
        have e110 : ((c.toNat : Int) == 110) = false := ne_int h110
        have e114 : ((c.toNat : Int) == 114) = false := ne_int h114
        have e116 : ((c.toNat : Int) == 116) = false := ne_int h116
        have e117 : ((c.toNat : Int) == 117) = false := ne_int h117
        clear hs hp h34 h92 h47 h98 h102 h110 h114 h116 h117
        go_enter Tryd.func64, Tryd.ntmps64
        go_wp2_with fail
        rw [hx.out]
        refine (fail_c r l bad d _ hset.out).mono ?_
        rintro e w1 ⟨rfl, hR1, hF1⟩
        go_wp2_with fail
        go_ret
        exact ⟨rfl, hR1, hF.trans' hF1⟩
end Go.Proofs.YtbfmpbhikipipaaDoor
