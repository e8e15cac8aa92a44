/-
  The walks of json's reader, further: how a value is read by its first sign.
-/
import Derived.Test.YtbfmpbhikipipaaDoorReader8
namespace Go.Proofs.YtbfmpbhikipipaaDoor
set_option linter.unusedVariables false
set_option linter.unusedSimpArgs false
set_option linter.unusedSectionVars false
open Go.RowKit
attribute [local instance] oldZero

set_option maxRecDepth 100000 in
set_option maxHeartbeats 1000000 in
theorem read1_c (q r : Nat) (s : Bs) (bad : Bool) (d : Int) (w : World) (hq : Bx q r w) (h : Rd r s bad d w) :
    Calls Tryd.prog 42 #[.pointer (some ⟨q, 0, none⟩)] w fun e w' => ∃ v, e = .returned v ∧ RJ (fun k => w.heap.size ≤ k) w' J.zero v ∧ Rd r (sMust sNull ⟨s, bad⟩).s (sMust sNull ⟨s, bad⟩).bad d w' ∧ Fr (MR r) w w' := by
  have cq := hq.cell
  have hql := get_lt hq
  have hlt := h.lt
  have hmust := fun W hR => must_c r s sNull bad d W hR
  generalize sMust sNull ⟨s, bad⟩ = G at *
  obtain ⟨s1, b1⟩ := G
  have Hmust := Lib.hid hmust
  clear hmust
  go_enter Tryd.func42, Tryd.ntmps42
  go_wp2_with fail
  refine (Hmust.out _ (h.alloc _)).mono ?_
  rintro e w1 ⟨rfl, hR1, hF1⟩
  have hV1 := (VB.new w _ _ _ _ _).rd hF1
  obtain ⟨q0, q1, q2, q3, q4, a0, a1, a2, a3, a4, fz, hlt1⟩ := hV1.cells
  go_wp2_with fail
  refine bodyPost_ret (v := .agg #[.int .i64 0, .int .i64 0, .string ⟨#[]⟩, .slice none 0 0, .slice none 0 0]) (by simp [results, Tryd.results42, go_sem, a0, a1, a2, a3, a4]) rfl ?_
  exact ⟨_, rfl, RJ.zero _ _, hR1.setV (by omega) _ _ _ _ _, ((Fr.refl.alloc _).trans' hF1).setV (Nat.le_refl _) _ _ _ _ _⟩
set_option maxRecDepth 100000 in
set_option maxHeartbeats 1000000 in
theorem read2_c (q r : Nat) (s : Bs) (bad : Bool) (d : Int) (w : World) (hq : Bx q r w) (h : Rd r s bad d w) :
    Calls Tryd.prog 44 #[.pointer (some ⟨q, 0, none⟩)] w fun e w' => ∃ v, e = .returned v ∧ RJ (fun k => w.heap.size ≤ k) w' (.mk 1 1 [] [] []) v ∧ Rd r (sMust sTrue ⟨s, bad⟩).s (sMust sTrue ⟨s, bad⟩).bad d w' ∧ Fr (MR r) w w' := by
  have cq := hq.cell
  have hql := get_lt hq
  have hlt := h.lt
  have hmust := fun W hR => must_c r s sTrue bad d W hR
  generalize sMust sTrue ⟨s, bad⟩ = G at *
  obtain ⟨s1, b1⟩ := G
  have Hmust := Lib.hid hmust
  clear hmust
  go_enter Tryd.func44, Tryd.ntmps44
  go_wp2_with fail
  refine (Hmust.out _ (h.alloc _)).mono ?_
  rintro e w1 ⟨rfl, hR1, hF1⟩
  have hV1 := (VB.new w _ _ _ _ _).rd hF1
  obtain ⟨q0, q1, q2, q3, q4, a0, a1, a2, a3, a4, fz, hlt1⟩ := hV1.cells
  go_wp2_with fail
  refine bodyPost_ret (v := .agg #[.int .i64 1, .int .i64 1, .string ⟨#[]⟩, .slice none 0 0, .slice none 0 0]) (by simp [results, Tryd.results44, go_sem, a0, a1, a2, a3, a4]) rfl ?_
  exact ⟨_, rfl, RJ.flat _ _ _ _ [], hR1.setV (by omega) _ _ _ _ _, ((Fr.refl.alloc _).trans' hF1).setV (Nat.le_refl _) _ _ _ _ _⟩
set_option maxRecDepth 100000 in
set_option maxHeartbeats 1000000 in
theorem read3_c (q r : Nat) (s : Bs) (bad : Bool) (d : Int) (w : World) (hq : Bx q r w) (h : Rd r s bad d w) :
    Calls Tryd.prog 45 #[.pointer (some ⟨q, 0, none⟩)] w fun e w' => ∃ v, e = .returned v ∧ RJ (fun k => w.heap.size ≤ k) w' (.mk 1 0 [] [] []) v ∧ Rd r (sMust sFalse ⟨s, bad⟩).s (sMust sFalse ⟨s, bad⟩).bad d w' ∧ Fr (MR r) w w' := by
  have cq := hq.cell
  have hql := get_lt hq
  have hlt := h.lt
  have hmust := fun W hR => must_c r s sFalse bad d W hR
  generalize sMust sFalse ⟨s, bad⟩ = G at *
  obtain ⟨s1, b1⟩ := G
  have Hmust := Lib.hid hmust
  clear hmust
  go_enter Tryd.func45, Tryd.ntmps45
  go_wp2_with fail
  refine (Hmust.out _ (h.alloc _)).mono ?_
  rintro e w1 ⟨rfl, hR1, hF1⟩
  have hV1 := (VB.new w _ _ _ _ _).rd hF1
  obtain ⟨q0, q1, q2, q3, q4, a0, a1, a2, a3, a4, fz, hlt1⟩ := hV1.cells
  go_wp2_with fail
  refine bodyPost_ret (v := .agg #[.int .i64 1, .int .i64 0, .string ⟨#[]⟩, .slice none 0 0, .slice none 0 0]) (by simp [results, Tryd.results45, go_sem, a0, a1, a2, a3, a4]) rfl ?_
  exact ⟨_, rfl, RJ.flat _ _ _ _ [], hR1.setV (by omega) _ _ _ _ _, ((Fr.refl.alloc _).trans' hF1).setV (Nat.le_refl _) _ _ _ _ _⟩
set_option maxRecDepth 100000 in
set_option maxHeartbeats 1000000 in
theorem read4_c (q r : Nat) (s : Bs) (bad : Bool) (d : Int) (w : World) (hq : Bx q r w) (h : Rd r s bad d w) (hg : Gl w) (hlen : s.length ≤ 1073741824) :
    Calls Tryd.prog 46 #[.pointer (some ⟨q, 0, none⟩)] w fun e w' => ∃ v, e = .returned v ∧ RJ (fun k => w.heap.size ≤ k) w' (.mk 3 0 (sText ⟨s, bad⟩).1 [] []) v ∧ Rd r (sText ⟨s, bad⟩).2.s (sText ⟨s, bad⟩).2.bad d w' ∧ Fr (MR r) w w' := by
  have cq := hq.cell
  have hql := get_lt hq
  have hlt := h.lt
  have htext := fun W hR hgW => text_c r s bad d W hR hgW hlen
  generalize sText ⟨s, bad⟩ = G at *
  obtain ⟨nm, s1, b1⟩ := G
  have Htext := Lib.hid htext
  clear htext
  go_enter Tryd.func46, Tryd.ntmps46
  go_wp2_with fail
  refine (Htext.out _ (h.alloc _) (hg.alloc _)).mono ?_
  rintro e w1 ⟨rfl, hR1, hF1⟩
  have hV1 := (VB.new w _ _ _ _ _).rd hF1
  obtain ⟨q0, q1, q2, q3, q4, a0, a1, a2, a3, a4, fz, hlt1⟩ := hV1.cells
  go_wp2_with fail
  refine bodyPost_ret (v := .agg #[.int .i64 3, .int .i64 0, .string ⟨nm.toArray⟩, .slice none 0 0, .slice none 0 0]) (by simp [results, Tryd.results46, go_sem, a0, a1, a2, a3, a4]) rfl ?_
  exact ⟨_, rfl, RJ.flat _ _ _ _ nm, hR1.setV (by omega) _ _ _ _ _, ((Fr.refl.alloc _).trans' hF1).setV (Nat.le_refl _) _ _ _ _ _⟩

theorem ret_val {a b : Value} (h : a = b) : Ending.returned a = .returned b := by rw [h]
/-- the function by which a value is read -/
def rdFn (r q : Nat) (c : UInt8) : Value :=
  if c = 110 then .func (.func 42) #[] #[.pointer (some ⟨q, 0, none⟩)]
  else if c = 116 then .func (.func 44) #[] #[.pointer (some ⟨q, 0, none⟩)]
  else if c = 102 then .func (.func 45) #[] #[.pointer (some ⟨q, 0, none⟩)]
  else if c = 34 then .func (.func 46) #[] #[.pointer (some ⟨q, 0, none⟩)]
  else if c = 91 then .func (.func 48) #[.pointer (some ⟨r, 0, none⟩)] #[]
  else if c = 123 then .func (.func 49) #[.pointer (some ⟨r, 0, none⟩)] #[]
  else .func (.func 50) #[.pointer (some ⟨r, 0, none⟩)] #[]
theorem sign_eq (c : UInt8) (n : Nat) (hn : n < 256) : ((c.toNat : Int) == (n : Int)) = decide (c = UInt8.ofNat n) := by
  rw [Bool.eq_iff_iff, beq_iff_eq, decide_eq_true_eq]
  constructor
  · intro e
    have : c.toNat = n := by omega
    apply UInt8.toNat_inj.1
    rw [this]
    simp; omega
  · rintro rfl
    simp; omega
set_option maxRecDepth 100000 in
set_option maxHeartbeats 1000000 in
theorem read_c (r : Nat) (c : UInt8) (w : World) :
    Calls Tryd.prog 33 #[.pointer (some ⟨r, 0, none⟩), .int .u8 c.toNat] w fun e w' => e = .returned (rdFn r w.heap.size c) ∧ w' = w.alloc (.cells #[.pointer (some ⟨r, 0, none⟩)] 55) := by
  have e1 : ((c.toNat : Int) == 110) = decide (c = 110) := sign_eq c 110 (by decide)
  have e2 : ((c.toNat : Int) == 116) = decide (c = 116) := sign_eq c 116 (by decide)
  have e3 : ((c.toNat : Int) == 102) = decide (c = 102) := sign_eq c 102 (by decide)
  have e4 : ((c.toNat : Int) == 34) = decide (c = 34) := sign_eq c 34 (by decide)
  have e5 : ((c.toNat : Int) == 91) = decide (c = 91) := sign_eq c 91 (by decide)
  have e6 : ((c.toNat : Int) == 123) = decide (c = 123) := sign_eq c 123 (by decide)
  generalize hG : rdFn r w.heap.size c = G
  unfold rdFn at hG
  by_cases h1 : c = 110
  · rw [decide_eq_true h1] at e1
    rw [if_pos h1] at hG
    clear e2 e3 e4 e5 e6
    go_enter Tryd.func33, Tryd.ntmps33
    go_wp2_with fail
    go_ret
    exact ⟨rfl, rfl⟩
  rw [decide_eq_false h1] at e1
  rw [if_neg h1] at hG
  by_cases h2 : c = 116
  · rw [decide_eq_true h2] at e2
    rw [if_pos h2] at hG
    clear e3 e4 e5 e6
    go_enter Tryd.func33, Tryd.ntmps33
    go_wp2_with fail
    go_ret
    exact ⟨rfl, rfl⟩
  rw [decide_eq_false h2] at e2
  rw [if_neg h2] at hG
  by_cases h3 : c = 102
  · rw [decide_eq_true h3] at e3
    rw [if_pos h3] at hG
    clear e4 e5 e6
    go_enter Tryd.func33, Tryd.ntmps33
    go_wp2_with fail
    go_ret
    exact ⟨rfl, rfl⟩
  rw [decide_eq_false h3] at e3
  rw [if_neg h3] at hG
  by_cases h4 : c = 34
  · rw [decide_eq_true h4] at e4
    rw [if_pos h4] at hG
    clear e5 e6
    go_enter Tryd.func33, Tryd.ntmps33
    go_wp2_with fail
    go_ret
    exact ⟨rfl, rfl⟩
  rw [decide_eq_false h4] at e4
  rw [if_neg h4] at hG
  by_cases h5 : c = 91
  · rw [decide_eq_true h5] at e5
    rw [if_pos h5] at hG
    clear e6
    go_enter Tryd.func33, Tryd.ntmps33
    go_wp2_with fail
    go_ret
    exact ⟨rfl, rfl⟩
  rw [decide_eq_false h5] at e5
  rw [if_neg h5] at hG
  by_cases h6 : c = 123
  · rw [decide_eq_true h6] at e6
    rw [if_pos h6] at hG
    go_enter Tryd.func33, Tryd.ntmps33
    go_wp2_with fail
    go_ret
    exact ⟨rfl, rfl⟩
  rw [decide_eq_false h6] at e6
  rw [if_neg h6] at hG
  go_enter Tryd.func33, Tryd.ntmps33
  go_wp2_with fail
  go_ret
  exact ⟨rfl, rfl⟩
end Go.Proofs.YtbfmpbhikipipaaDoor
