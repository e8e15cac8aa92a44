/-
  The walk of slices.Equal at bytes.
-/
import Derived.Test.YtcddlemkimbkcaaGreatDoorKBytes
import Derived.Deep.LoopGhost
import Derived.Deep.QuietTactic
import Derived.BigQuiet
import Derived.KernelRfl
namespace Go.Proofs.YtcddlemkimbkcaaGreatDoor
set_option linter.unusedVariables false
set_option linter.unusedSimpArgs false
set_option linter.unusedSectionVars false
open Go.RowKit
variable [OldK]
theorem SB.drewN {S : Nat → Prop} {l : Bs} {v : Value} {w : World} (h : SB S l v w) (q : Nat) : SB S l v (w.drewN q) := h.fr (drewN_fr w q) (fun _ _ _ _ h => h)

set_option maxRecDepth 100000 in
set_option maxHeartbeats 1000000 in
theorem equal_c (S S' : Nat → Prop) (l m : Bs) (v u : Value) (w : World) (hv : SB S l v w) (hu : SB S' m u w) (hl : l.length ≤ 9007199254740992) :
    Calls Tryz.prog 161 #[v, u] w fun e w' => e = .returned (.bool (l == m)) ∧ ∃ q, w' = w.drewN q := by
  obtain ⟨a1, c1, hv1⟩ := hv.form
  obtain ⟨a2, c2, hu1⟩ := hu.form
  by_cases hlm : l.length = m.length
  · generalize hR : (l == m) = R
    have HR := Lib.hid hR
    subst hv1 hu1
    have Hv := Lib.hid hv
    have Hu := Lib.hid hu
    have Hlm := Lib.hid hlm
    rw [← hlm]
    clear hR hv hu hlm
    go_enter Tryz.func161, Tryz.ntmps161
    go_wp2_with fail
    go_loopg [13] (l.length + 1) (fun g vi wr => ∃ (i q : Nat), vi = .int .i64 i ∧ i ≤ l.length ∧ i + g = l.length + 1 ∧ Hid (wr = w.drewN q) ∧ Hid ((l.drop i == m.drop i) = R))
    case atStart => exact ⟨0, 0, rfl, by omega, by omega, (World.drewN_zero _).symm, HR⟩
    case round =>
      obtain ⟨i, q, rfl, hi, hgk, Hw, HS⟩ := hrel
      rcases Nat.lt_or_ge i l.length with hlt | hge
      · obtain ⟨x, hx⟩ : ∃ x, l[i]? = some x := ⟨_, List.getElem?_eq_getElem hlt⟩
        obtain ⟨y, hy⟩ : ∃ y, m[i]? = some y := ⟨_, List.getElem?_eq_getElem (by have := Hlm.out; omega)⟩
        have hvw := Hv.out.drewN q
        have huw := Hu.out.drewN q
        rw [← Hw.out] at hvw huw
        obtain ⟨b1, o1, cap1, hv1, k1⟩ := hvw.at hx
        obtain ⟨b2, o2, cap2, hu1, k2⟩ := huw.at hy
        obtain ⟨rfl, rfl⟩ : a1 = some ⟨b1, o1, none⟩ ∧ c1 = cap1 := by simpa using hv1
        obtain ⟨rfl, rfl⟩ : a2 = some ⟨b2, o2, none⟩ ∧ c2 = cap2 := by simpa using hu1
        have hS := HS.out
        rw [drop_at hx, drop_at hy, List.cons_beq_cons] at hS
        have hxy : ((x.toNat : Int) != (y.toNat : Int)) = !(x == y) := by
          rw [Bool.eq_iff_iff]
          simp only [bne_iff_ne, ne_eq, Bool.not_eq_true', beq_eq_false_iff_ne]
          constructor
          · intro h e; exact h (by rw [e])
          · intro h e; exact h (UInt8.toNat_inj.1 (by omega))
        cases hbe : (x == y) with
        | true =>
          rw [hbe] at hS hxy
          simp only [Bool.true_and] at hS
          have HS2 := Lib.hid hS
          clear hS HS hbe hvw huw hx hy hv1 hu1
          go_wp2_with fail
          go_quiet (fail)
          go_wp2_with fail
          go_roundg (gk - 1)
          case measure => omega
          case rel => exact ⟨i + 1, q + nq, by simp, by omega, by omega, Lib.hid (by rw [Hw.out, World.drewN_drewN]), HS2⟩
        | false =>
          rw [hbe] at hS hxy
          simp only [Bool.false_and] at hS
          have HS2 := Lib.hid hS
          clear hS HS hbe hvw huw hx hy hv1 hu1
          go_wp2_with fail
          go_quiet (fail)
          go_wp2_with fail
          go_ret
          rw [← HS2.out, Hw.out, World.drewN_drewN]
          exact ⟨rfl, _, rfl⟩
      · obtain rfl : i = l.length := by omega
        have hS := HS.out
        rw [List.drop_length, Hlm.out, List.drop_length] at hS
        have HS2 := Lib.hid hS
        clear hS HS
        go_wp2_with fail
        go_ret
        rw [← HS2.out, Hw.out]
        exact ⟨rfl, q, rfl⟩
  · have hne : (l == m) = false := by
      rw [beq_eq_false_iff_ne]
      rintro rfl
      exact hlm rfl
    have hln : ((l.length : Int) != (m.length : Int)) = true := by
      rw [bne_iff_ne]
      omega
    rw [hne]
    subst hv1 hu1
    clear hv hu hne
    go_enter Tryz.func161, Tryz.ntmps161
    go_wp2_with fail
    go_ret
    exact ⟨rfl, 0, (World.drewN_zero _).symm⟩
end Go.Proofs.YtcddlemkimbkcaaGreatDoor
