/-
  The walk of the reference's Named.
-/
import Derived.Test.YtcddlemkimbkcaaGreatDoorKSpecEntry
import Derived.Test.YtcddlemkimbkcaaGreatDoorKBase
import Derived.Deep.LoopGhost
namespace Go.Proofs.YtcddlemkimbkcaaGreatDoor
set_option linter.unusedVariables false
set_option linter.unusedSimpArgs false
set_option linter.unusedSectionVars false
open Go.RowKit
set_option maxRecDepth 100000 in
set_option maxHeartbeats 4000000 in
theorem refNamed_c (s : Bs) (w : World) (hlen : s.length ≤ 1000000) :
    Calls Tryz.prog 23 #[.string ⟨s.toArray⟩] w fun e w' => e = .returned (.bool (pNamed s)) ∧ w = w' := by
  obtain ⟨R, hR⟩ : ∃ R, pNamed s = R := ⟨_, rfl⟩
  rw [hR]
  unfold pNamed at hR
  have hsz : (ByteArray.mk s.toArray).size = s.length := rfl
  by_cases h0 : s.length < 1
  · have h0i : decide ((s.length : Int) < 1) = true := decide_eq_true (by omega)
    obtain rfl : s = [] := List.length_eq_zero_iff.1 (by omega)
    have HR : Hid (false = R) := Lib.hid (by simpa using hR)
    clear hR h0
    go_enter Tryz.func23, Tryz.ntmps23
    go_wp2_with fail
    go_ret
    exact ⟨ret_bool HR.out, rfl⟩
  have h0i : decide ((s.length : Int) < 1) = false := decide_eq_false (by omega)
  have hne : s.isEmpty = false := by
    cases s with
    | nil => exact absurd (by simp) h0
    | cons a r => rfl
  rw [hne] at hR
  by_cases h64 : 64 < s.length
  · have h64i : decide ((64 : Int) < (s.length : Int)) = true := decide_eq_true (by omega)
    have h64n : decide (s.length ≤ 64) = false := decide_eq_false (by omega)
    rw [h64n] at hR
    have HR : Hid (false = R) := Lib.hid (by simpa using hR)
    clear hR h0 hne h64 h64n
    go_enter Tryz.func23, Tryz.ntmps23
    go_wp2_with fail
    go_ret
    exact ⟨ret_bool HR.out, rfl⟩
  have h64i : decide ((64 : Int) < (s.length : Int)) = false := decide_eq_false (by omega)
  have h64n : decide (s.length ≤ 64) = true := decide_eq_true (by omega)
  rw [h64n] at hR
  have HR : Hid ((s.drop 0).all (fun c => nameCh c.toNat) = R) := Lib.hid (by simpa using hR)
  clear hR h0 hne h64 h64n
  go_enter Tryz.func23, Tryz.ntmps23
  go_wp2_with fail
  go_loopg [3] (s.length + 1) (fun gf vi wr => ∃ i : Nat, vi = .int .i64 i ∧ i ≤ s.length ∧ i + gf = s.length + 1 ∧ w = wr ∧ Hid ((s.drop i).all (fun c => nameCh c.toNat) = R))
  case atStart => exact ⟨0, rfl, by omega, by omega, rfl, HR⟩
  case round =>
    obtain ⟨i, rfl, hi, hig, rfl, HS⟩ := hrel
    rcases Nat.lt_or_ge i s.length with hlt | hge
    · obtain ⟨c, hc⟩ : ∃ c, s[i]? = some c := ⟨_, List.getElem?_eq_getElem hlt⟩
      have hcb : ∀ h, (ByteArray.mk s.toArray)[i]'h = c := by
        intro h
        obtain ⟨h1, h2⟩ := List.getElem?_eq_some_iff.1 hc
        exact h2
      have hS := HS.out
      rw [drop_at hc, List.all_cons] at hS
      have hc8 : (c.toNat : Int) < 256 := by have := c.toNat_lt; omega
      obtain ⟨b1, hb1⟩ : ∃ b, decide ((97 : Int) ≤ (c.toNat : Int)) = b := ⟨_, rfl⟩
      obtain ⟨b2, hb2⟩ : ∃ b, decide ((c.toNat : Int) ≤ 122) = b := ⟨_, rfl⟩
      obtain ⟨b3, hb3⟩ : ∃ b, decide ((48 : Int) ≤ (c.toNat : Int)) = b := ⟨_, rfl⟩
      obtain ⟨b4, hb4⟩ : ∃ b, decide ((c.toNat : Int) ≤ 57) = b := ⟨_, rfl⟩
      obtain ⟨e46, he46⟩ : ∃ b, ((c.toNat : Int) == 46) = b := ⟨_, rfl⟩
      obtain ⟨e45, he45⟩ : ∃ b, ((c.toNat : Int) == 45) = b := ⟨_, rfl⟩
      obtain ⟨e95, he95⟩ : ∃ b, ((c.toNat : Int) == 95) = b := ⟨_, rfl⟩
      obtain ⟨e64, he64⟩ : ∃ b, ((c.toNat : Int) == 64) = b := ⟨_, rfl⟩
      have hn : nameCh c.toNat = ((b1 && b2) || ((b3 && b4) || (e46 || (e45 || (e95 || e64))))) := by
        unfold nameCh
        have f : ∀ k : Nat, (c.toNat == k) = ((c.toNat : Int) == (k : Int)) := fun k => by
          rw [Bool.eq_iff_iff, beq_iff_eq, beq_iff_eq]; omega
        rw [← hb1, ← hb2, ← hb3, ← hb4, ← he46, ← he45, ← he95, ← he64, f, f, f, f]
        congr 1
        · congr 1 <;> exact decide_eq_decide.2 (by omega)
        · congr 1
          congr 1 <;> exact decide_eq_decide.2 (by omega)
      rw [hn] at hS
      have HS3 := Lib.hid hS
      clear hc hS HS hn
      cases b1
      · cases b3
        · cases e46
          · cases e45
            · cases e95
              · cases e64
                · (go_wp2_with fail
                   first
                   | (go_ret
                      exact ⟨ret_bool (by simpa using HS3.out), rfl⟩)
                   | (go_roundg (gk - 1)
                      case measure => omega
                      case rel => exact ⟨i + 1, by simp, by omega, by omega, rfl, Lib.hid (by simpa using HS3.out)⟩))
                · (go_wp2_with fail
                   first
                   | (go_ret
                      exact ⟨ret_bool (by simpa using HS3.out), rfl⟩)
                   | (go_roundg (gk - 1)
                      case measure => omega
                      case rel => exact ⟨i + 1, by simp, by omega, by omega, rfl, Lib.hid (by simpa using HS3.out)⟩))
              · (go_wp2_with fail
                 first
                 | (go_ret
                    exact ⟨ret_bool (by simpa using HS3.out), rfl⟩)
                 | (go_roundg (gk - 1)
                    case measure => omega
                    case rel => exact ⟨i + 1, by simp, by omega, by omega, rfl, Lib.hid (by simpa using HS3.out)⟩))
            · (go_wp2_with fail
               first
               | (go_ret
                  exact ⟨ret_bool (by simpa using HS3.out), rfl⟩)
               | (go_roundg (gk - 1)
                  case measure => omega
                  case rel => exact ⟨i + 1, by simp, by omega, by omega, rfl, Lib.hid (by simpa using HS3.out)⟩))
          · (go_wp2_with fail
             first
             | (go_ret
                exact ⟨ret_bool (by simpa using HS3.out), rfl⟩)
             | (go_roundg (gk - 1)
                case measure => omega
                case rel => exact ⟨i + 1, by simp, by omega, by omega, rfl, Lib.hid (by simpa using HS3.out)⟩))
        · cases b4
          · cases e46
            · cases e45
              · cases e95
                · cases e64
                  · (go_wp2_with fail
                     first
                     | (go_ret
                        exact ⟨ret_bool (by simpa using HS3.out), rfl⟩)
                     | (go_roundg (gk - 1)
                        case measure => omega
                        case rel => exact ⟨i + 1, by simp, by omega, by omega, rfl, Lib.hid (by simpa using HS3.out)⟩))
                  · (go_wp2_with fail
                     first
                     | (go_ret
                        exact ⟨ret_bool (by simpa using HS3.out), rfl⟩)
                     | (go_roundg (gk - 1)
                        case measure => omega
                        case rel => exact ⟨i + 1, by simp, by omega, by omega, rfl, Lib.hid (by simpa using HS3.out)⟩))
                · (go_wp2_with fail
                   first
                   | (go_ret
                      exact ⟨ret_bool (by simpa using HS3.out), rfl⟩)
                   | (go_roundg (gk - 1)
                      case measure => omega
                      case rel => exact ⟨i + 1, by simp, by omega, by omega, rfl, Lib.hid (by simpa using HS3.out)⟩))
              · (go_wp2_with fail
                 first
                 | (go_ret
                    exact ⟨ret_bool (by simpa using HS3.out), rfl⟩)
                 | (go_roundg (gk - 1)
                    case measure => omega
                    case rel => exact ⟨i + 1, by simp, by omega, by omega, rfl, Lib.hid (by simpa using HS3.out)⟩))
            · (go_wp2_with fail
               first
               | (go_ret
                  exact ⟨ret_bool (by simpa using HS3.out), rfl⟩)
               | (go_roundg (gk - 1)
                  case measure => omega
                  case rel => exact ⟨i + 1, by simp, by omega, by omega, rfl, Lib.hid (by simpa using HS3.out)⟩))
          · (go_wp2_with fail
             first
             | (go_ret
                exact ⟨ret_bool (by simpa using HS3.out), rfl⟩)
             | (go_roundg (gk - 1)
                case measure => omega
                case rel => exact ⟨i + 1, by simp, by omega, by omega, rfl, Lib.hid (by simpa using HS3.out)⟩))
      · cases b2
        · cases b3
          · cases e46
            · cases e45
              · cases e95
                · cases e64
                  · (go_wp2_with fail
                     first
                     | (go_ret
                        exact ⟨ret_bool (by simpa using HS3.out), rfl⟩)
                     | (go_roundg (gk - 1)
                        case measure => omega
                        case rel => exact ⟨i + 1, by simp, by omega, by omega, rfl, Lib.hid (by simpa using HS3.out)⟩))
                  · (go_wp2_with fail
                     first
                     | (go_ret
                        exact ⟨ret_bool (by simpa using HS3.out), rfl⟩)
                     | (go_roundg (gk - 1)
                        case measure => omega
                        case rel => exact ⟨i + 1, by simp, by omega, by omega, rfl, Lib.hid (by simpa using HS3.out)⟩))
                · (go_wp2_with fail
                   first
                   | (go_ret
                      exact ⟨ret_bool (by simpa using HS3.out), rfl⟩)
                   | (go_roundg (gk - 1)
                      case measure => omega
                      case rel => exact ⟨i + 1, by simp, by omega, by omega, rfl, Lib.hid (by simpa using HS3.out)⟩))
              · (go_wp2_with fail
                 first
                 | (go_ret
                    exact ⟨ret_bool (by simpa using HS3.out), rfl⟩)
                 | (go_roundg (gk - 1)
                    case measure => omega
                    case rel => exact ⟨i + 1, by simp, by omega, by omega, rfl, Lib.hid (by simpa using HS3.out)⟩))
            · (go_wp2_with fail
               first
               | (go_ret
                  exact ⟨ret_bool (by simpa using HS3.out), rfl⟩)
               | (go_roundg (gk - 1)
                  case measure => omega
                  case rel => exact ⟨i + 1, by simp, by omega, by omega, rfl, Lib.hid (by simpa using HS3.out)⟩))
          · cases b4
            · cases e46
              · cases e45
                · cases e95
                  · cases e64
                    · (go_wp2_with fail
                       first
                       | (go_ret
                          exact ⟨ret_bool (by simpa using HS3.out), rfl⟩)
                       | (go_roundg (gk - 1)
                          case measure => omega
                          case rel => exact ⟨i + 1, by simp, by omega, by omega, rfl, Lib.hid (by simpa using HS3.out)⟩))
                    · (go_wp2_with fail
                       first
                       | (go_ret
                          exact ⟨ret_bool (by simpa using HS3.out), rfl⟩)
                       | (go_roundg (gk - 1)
                          case measure => omega
                          case rel => exact ⟨i + 1, by simp, by omega, by omega, rfl, Lib.hid (by simpa using HS3.out)⟩))
                  · (go_wp2_with fail
                     first
                     | (go_ret
                        exact ⟨ret_bool (by simpa using HS3.out), rfl⟩)
                     | (go_roundg (gk - 1)
                        case measure => omega
                        case rel => exact ⟨i + 1, by simp, by omega, by omega, rfl, Lib.hid (by simpa using HS3.out)⟩))
                · (go_wp2_with fail
                   first
                   | (go_ret
                      exact ⟨ret_bool (by simpa using HS3.out), rfl⟩)
                   | (go_roundg (gk - 1)
                      case measure => omega
                      case rel => exact ⟨i + 1, by simp, by omega, by omega, rfl, Lib.hid (by simpa using HS3.out)⟩))
              · (go_wp2_with fail
                 first
                 | (go_ret
                    exact ⟨ret_bool (by simpa using HS3.out), rfl⟩)
                 | (go_roundg (gk - 1)
                    case measure => omega
                    case rel => exact ⟨i + 1, by simp, by omega, by omega, rfl, Lib.hid (by simpa using HS3.out)⟩))
            · (go_wp2_with fail
               first
               | (go_ret
                  exact ⟨ret_bool (by simpa using HS3.out), rfl⟩)
               | (go_roundg (gk - 1)
                  case measure => omega
                  case rel => exact ⟨i + 1, by simp, by omega, by omega, rfl, Lib.hid (by simpa using HS3.out)⟩))
        · (go_wp2_with fail
           first
           | (go_ret
              exact ⟨ret_bool (by simpa using HS3.out), rfl⟩)
           | (go_roundg (gk - 1)
              case measure => omega
              case rel => exact ⟨i + 1, by simp, by omega, by omega, rfl, Lib.hid (by simpa using HS3.out)⟩))
    · obtain rfl : i = s.length := by omega
      have hS := HS.out
      rw [List.drop_length] at hS
      have HS2 := Lib.hid hS
      clear hS HS
      go_wp2_with fail
      go_ret
      exact ⟨ret_bool (by simpa using HS2.out), rfl⟩
end Go.Proofs.YtcddlemkimbkcaaGreatDoor
