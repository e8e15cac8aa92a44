/-
  The walk of entry.typed.
-/
import Derived.Test.YtcddlemkimbkcaaGreatDoorKSum
import Derived.Test.YtcddlemkimbkcaaGreatDoorKSpecEntry
namespace Go.Proofs.YtcddlemkimbkcaaGreatDoor
set_option linter.unusedVariables false
set_option linter.unusedSimpArgs false
set_option linter.unusedSectionVars false
open Go.RowKit
variable [OldK]
theorem typed1_c (n : Nat) (W : World) (hn : n ≤ 1114111) :
    Calls Tryz.prog 182 #[.int .i32 n] W fun e w' => e = .returned (.bool (!typCh n)) ∧ ∃ q, w' = W.drewN q := by
  have hch : (!typCh n) = (decide ((n : Int) < 33) || decide ((126 : Int) < n)) := by
    unfold typCh
    by_cases h1 : n < 33 <;> by_cases h2 : 126 < n
    all_goals (first | (have e1 : ((n : Int) < 33) := by omega) | (have e1 : ¬ ((n : Int) < 33) := by omega))
    all_goals (first | (have e2 : ((126 : Int) < n) := by omega) | (have e2 : ¬ ((126 : Int) < n) := by omega))
    all_goals simp [e1, e2]
    all_goals omega
  rw [hch]
  obtain ⟨b1, hb1⟩ : ∃ b1, decide ((n : Int) < 33) = b1 := ⟨_, rfl⟩
  obtain ⟨b2, hb2⟩ : ∃ b2, decide ((126 : Int) < n) = b2 := ⟨_, rfl⟩
  rw [hb1, hb2]
  clear hch
  cases b1 <;> cases b2
  all_goals
    go_enter Tryz.func182, Tryz.ntmps182
    go_wp2_with fail
    go_ret
    exact ⟨rfl, 0, rfl⟩
theorem any_odd_typ (s : Bs) : s.any (fun c => !typCh c.toNat) = !s.all (fun c => typCh c.toNat) := by
  induction s with
  | nil => rfl
  | cons c s ih => simp [ih]
theorem size_mk (s : Bs) : (ByteArray.mk s.toArray).size = s.length := rfl
theorem typed_c (s : Bs) (w : World) (hlen : s.length ≤ 1000000000000) :
    Calls Tryz.prog 142 #[.string ⟨s.toArray⟩] w fun e w' => e = .returned (.bool (pTyped s)) ∧ Fr NoB w w' := by
  have heg : ∀ args w, (callFunc 182 args).run Tryz.prog w = .ok (.enter 182 args) w := enters_of Tryz.func182 (by kernel_rfl) rfl
  have hcf := fun W : World => Tryz.strings_ContainsFunc_runes 182 #[] heg (fun n => !typCh n) ⟨s.toArray⟩ W (fun W' x hx _ => by
    have := typed1_c x W' hx
    exact this)
  have hpf := fun W : World => Tryz.strings_HasPrefix ⟨s.toArray⟩ ⟨sReserved.toArray⟩ W
  rw [idx_odd (fun n => !typCh n) (fun r hr => by simp [typCh]; omega) s, any_odd_typ s] at hcf
  obtain ⟨P, hP⟩ : ∃ P, pTyped s = P := ⟨_, rfl⟩
  rw [hP]
  unfold pTyped at hP
  obtain ⟨b3, hb3⟩ : ∃ b3, s.all (fun c => typCh c.toNat) = b3 := ⟨_, rfl⟩
  obtain ⟨b4, hb4⟩ : ∃ b4, Lib.hasPrefix s sReserved = b4 := ⟨_, rfl⟩
  rw [hb3] at hcf hP
  rw [hb4] at hP
  have hpf' : ∀ W, Calls Tryz.prog 184 #[.string ⟨s.toArray⟩, .string ⟨sReserved.toArray⟩] W fun e w' => e = .returned (.bool b4) ∧ w' = W := fun W => by
    have := hpf W
    rw [show (ByteArray.mk s.toArray).data.toList = s from by simp, show (ByteArray.mk sReserved.toArray).data.toList = sReserved from by simp, hb4] at this
    exact this
  have Hcf := Lib.hid hcf
  have Hpf := Lib.hid hpf'
  have hsz := size_mk s
  clear hcf hpf hpf' hb3 hb4 heg
  cases s with
  | nil =>
    obtain rfl : false = P := hP
    go_enter Tryz.func142, Tryz.ntmps142
    go_wp2_with fail
    go_ret
    exact ⟨rfl, Fr.refl⟩
  | cons c r =>
    have hne : (c :: r : Bs).isEmpty = false := rfl
    rw [List.isEmpty_cons] at hP
    obtain ⟨l, hl⟩ : ∃ l, (c :: r : Bs) = l := ⟨_, rfl⟩
    rw [hl] at hP Hcf Hpf hsz hne hlen ⊢
    clear hl
    by_cases h64 : l.length ≤ 64
    · have h64i : decide ((l.length : Int) ≤ 64) = true := by simp; omega
      have h64n : decide (l.length ≤ 64) = true := by simp; omega
      rw [h64n] at hP
      clear h64
      cases b3 with
      | false =>
        obtain rfl : false = P := by simpa using hP
        clear hP
        go_enter Tryz.func142, Tryz.ntmps142
        go_wp2_with fail
        refine (Hcf.out _).mono ?_
        rintro e w1 ⟨rfl, hb⟩
        have HF := Lib.hid (Fr.ofBelow hb)
        clear hb
        go_wp2_with fail
        go_ret
        exact ⟨rfl, HF.out⟩
      | true =>
        obtain rfl : (!b4) = P := by simpa using hP
        clear hP
        go_enter Tryz.func142, Tryz.ntmps142
        go_wp2_with fail
        refine (Hcf.out _).mono ?_
        rintro e w1 ⟨rfl, hb⟩
        have HF := Lib.hid (Fr.ofBelow hb)
        clear hb
        go_wp2_with fail
        refine (Hpf.out _).mono ?_
        rintro e w2 ⟨rfl, rfl⟩
        go_wp2_with fail
        go_ret
        exact ⟨rfl, HF.out⟩
    · have h64i : decide ((l.length : Int) ≤ 64) = false := by simp; omega
      have h64n : decide (l.length ≤ 64) = false := by simp; omega
      rw [h64n] at hP
      obtain rfl : false = P := by simpa using hP
      clear h64 hP
      go_enter Tryz.func142, Tryz.ntmps142
      go_wp2_with fail
      go_ret
      exact ⟨rfl, Fr.refl⟩
end Go.Proofs.YtcddlemkimbkcaaGreatDoor
