/-
  The walk of entry.named.
-/
import Derived.Test.YtcddlemkimbkcaaGreatDoorKRune
namespace Go.Proofs.YtcddlemkimbkcaaGreatDoor
set_option linter.unusedVariables false
set_option linter.unusedSimpArgs false
set_option linter.unusedSectionVars false
open Go.RowKit
variable [OldK]
def oddCh (n : Nat) : Bool := n == 46 || (n == 45 || (n == 95 || n == 64))
set_option maxRecDepth 100000 in
theorem odd_ix : ∀ n : Nat, n < 128 → decide (0 ≤ Lib.indexByte ([46, 45, 95, 64] : Bs) n.toUInt8) = oddCh n := by decide
theorem odd_c (n : Nat) (w : World) (hn : n ≤ 1114111) :
    Calls Tryz.prog 204 #[.string ⟨#[46, 45, 95, 64]⟩, .int .i32 n] w fun e w' => e = .returned (.bool (oddCh n)) ∧ Below w.heap.size w w' := by
  by_cases h : n < 128
  · refine (Tryz.strings_ContainsRune_ascii ⟨#[46, 45, 95, 64]⟩ (n : Int) w (by omega) (by omega)).mono ?_
    rintro e w' ⟨rfl, rfl⟩
    refine ⟨?_, Below.refl _ _⟩
    rw [← odd_ix n h, Int.toNat_natCast]
  · have : oddCh n = false := by unfold oddCh; simp; omega
    rw [this]
    exact crune_c n w (by omega) hn
theorem named1_c (n : Nat) (W : World) (hn : n ≤ 1114111) :
    Calls Tryz.prog 203 #[.int .i32 n] W fun e w' => e = .returned (.bool (!nameCh n)) ∧ Below W.heap.size W w' := by
  have hc := fun V => odd_c n V hn
  have hch : (!nameCh n) = ((decide ((n : Int) < 97) || decide ((122 : Int) < n)) && ((decide ((n : Int) < 48) || decide ((57 : Int) < n)) && !oddCh n)) := by
    unfold nameCh oddCh
    generalize (n == 46 || (n == 45 || (n == 95 || n == 64))) = C
    have a1 : decide ((n : Int) < 97) = !decide (97 ≤ n) := by by_cases h : 97 ≤ n <;> simp [h] <;> omega
    have a2 : decide ((122 : Int) < n) = !decide (n ≤ 122) := by by_cases h : n ≤ 122 <;> simp [h] <;> omega
    have a3 : decide ((n : Int) < 48) = !decide (48 ≤ n) := by by_cases h : 48 ≤ n <;> simp [h] <;> omega
    have a4 : decide ((57 : Int) < n) = !decide (n ≤ 57) := by by_cases h : n ≤ 57 <;> simp [h] <;> omega
    rw [a1, a2, a3, a4]
    cases decide (97 ≤ n) <;> cases decide (n ≤ 122) <;> cases decide (48 ≤ n) <;> cases decide (n ≤ 57) <;> cases C <;> rfl
  rw [hch]
  obtain ⟨b1, hb1⟩ : ∃ b1, decide ((n : Int) < 97) = b1 := ⟨_, rfl⟩
  obtain ⟨b2, hb2⟩ : ∃ b2, decide ((122 : Int) < n) = b2 := ⟨_, rfl⟩
  obtain ⟨b3, hb3⟩ : ∃ b3, decide ((n : Int) < 48) = b3 := ⟨_, rfl⟩
  obtain ⟨b4, hb4⟩ : ∃ b4, decide ((57 : Int) < n) = b4 := ⟨_, rfl⟩
  obtain ⟨C, hC⟩ : ∃ C, oddCh n = C := ⟨_, rfl⟩
  rw [hC] at hc ⊢
  rw [hb1, hb2, hb3, hb4]
  have Hc := Lib.hid hc
  clear hch hn hC hc
  cases b1 <;> cases b2 <;> cases b3 <;> cases b4
  all_goals
    go_enter Tryz.func203, Tryz.ntmps203
    go_wp2_with fail
    first
    | (go_ret; exact ⟨rfl, Below.refl _ _⟩)
    | (refine (Hc.out _).mono ?_
       rintro e w' ⟨rfl, hB⟩
       go_wp2_with fail
       go_ret
       exact ⟨rfl, hB⟩)
theorem any_odd_name (s : Bs) : s.any (fun c => !nameCh c.toNat) = !s.all (fun c => nameCh c.toNat) := by
  induction s with
  | nil => rfl
  | cons c s ih => simp [ih]
theorem named_c (s : Bs) (w : World) (hlen : s.length ≤ 1000000000000) :
    Calls Tryz.prog 160 #[.string ⟨s.toArray⟩] w fun e w' => e = .returned (.bool (pNamed s)) ∧ Fr NoB w w' := by
  have heg : ∀ args w, (callFunc 203 args).run Tryz.prog w = .ok (.enter 203 args) w := enters_of Tryz.func203 (by kernel_rfl) rfl
  have hcf := fun W : World => containsf_c 203 heg (fun n => !nameCh n) ⟨s.toArray⟩ W (fun W' x hx => named1_c x W' hx)
  rw [idx_odd (fun n => !nameCh n) (fun r hr => by simp [nameCh]; omega) s, any_odd_name s] at hcf
  obtain ⟨P, hP⟩ : ∃ P, pNamed s = P := ⟨_, rfl⟩
  rw [hP]
  unfold pNamed at hP
  obtain ⟨b3, hb3⟩ : ∃ b3, s.all (fun c => nameCh c.toNat) = b3 := ⟨_, rfl⟩
  rw [hb3] at hcf hP
  have Hcf := Lib.hid hcf
  have hsz := size_mk s
  clear hcf hb3 heg
  cases s with
  | nil =>
    obtain rfl : false = P := hP
    go_enter Tryz.func160, Tryz.ntmps160
    go_wp2_with fail
    go_ret
    exact ⟨rfl, Fr.refl⟩
  | cons c r =>
    have hne : (c :: r : Bs).isEmpty = false := rfl
    rw [List.isEmpty_cons] at hP
    obtain ⟨l, hl⟩ : ∃ l, (c :: r : Bs) = l := ⟨_, rfl⟩
    rw [hl] at hP Hcf hsz hne hlen ⊢
    clear hl
    by_cases h64 : l.length ≤ 64
    · have h64i : decide ((l.length : Int) ≤ 64) = true := by simp; omega
      have h64n : decide (l.length ≤ 64) = true := by simp; omega
      rw [h64n] at hP
      obtain rfl : b3 = P := by simpa using hP
      clear h64 hP
      go_enter Tryz.func160, Tryz.ntmps160
      go_wp2_with fail
      refine (Hcf.out _).mono ?_
      rintro e w1 ⟨rfl, hb⟩
      have HF := Lib.hid (Fr.ofBelow hb)
      clear hb
      go_wp2_with fail
      go_ret
      exact ⟨by simp, HF.out⟩
    · have h64i : decide ((l.length : Int) ≤ 64) = false := by simp; omega
      have h64n : decide (l.length ≤ 64) = false := by simp; omega
      rw [h64n] at hP
      obtain rfl : false = P := by simpa using hP
      clear h64 hP
      go_enter Tryz.func160, Tryz.ntmps160
      go_wp2_with fail
      go_ret
      exact ⟨rfl, Fr.refl⟩
end Go.Proofs.YtcddlemkimbkcaaGreatDoor
