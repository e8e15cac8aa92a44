/-
  The walks of canon: what stands for a byte; a text quoted.
-/
import Derived.Test.YtbfmpbhikipipaaGreatDoorKSpecWrite
import Derived.Test.YtbfmpbhikipipaaGreatDoorKBuilder
import Derived.Test.YtbfmpbhikipipaaGreatDoorKReader10
import Derived.Deep.QuietTactic
import Derived.Deep.LoopGhost
namespace Go.Proofs.YtbfmpbhikipipaaGreatDoor
set_option linter.unusedVariables false
set_option linter.unusedSimpArgs false
set_option linter.unusedSectionVars false
open Go.RowKit

set_option maxRecDepth 100000 in
set_option maxHeartbeats 1000000 in
theorem escaped_c (c : UInt8) (w : World) :
    Calls Tryz.prog 55 #[.int .u8 c.toNat] w fun e w' => e = .returned (.string ⟨(pEsc c).toArray⟩) ∧ ∃ q, w' = w.drewN q := by
  by_cases h : c.toNat < 32 ∨ c.toNat = 34 ∨ c.toNat = 92
  · have hc : c = UInt8.ofNat c.toNat := by simp
    have hn : c.toNat < 93 := by omega
    generalize c.toNat = n at *
    subst hc
    have h1 : n = 34 ∨ n = 92 ∨ n = 0 ∨ n = 1 ∨ n = 2 ∨ n = 3 ∨ n = 4 ∨ n = 5 ∨ n = 6 ∨ n = 7 ∨ n = 8 ∨ n = 9 ∨ n = 10 ∨ n = 11 ∨ n = 12 ∨ n = 13 ∨ n = 14 ∨ n = 15 ∨ n = 16 ∨ n = 17 ∨ n = 18 ∨ n = 19 ∨ n = 20 ∨ n = 21 ∨ n = 22 ∨ n = 23 ∨ n = 24 ∨ n = 25 ∨ n = 26 ∨ n = 27 ∨ n = 28 ∨ n = 29 ∨ n = 30 ∨ n = 31 := by omega
    clear h hn
    rcases h1 with rfl | rfl | rfl | rfl | rfl | rfl | rfl | rfl | rfl | rfl | rfl | rfl | rfl | rfl | rfl | rfl | rfl | rfl | rfl | rfl | rfl | rfl | rfl | rfl | rfl | rfl | rfl | rfl | rfl | rfl | rfl | rfl | rfl | rfl
    all_goals
      go_enter Tryz.func55, Tryz.ntmps55
      go_wp2_with fail
      all_goals first
        | (go_ret
           exact ⟨by kernel_rfl, 0, (World.drewN_zero _).symm⟩)
        | (go_quiet (fail)
           go_wp2_with fail
           go_ret
           exact ⟨by kernel_rfl, _, rfl⟩)
  · have hlt : decide ((c.toNat : Int) < 32) = false := by rw [decide_eq_false_iff_not]; omega
    have g1 : ∀ n : Nat, n < 32 ∨ n = 34 ∨ n = 92 → ((c.toNat : Int) == (n : Int)) = false := fun n hn => by
      rw [Bool.eq_false_iff]; intro e; rw [beq_iff_eq] at e; omega
    have e1 : ((c.toNat : Int) == 34) = false := g1 34 (by omega)
    have e2 : ((c.toNat : Int) == 92) = false := g1 92 (by omega)
    have e3 : ((c.toNat : Int) == 8) = false := g1 8 (by omega)
    have e4 : ((c.toNat : Int) == 9) = false := g1 9 (by omega)
    have e5 : ((c.toNat : Int) == 10) = false := g1 10 (by omega)
    have e6 : ((c.toNat : Int) == 12) = false := g1 12 (by omega)
    have e7 : ((c.toNat : Int) == 13) = false := g1 13 (by omega)
    have hne : ∀ n : Nat, n < 32 ∨ n = 34 ∨ n = 92 → ¬ c = UInt8.ofNat n := fun n hn e => by
      rw [e] at h; simp at h; omega
    have hp : pEsc c = [] := by
      unfold pEsc
      rw [if_neg (show ¬ c = 34 from hne 34 (by omega)), if_neg (show ¬ c = 92 from hne 92 (by omega)), if_neg (show ¬ c = 8 from hne 8 (by omega)), if_neg (show ¬ c = 9 from hne 9 (by omega)), if_neg (show ¬ c = 10 from hne 10 (by omega)), if_neg (show ¬ c = 12 from hne 12 (by omega)), if_neg (show ¬ c = 13 from hne 13 (by omega)), if_neg (by omega)]
    rw [hp]
    clear hp hne g1 h
    go_enter Tryz.func55, Tryz.ntmps55
    go_wp2_with fail
    go_ret
    exact ⟨rfl, 0, (World.drewN_zero _).symm⟩

/-- pushed byte by byte -/
theorem drewN_fr (w : World) (q : Nat) : Fr NoB w (w.drewN q) := by
  refine ⟨rfl, rfl, rfl, Nat.le_refl _, fun k o h _ => h⟩
theorem mb_fresh {B b : Nat} {w w1 w2 : World} (h : Fr NoB w w1) (hF : Fr (MB B b) w1 w2) (hB : w.heap.size ≤ B) : Fr NoB w w2 :=
  h.trans hF (fun k _ hm => .inr (Nat.le_trans hB hm.1))
theorem esc_len (c : UInt8) : (pEsc c).length ≤ 6 := by
  unfold pEsc
  repeat' split
  all_goals simp

set_option maxRecDepth 100000 in
set_option maxHeartbeats 1000000 in
theorem quote_c (s : Bs) (w : World) (hlen : s.length ≤ 67108864) :
    Calls Tryz.prog 37 #[.string ⟨s.toArray⟩] w fun e w' => e = .returned (.string ⟨(pQuote s).toArray⟩) ∧ Fr NoB w w' := by
  generalize hG : pQuote s = G
  have hB0 := Bld.fresh w
  have hsz : (ByteArray.mk s.toArray).size = s.length := rfl
  have HG : Hid ([34] ++ pEscs (s.drop 0) ++ [34] = G) := hG
  clear hG
  go_enter Tryz.func37, Tryz.ntmps37
  go_wp2_with fail
  refine (writeByte_c _ _ [] 34 _ hB0 (by decide)).mono ?_
  rintro e w1 ⟨rfl, hB1, hF1⟩
  have hFw1 := mb_fresh ((Fr.refl (M := NoB)).alloc (w := w) (.cells #[.pointer none, .slice none 0 0] 46)) hF1 (Nat.le_refl _)
  go_wp2_with fail
  go_loopg [9] (s.length + 1) (fun g vi wr => ∃ (i : Nat) (out : Bs), vi = .int .i64 i ∧ i ≤ s.length ∧ i + g = s.length + 1 ∧ out.length ≤ 1 + 6 * i ∧ Bld w.heap.size w.heap.size out wr ∧ Fr NoB w wr ∧ Hid (out ++ pEscs (s.drop i) ++ [34] = G))
  case atStart => exact ⟨0, _, rfl, by omega, by omega, by simp, hB1, hFw1, HG⟩
  case round =>
    obtain ⟨i, out, rfl, hi, hgk, hol, hB, hF, hS⟩ := hrel
    rcases Nat.lt_or_ge i s.length with hlt | hge
    · obtain ⟨c, hc⟩ : ∃ c, s[i]? = some c := ⟨_, List.getElem?_eq_getElem hlt⟩
      have hcb : ∀ h, (ByteArray.mk s.toArray)[i]'h = c := by
        intro h
        obtain ⟨h1, h2⟩ := List.getElem?_eq_some_iff.1 hc
        exact h2
      have hS2 := hS.out
      have hd : s.drop i = c :: s.drop (i + 1) := by
        obtain ⟨hi', he⟩ := List.getElem?_eq_some_iff.1 hc
        rw [← he]
        exact List.drop_eq_getElem_cons hi'
      rw [hd, pEscs] at hS2
      have hel := esc_len c
      have hesc := fun W => escaped_c c W
      generalize pEsc c = E at *
      cases E with
      | nil =>
        rw [if_pos rfl] at hS2
        have HS2 := Lib.hid hS2
        clear hS2 hS hd
        go_wp2_with fail
        try simp only [hcb]
        refine (hesc wr).mono ?_
        rintro e w2 ⟨rfl, q, rfl⟩
        have hB2 := hB.fr (drewN_fr wr q) (fun _ _ _ _ _ h => h)
        have hF2 := hF.trans' (drewN_fr wr q)
        go_wp2_with fail
        try simp only [hcb]
        refine (writeByte_c _ _ out c _ hB2 (by omega)).mono ?_
        rintro e w3 ⟨rfl, hB3, hF3⟩
        have hF4 := mb_fresh hF2 hF3 (Nat.le_refl _)
        go_wp2_with fail
        go_roundg (gk - 1)
        case measure => omega
        case rel => exact ⟨i + 1, out ++ [c], by simp, by omega, by omega, by simp; omega, hB3, hF4, by have := HS2.out; simpa using Lib.hid this⟩
      | cons x E =>
        rw [if_neg (by simp)] at hS2
        have HS2 := Lib.hid hS2
        clear hS2 hS hd
        go_wp2_with fail
        try simp only [hcb]
        refine (hesc wr).mono ?_
        rintro e w2 ⟨rfl, q, rfl⟩
        have hB2 := hB.fr (drewN_fr wr q) (fun _ _ _ _ _ h => h)
        have hF2 := hF.trans' (drewN_fr wr q)
        go_wp2_with fail
        refine (writeString_c _ _ out (x :: E) _ hB2 (by omega)).mono ?_
        rintro e w3 ⟨rfl, hB3, hF3⟩
        have hF4 := mb_fresh hF2 hF3 (Nat.le_refl _)
        go_wp2_with fail
        go_roundg (gk - 1)
        case measure => omega
        case rel => exact ⟨i + 1, out ++ x :: E, by simp, by omega, by omega, by simp at hel ⊢; omega, hB3, hF4, by have := HS2.out; simpa using Lib.hid this⟩
    · obtain rfl : i = s.length := by omega
      have hR := hS.out
      rw [List.drop_length] at hR
      have HR := Lib.hid hR
      clear hS hR
      go_wp2_with fail
      refine (writeByte_c _ _ out 34 _ hB (by omega)).mono ?_
      rintro e w3 ⟨rfl, hB3, hF3⟩
      have hF4 := mb_fresh hF hF3 (Nat.le_refl _)
      go_wp2_with fail
      refine (string_c _ _ _ _ hB3).mono ?_
      rintro e w4 ⟨rfl, hF5⟩
      have hF6 := mb_fresh hF4 hF5 (Nat.le_refl _)
      go_wp2_with fail
      go_ret
      have h : out ++ pEscs [] ++ [34] = G := HR.out
      simp only [pEscs, List.append_nil] at h
      rw [h]
      exact ⟨rfl, hF6⟩
end Go.Proofs.YtbfmpbhikipipaaGreatDoor
