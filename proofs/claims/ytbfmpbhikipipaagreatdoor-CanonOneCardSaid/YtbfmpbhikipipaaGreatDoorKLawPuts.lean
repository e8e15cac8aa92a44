/-
  The walk of the law CanonPuts.
-/
import Derived.Test.YtbfmpbhikipipaaGreatDoorKRefPut
import Derived.Test.YtbfmpbhikipipaaGreatDoorKIsAll
import Derived.Test.YtbfmpbhikipipaaGreatDoorKHeavyAll
import Derived.Test.YtbfmpbhikipipaaGreatDoorKStableAll
namespace Go.Proofs.YtbfmpbhikipipaaGreatDoor
set_option linter.unusedVariables false
set_option linter.unusedSimpArgs false
set_option linter.unusedSectionVars false
open Go.RowKit
variable [OldK]

set_option maxRecDepth 100000 in
set_option maxHeartbeats 1000000 in
theorem puts_c (S : Nat → Prop) (j : J) (v : Value) (w : World) (h : RJ S w j v) (hi : ints j = true) (hg : Gl w) :
    Calls Tryz.prog 3 #[v] w fun e w' => e = .returned (.bool true) ∧ Fr NoB w w' := by
  obtain ⟨k, n, t, a, l, c, b, p, e, rfl⟩ := h.form
  have hx := heap_alloc_new w (.cells #[.int .i64 k, .int .i64 n, .string t, .slice a l c, .slice b p e] 25)
  have hF0 := (Fr.refl (M := NoB)).alloc (w := w) (.cells #[.int .i64 k, .int .i64 n, .string t, .slice a l c, .slice b p e] 25)
  obtain ⟨d0, d1, d2, d3, d4, dz, dlt⟩ := VB.at hx
  have hg0 := hg.alloc (.cells #[.int .i64 k, .int .i64 n, .string t, .slice a l c, .slice b p e] 25)
  have Hal := Lib.hid (alive_c 67108864 (by decide) sort_all _ hg0)
  have Hx := Lib.hid hx
  have HF0 := Lib.hid hF0
  have Hh := Lib.hid h
  have Hg0 := Lib.hid hg0
  cases hhv : pHeavy j with
  | true =>
    have Hhv := Lib.hid hhv
    clear hx hF0 h hhv hg0
    go_enter Tryz.func3, Tryz.ntmps3
    go_wp2_with fail
    refine Hal.out.mono ?_
    rintro e w1 ⟨rfl, hF1⟩
    obtain ⟨d0, d1, d2, d3, d4, dz, dlt⟩ := VB.at (hF1.block _ _ Hx.out (fun h => h))
    have HF1 := Lib.hid (HF0.out.trans' hF1)
    clear hF1
    go_wp2_with fail
    refine (heavy_c S _ _ _ (RJ.kp (Kp.ofFr HF1.out) _ _ Hh.out)).mono ?_
    rintro e w2 ⟨rfl, hF2⟩
    rw [Hhv.out]
    have HF2 := Lib.hid (HF1.out.trans' hF2)
    clear hF2
    go_wp2_with fail
    go_ret
    exact ⟨rfl, HF2.out⟩
  | false =>
    have hfit : fits 67108864 j = true := by
      have hhv2 := hhv
      unfold pHeavy at hhv2
      rw [Bool.or_eq_false_iff, decide_eq_false_iff_not] at hhv2
      exact fits_light j 200 (by decide) hi hhv2.2 (by omega)
    have hlen := text_light j hi hhv
    have Hhv := Lib.hid hhv
    have hpu := fun W hW hgW => put_c 67108864 sort_all S j (.agg #[.int .i64 k, .int .i64 n, .string t, .slice a l c, .slice b p e]) W hW hfit (few_of_fits j hfit) hgW (by omega)
    have hrp := fun W hW => refPut_c S j (.agg #[.int .i64 k, .int .i64 n, .string t, .slice a l c, .slice b p e]) W hW hfit (by omega)
    have hnu := fun W => num_c (pPut j).2 (by unfold pPut; split <;> (try split) <;> simp) W
    generalize hP : pPut j = P at *
    obtain ⟨X, q⟩ := P
    simp only at hpu hrp hnu
    have Hpu := Lib.hid hpu
    have Hrp := Lib.hid hrp
    have Hnu := Lib.hid hnu
    clear hx hF0 h hhv hg0 hpu hrp hnu hP hlen hfit
    generalize hE : errV q = E at *
    have HE := Lib.hid hE
    clear hE
    go_enter Tryz.func3, Tryz.ntmps3
    go_wp2_with fail
    refine Hal.out.mono ?_
    rintro e w1 ⟨rfl, hF1⟩
    have hb1 := hF1.block _ _ Hx.out (fun h => h)
    obtain ⟨d0, d1, d2, d3, d4, dz, dlt⟩ := VB.at hb1
    have Hb1 := Lib.hid hb1
    have HF1 := Lib.hid (HF0.out.trans' hF1)
    have Hg1 := Lib.hid (Hg0.out.fr hF1 (fun _ _ _ h => h.elim))
    clear hF1 hb1
    go_wp2_with fail
    refine (heavy_c S _ _ _ (RJ.kp (Kp.ofFr HF1.out) _ _ Hh.out)).mono ?_
    rintro e w2 ⟨rfl, hF2⟩
    rw [Hhv.out]
    have hb2 := hF2.block _ _ Hb1.out (fun h => h)
    clear d0 d1 d2 d3 d4 dz dlt
    obtain ⟨d0, d1, d2, d3, d4, dz, dlt⟩ := VB.at hb2
    have Hb2 := Lib.hid hb2
    have HF2 := Lib.hid (HF1.out.trans' hF2)
    have Hg2 := Lib.hid (Hg1.out.fr hF2 (fun _ _ _ h => h.elim))
    clear hF2 hb2
    go_wp2_with fail
    refine (Hpu.out _ (RJ.kp (Kp.ofFr HF2.out) _ _ Hh.out) Hg2.out).mono ?_
    rintro e w3 ⟨x, rfl, hsb, hF3⟩
    obtain ⟨xa, xc, rfl⟩ := hsb.form
    have hb3 := hF3.block _ _ Hb2.out (fun h => h)
    clear d0 d1 d2 d3 d4 dz dlt
    obtain ⟨d0, d1, d2, d3, d4, dz, dlt⟩ := VB.at hb3
    have Hsb := Lib.hid hsb
    have HF3 := Lib.hid (HF2.out.trans' hF3)
    clear hF3 hb3 hsb
    go_wp2_with fail
    refine (Hrp.out _ (RJ.kp (Kp.ofFr HF3.out) _ _ Hh.out)).mono ?_
    rintro e w4 ⟨y, rfl, hsb2, hF4⟩
    obtain ⟨ya, yc, rfl⟩ := hsb2.form
    have Hsb2 := Lib.hid hsb2
    have Hsb1 := Lib.hid (Hsb.out.fr hF4 (fun _ _ _ _ h => h))
    have HF4 := Lib.hid (HF3.out.trans' hF4)
    clear hF4 hsb2
    go_wp2_with fail
    refine (same_c _ _ _ _ _ _ _ Hsb1.out Hsb2.out).mono ?_
    rintro e w5 ⟨rfl, rfl⟩
    have hxx : (X == X) = true := by simp
    go_wp2_with fail
    refine (Hnu.out _).mono ?_
    rintro e w6 ⟨rfl, rfl⟩
    go_wp2_with fail
    go_ret
    exact ⟨by simp, HF4.out⟩
end Go.Proofs.YtbfmpbhikipipaaGreatDoor
