/-
  The walks of the laws CanonBack and CanonOne.
-/
import Derived.Test.YtbfmpbhikipipaaGreatDoorKLawPuts
import Derived.Test.YtbfmpbhikipipaaGreatDoorKSame
namespace Go.Proofs.YtbfmpbhikipipaaGreatDoor
set_option linter.unusedVariables false
set_option linter.unusedSimpArgs false
set_option linter.unusedSectionVars false
open Go.RowKit
variable [OldK]

theorem light_facts {j : J} (hi : ints j = true) (h : pHeavy j = false) : fits 67108864 j = true ∧ (pText j).length ≤ 12020000 := by
  refine ⟨?_, text_light j hi h⟩
  unfold pHeavy at h
  rw [Bool.or_eq_false_iff, decide_eq_false_iff_not] at h
  exact fits_light j 200 (by decide) hi h.2 (by omega)
theorem put_ok {j : J} {X : Bs} (h : pPut j = (X, 0)) : pSound 0 j = true ∧ X = pText j ∧ X.length ≤ 4096 := by
  unfold pPut at h
  split at h
  · split at h
    · simp at h
    · simp only [Prod.mk.injEq, and_true] at h
      rename_i h1 h2
      exact ⟨h1, h.symm, by rw [← h]; omega⟩
  · simp at h
theorem put_bad {j : J} {X : Bs} {q : Nat} (h : pPut j = (X, q)) (hq : q ≠ 0) : X = [] := by
  unfold pPut at h
  split at h
  · split at h
    · simp at h; exact h.1
    · simp at h; omega
  · simp at h; exact h.1
theorem parse_put {j : J} (h : pSound 0 j = true) (hl : (pText j).length ≤ 4096) : pParse (pText j) = (pSorts 8 j, 0) := by
  unfold pParse
  rw [if_neg (by omega), parse_text h]
theorem put_sorts {j : J} (h : pSound 0 j = true) (hl : (pText j).length ≤ 4096) : pPut (pSorts 8 j) = (pText j, 0) := by
  unfold pPut
  rw [if_pos (sorts_sound 8 0 j h), text_sorts h, if_neg (by omega)]
theorem is_put {j : J} (h : pSound 0 j = true) (hl : (pText j).length ≤ 4096) : pIs (pText j) = true := by
  unfold pIs
  rw [parse_put h hl]
  simp only [if_true]
  rw [put_sorts h hl]
  simp
theorem equal_sorts {j : J} (h : pSound 0 j = true) : pEqual j (pSorts 8 j) = true := by
  unfold pEqual
  rw [h, sorts_sound 8 0 j h, same_sorts h]
  rfl
set_option maxRecDepth 100000 in
set_option maxHeartbeats 2000000 in
theorem back_c (S : Nat → Prop) (j : J) (v : Value) (w : World) (h : RJ S w j v) (hi : ints j = true) (hg : Gl w) :
    Calls Tryz.prog 5 #[v] w fun e w' => e = .returned (.bool true) ∧ Fr NoB w w' := by
  obtain ⟨k, n, t, a, l, c, b, p, e, rfl⟩ := h.form
  have hx := heap_alloc_new w (.cells #[.int .i64 k, .int .i64 n, .string t, .slice a l c, .slice b p e] 25)
  have hF0 := (Fr.refl (M := NoB)).alloc (w := w) (.cells #[.int .i64 k, .int .i64 n, .string t, .slice a l c, .slice b p e] 25)
  obtain ⟨d0, d1, d2, d3, d4, dz, dlt⟩ := VB.at hx
  have hg0 := hg.alloc (.cells #[.int .i64 k, .int .i64 n, .string t, .slice a l c, .slice b p e] 25)
  have Hal := Lib.hid (alive_c 67108864 (by decide) sort_all _ hg0)
  have Hx := Lib.hid hx
  have HF0 := Lib.hid hF0
  have Hh := Lib.hid h
  have Hg0 := Lib.hid hg0
  cases hhv : pHeavy j with
  | true =>
    have Hhv := Lib.hid hhv
    clear hx hF0 h hhv hg0
    go_enter Tryz.func5, Tryz.ntmps5
    go_wp2_with fail
    refine Hal.out.mono ?_
    rintro e w1 ⟨rfl, hF1⟩
    obtain ⟨d0, d1, d2, d3, d4, dz, dlt⟩ := VB.at (hF1.block _ _ Hx.out (fun h => h))
    have HF1 := Lib.hid (HF0.out.trans' hF1)
    clear hF1
    go_wp2_with fail
    refine (heavy_c S _ _ _ (RJ.kp (Kp.ofFr HF1.out) _ _ Hh.out)).mono ?_
    rintro e w2 ⟨rfl, hF2⟩
    rw [Hhv.out]
    have HF2 := Lib.hid (HF1.out.trans' hF2)
    clear hF2
    go_wp2_with fail
    go_ret
    exact ⟨rfl, HF2.out⟩
  | false =>
    obtain ⟨hfit, hlen⟩ := light_facts hi hhv
    have Hhv := Lib.hid hhv
    have hpu := fun W hW hgW => put_c 67108864 sort_all S j (.agg #[.int .i64 k, .int .i64 n, .string t, .slice a l c, .slice b p e]) W hW hfit (few_of_fits j hfit) hgW (by omega)
    obtain ⟨q, X, hP⟩ : ∃ q X, pPut j = (X, q) := ⟨_, _, rfl⟩
    rw [hP] at hpu
    simp only at hpu
    have HP := Lib.hid hP
    have Hpu := Lib.hid hpu
    have Hfit := Lib.hid hfit
    clear hx hF0 h hhv hg0 hpu hP hlen hfit
    by_cases hq : q = 0
    · subst hq
      obtain ⟨hso, hX, hXl⟩ := put_ok HP.out
      have hXl2 : (pText j).length ≤ 4096 := by rw [← hX]; exact hXl
      have hfs := fits_sorts 8 j Hfit.out
      have hpa := fun S' W v hW hgW => parse_c S' X v W hW hgW (by unfold maxLen; omega)
      rw [hX, parse_put hso hXl2] at hpa
      have heq := fun S' u' W hW hW' hgW => equal2_c S S' j (pSorts 8 j) (.agg #[.int .i64 k, .int .i64 n, .string t, .slice a l c, .slice b p e]) u' W hW hW' Hfit.out hfs hgW
      rw [equal_sorts hso] at heq
      have his := fun S' v W hW hgW => is_c 67108864 sort_all S' (pText j) v W hW hgW (by unfold maxLen; omega) (by rw [parse_put hso hXl2]; intro _; exact ⟨hfs, few_of_fits _ hfs, by show (pText (pSorts 8 j)).length + 16 ≤ _; rw [text_sorts hso]; omega⟩)
      rw [is_put hso hXl2] at his
      have hp2 := fun S' v W hW hgW => put_c 67108864 sort_all S' (pSorts 8 j) v W hW hfs (few_of_fits _ hfs) hgW (by rw [text_sorts hso]; omega)
      rw [put_sorts hso hXl2] at hp2
      rw [← hX] at hpa his hp2
      simp only [errV, if_true] at hpa hp2
      generalize pSorts 8 j = Q at *
      have Hpa := Lib.hid hpa
      have Heq := Lib.hid heq
      have His := Lib.hid his
      have Hp2 := Lib.hid hp2
      rw [show errV 0 = .nilIface from rfl] at Hpu
      clear hpa heq his hp2 hfs hso hX hXl2
      go_enter Tryz.func5, Tryz.ntmps5
      go_wp2_with fail
      refine Hal.out.mono ?_
      rintro e w1 ⟨rfl, hF1⟩
      have Hb1 := Lib.hid (hF1.block _ _ Hx.out (fun h => h))
      clear d0 d1 d2 d3 d4 dz dlt
      obtain ⟨d0, d1, d2, d3, d4, dz, dlt⟩ := VB.at Hb1.out
      have HF1 := Lib.hid (HF0.out.trans' hF1)
      have Hg1 := Lib.hid (Hg0.out.fr hF1 (fun _ _ _ h => h.elim))
      clear hF1
      go_wp2_with fail
      refine (heavy_c S _ _ _ (RJ.kp (Kp.ofFr HF1.out) _ _ Hh.out)).mono ?_
      rintro e w2 ⟨rfl, hF2⟩
      rw [Hhv.out]
      have Hb2 := Lib.hid (hF2.block _ _ Hb1.out (fun h => h))
      clear d0 d1 d2 d3 d4 dz dlt
      obtain ⟨d0, d1, d2, d3, d4, dz, dlt⟩ := VB.at Hb2.out
      have HF2 := Lib.hid (HF1.out.trans' hF2)
      have Hg2 := Lib.hid (Hg1.out.fr hF2 (fun _ _ _ h => h.elim))
      clear hF2
      go_wp2_with fail
      refine (Hpu.out _ (RJ.kp (Kp.ofFr HF2.out) _ _ Hh.out) Hg2.out).mono ?_
      rintro e w3 ⟨x, rfl, hsb, hF3⟩
      obtain ⟨xa, xc, rfl⟩ := hsb.form
      have Hb3 := Lib.hid (hF3.block _ _ Hb2.out (fun h => h))
      clear d0 d1 d2 d3 d4 dz dlt
      have Hsb := Lib.hid hsb
      have HF3 := Lib.hid (HF2.out.trans' hF3)
      have Hg3 := Lib.hid (Hg2.out.fr hF3 (fun _ _ _ h => h.elim))
      clear hF3 hsb
      go_wp2_with fail
      refine (Hpa.out _ _ _ Hsb.out Hg3.out).mono ?_
      rintro e w4 ⟨y, rfl, hy, hF4⟩
      obtain ⟨k2, n2, t2, a2, l2, c2, b2, p2, e2, rfl⟩ := hy.form
      have hF5 := (Fr.refl (M := NoB) (w := w4)).alloc (.cells #[.int .i64 k2, .int .i64 n2, .string t2, .slice a2 l2 c2, .slice b2 p2 e2] 25)
      have hb5 := heap_alloc_new w4 (.cells #[.int .i64 k2, .int .i64 n2, .string t2, .slice a2 l2 c2, .slice b2 p2 e2] 25)
      obtain ⟨m0, m1, m2, m3, m4, mz, mlt⟩ := VB.at hb5
      have Hb4 := Lib.hid (hF5.block _ _ (hF4.block _ _ Hb3.out (fun h => h)) (fun h => h))
      obtain ⟨d0, d1, d2, d3, d4, dz, dlt⟩ := VB.at Hb4.out
      have Hb5 := Lib.hid hb5
      have Hsb4 := Lib.hid (Hsb.out.fr (hF4.trans' hF5) (fun _ _ _ _ h => h))
      have Hy := Lib.hid (RJ.kp (Kp.ofFr hF5) _ _ hy)
      have HF4 := Lib.hid (HF3.out.trans' (hF4.trans' hF5))
      have Hg4 := Lib.hid (Hg3.out.fr (hF4.trans' hF5) (fun _ _ _ h => h.elim))
      clear hF4 hF5 hb5 hy
      go_wp2_with fail
      refine (Heq.out _ _ _ (RJ.kp (Kp.ofFr HF4.out) _ _ Hh.out) Hy.out Hg4.out).mono ?_
      rintro e w5 ⟨rfl, hF5⟩
      have Hb6 := Lib.hid (hF5.block _ _ Hb5.out (fun h => h))
      clear d0 d1 d2 d3 d4 dz dlt m0 m1 m2 m3 m4 mz mlt
      have Hsb5 := Lib.hid (Hsb4.out.fr hF5 (fun _ _ _ _ h => h))
      have Hy5 := Lib.hid (RJ.kp (Kp.ofFr hF5) _ _ Hy.out)
      have HF5 := Lib.hid (HF4.out.trans' hF5)
      have Hg5 := Lib.hid (Hg4.out.fr hF5 (fun _ _ _ h => h.elim))
      clear hF5
      go_wp2_with fail
      refine (His.out _ _ _ Hsb5.out Hg5.out).mono ?_
      rintro e w6 ⟨rfl, hF6⟩
      have Hb7 := Lib.hid (hF6.block _ _ Hb6.out (fun h => h))
      obtain ⟨m0, m1, m2, m3, m4, mz, mlt⟩ := VB.at Hb7.out
      have Hsb6 := Lib.hid (Hsb5.out.fr hF6 (fun _ _ _ _ h => h))
      have Hy6 := Lib.hid (RJ.kp (Kp.ofFr hF6) _ _ Hy5.out)
      have HF6 := Lib.hid (HF5.out.trans' hF6)
      have Hg6 := Lib.hid (Hg5.out.fr hF6 (fun _ _ _ h => h.elim))
      clear hF6
      go_wp2_with fail
      refine (Hp2.out _ _ _ Hy6.out Hg6.out).mono ?_
      rintro e w7 ⟨z, rfl, hsz, hF7⟩
      obtain ⟨za, zc, rfl⟩ := hsz.form
      have Hsz := Lib.hid hsz
      have Hsb7 := Lib.hid (Hsb6.out.fr hF7 (fun _ _ _ _ h => h))
      have HF7 := Lib.hid (HF6.out.trans' hF7)
      clear hF7 hsz
      go_wp2_with fail
      refine (same_c _ _ _ _ _ _ _ Hsb7.out Hsz.out).mono ?_
      rintro e w8 ⟨rfl, rfl⟩
      have hxx : (X == X) = true := by simp
      go_wp2_with fail
      go_ret
      exact ⟨by simp, HF7.out⟩
    · have hX := put_bad HP.out hq
      subst hX
      have he : errV q = .iface 50 (.int .i64 q) := by unfold errV; rw [if_neg hq]
      rw [he] at Hpu
      clear hq he HP
      go_enter Tryz.func5, Tryz.ntmps5
      go_wp2_with fail
      refine Hal.out.mono ?_
      rintro e w1 ⟨rfl, hF1⟩
      have Hb1 := Lib.hid (hF1.block _ _ Hx.out (fun h => h))
      clear d0 d1 d2 d3 d4 dz dlt
      obtain ⟨d0, d1, d2, d3, d4, dz, dlt⟩ := VB.at Hb1.out
      have HF1 := Lib.hid (HF0.out.trans' hF1)
      have Hg1 := Lib.hid (Hg0.out.fr hF1 (fun _ _ _ h => h.elim))
      clear hF1
      go_wp2_with fail
      refine (heavy_c S _ _ _ (RJ.kp (Kp.ofFr HF1.out) _ _ Hh.out)).mono ?_
      rintro e w2 ⟨rfl, hF2⟩
      rw [Hhv.out]
      have Hb2 := Lib.hid (hF2.block _ _ Hb1.out (fun h => h))
      clear d0 d1 d2 d3 d4 dz dlt
      obtain ⟨d0, d1, d2, d3, d4, dz, dlt⟩ := VB.at Hb2.out
      have HF2 := Lib.hid (HF1.out.trans' hF2)
      have Hg2 := Lib.hid (Hg1.out.fr hF2 (fun _ _ _ h => h.elim))
      clear hF2
      go_wp2_with fail
      refine (Hpu.out _ (RJ.kp (Kp.ofFr HF2.out) _ _ Hh.out) Hg2.out).mono ?_
      rintro e w3 ⟨x, rfl, hsb, hF3⟩
      obtain ⟨xa, xc, rfl⟩ := hsb.form
      have HF3 := Lib.hid (HF2.out.trans' hF3)
      clear hF3 hsb
      simp only [List.length_nil]
      go_wp2_with fail
      go_ret
      exact ⟨rfl, HF3.out⟩
set_option maxRecDepth 100000 in
set_option maxHeartbeats 2000000 in
theorem one_c (S S' : Nat → Prop) (j j' : J) (v v' : Value) (w : World) (h : RJ S w j v) (h' : RJ S' w j' v') (hi : ints j = true) (hi' : ints j' = true) (hg : Gl w) :
    Calls Tryz.prog 6 #[v, v'] w fun e w' => e = .returned (.bool true) ∧ Fr NoB w w' := by
  obtain ⟨k, n, t, a, l, c, b, p, e, rfl⟩ := h.form
  obtain ⟨k', n', t', a', l', c', b', p', e', rfl⟩ := h'.form
  obtain ⟨-, hx0, hx1, hF0⟩ := two_boxes w #[.int .i64 k, .int .i64 n, .string t, .slice a l c, .slice b p e] #[.int .i64 k', .int .i64 n', .string t', .slice a' l' c', .slice b' p' e']
  obtain ⟨d0, d1, d2, d3, d4, dz, dlt⟩ := VB.at hx0
  obtain ⟨f0, f1, f2, f3, f4, fz, flt⟩ := VB.at hx1
  have hg0 := hg.fr hF0 (fun _ _ _ h => h.elim)
  have Hal := Lib.hid (alive_c 67108864 (by decide) sort_all _ hg0)
  have HX00 := Lib.hid hx0
  have HX10 := Lib.hid hx1
  have HF0 := Lib.hid hF0
  have Hh := Lib.hid h
  have Hh' := Lib.hid h'
  have Hg0 := Lib.hid hg0
  clear hx0 hx1 hF0 h h' hg0
  cases hhv : pHeavy j with
  | true =>
    have Hhv := Lib.hid hhv
    clear hhv
    go_enter Tryz.func6, Tryz.ntmps6
    go_wp2_with fail
    refine Hal.out.mono ?_
    rintro e w1 ⟨rfl, hF1⟩
    have HX01 := Lib.hid (hF1.block _ _ HX00.out (fun h => h))
    have HX11 := Lib.hid (hF1.block _ _ HX10.out (fun h => h))
    clear d0 d1 d2 d3 d4 dz dlt f0 f1 f2 f3 f4 fz flt
    obtain ⟨d0, d1, d2, d3, d4, dz, dlt⟩ := VB.at HX01.out
    obtain ⟨f0, f1, f2, f3, f4, fz, flt⟩ := VB.at HX11.out
    have HF1 := Lib.hid (HF0.out.trans' hF1)
    have Hg1 := Lib.hid (Hg0.out.fr hF1 (fun _ _ _ h => h.elim))
    clear hF1
    go_wp2_with fail
    refine (heavy_c S _ _ _ (RJ.kp (Kp.ofFr HF1.out) _ _ Hh.out)).mono ?_
    rintro e w2 ⟨rfl, hF2⟩
    rw [Hhv.out]
    have HX02 := Lib.hid (hF2.block _ _ HX01.out (fun h => h))
    have HX12 := Lib.hid (hF2.block _ _ HX11.out (fun h => h))
    clear d0 d1 d2 d3 d4 dz dlt f0 f1 f2 f3 f4 fz flt
    obtain ⟨d0, d1, d2, d3, d4, dz, dlt⟩ := VB.at HX02.out
    obtain ⟨f0, f1, f2, f3, f4, fz, flt⟩ := VB.at HX12.out
    have HF2 := Lib.hid (HF1.out.trans' hF2)
    have Hg2 := Lib.hid (Hg1.out.fr hF2 (fun _ _ _ h => h.elim))
    clear hF2
    go_wp2_with fail
    go_ret
    exact ⟨rfl, HF2.out⟩
  | false =>
    have Hhv := Lib.hid hhv
    cases hhv' : pHeavy j' with
    | true =>
      have Hhv' := Lib.hid hhv'
      clear hhv hhv'
      go_enter Tryz.func6, Tryz.ntmps6
      go_wp2_with fail
      refine Hal.out.mono ?_
      rintro e w1 ⟨rfl, hF1⟩
      have HX01 := Lib.hid (hF1.block _ _ HX00.out (fun h => h))
      have HX11 := Lib.hid (hF1.block _ _ HX10.out (fun h => h))
      clear d0 d1 d2 d3 d4 dz dlt f0 f1 f2 f3 f4 fz flt
      obtain ⟨d0, d1, d2, d3, d4, dz, dlt⟩ := VB.at HX01.out
      obtain ⟨f0, f1, f2, f3, f4, fz, flt⟩ := VB.at HX11.out
      have HF1 := Lib.hid (HF0.out.trans' hF1)
      have Hg1 := Lib.hid (Hg0.out.fr hF1 (fun _ _ _ h => h.elim))
      clear hF1
      go_wp2_with fail
      refine (heavy_c S _ _ _ (RJ.kp (Kp.ofFr HF1.out) _ _ Hh.out)).mono ?_
      rintro e w2 ⟨rfl, hF2⟩
      rw [Hhv.out]
      have HX02 := Lib.hid (hF2.block _ _ HX01.out (fun h => h))
      have HX12 := Lib.hid (hF2.block _ _ HX11.out (fun h => h))
      clear d0 d1 d2 d3 d4 dz dlt f0 f1 f2 f3 f4 fz flt
      obtain ⟨d0, d1, d2, d3, d4, dz, dlt⟩ := VB.at HX02.out
      obtain ⟨f0, f1, f2, f3, f4, fz, flt⟩ := VB.at HX12.out
      have HF2 := Lib.hid (HF1.out.trans' hF2)
      have Hg2 := Lib.hid (Hg1.out.fr hF2 (fun _ _ _ h => h.elim))
      clear hF2
      go_wp2_with fail
      refine (heavy_c S' _ _ _ (RJ.kp (Kp.ofFr HF2.out) _ _ Hh'.out)).mono ?_
      rintro e w3 ⟨rfl, hF3⟩
      rw [Hhv'.out]
      have HX03 := Lib.hid (hF3.block _ _ HX02.out (fun h => h))
      have HX13 := Lib.hid (hF3.block _ _ HX12.out (fun h => h))
      clear d0 d1 d2 d3 d4 dz dlt f0 f1 f2 f3 f4 fz flt
      obtain ⟨d0, d1, d2, d3, d4, dz, dlt⟩ := VB.at HX03.out
      obtain ⟨f0, f1, f2, f3, f4, fz, flt⟩ := VB.at HX13.out
      have HF3 := Lib.hid (HF2.out.trans' hF3)
      have Hg3 := Lib.hid (Hg2.out.fr hF3 (fun _ _ _ h => h.elim))
      clear hF3
      go_wp2_with fail
      go_ret
      exact ⟨rfl, HF3.out⟩
    | false =>
      have Hhv' := Lib.hid hhv'
      obtain ⟨hfit, hlen⟩ := light_facts hi hhv
      obtain ⟨hfit', hlen'⟩ := light_facts hi' hhv'
      have hpu := fun W hW hgW => put_c 67108864 sort_all S j (.agg #[.int .i64 k, .int .i64 n, .string t, .slice a l c, .slice b p e]) W hW hfit (few_of_fits j hfit) hgW (by omega)
      have hpu' := fun W hW hgW => put_c 67108864 sort_all S' j' (.agg #[.int .i64 k', .int .i64 n', .string t', .slice a' l' c', .slice b' p' e']) W hW hfit' (few_of_fits j' hfit') hgW (by omega)
      have heq := fun W hW hW' hgW => equal2_c S S' j j' (.agg #[.int .i64 k, .int .i64 n, .string t, .slice a l c, .slice b p e]) (.agg #[.int .i64 k', .int .i64 n', .string t', .slice a' l' c', .slice b' p' e']) W hW hW' hfit hfit' hgW
      obtain ⟨q, X, hP⟩ : ∃ q X, pPut j = (X, q) := ⟨_, _, rfl⟩
      obtain ⟨q', X', hP'⟩ : ∃ q X, pPut j' = (X, q) := ⟨_, _, rfl⟩
      rw [hP] at hpu
      rw [hP'] at hpu'
      simp only at hpu hpu'
      have HP := Lib.hid hP
      have HP' := Lib.hid hP'
      have Hpu := Lib.hid hpu
      have Hpu' := Lib.hid hpu'
      have Heq := Lib.hid heq
      clear hhv hhv' hpu hpu' heq hP hP' hlen hlen' hfit hfit'
      have hcase : (q = 0 ∧ q' = 0) ∨ (q ≠ 0) ∨ (q = 0 ∧ q' ≠ 0) := by omega
      rcases hcase with ⟨rfl, rfl⟩ | hq | ⟨rfl, hq⟩
      · obtain ⟨hso, hX, hXl⟩ := put_ok HP.out
        obtain ⟨hso', hX', hXl'⟩ := put_ok HP'.out
        have hEB : pEqual j j' = (X == X') := by
          unfold pEqual
          rw [hso, hso', Bool.true_and, Bool.true_and, Bool.eq_iff_iff, text_iff hso hso', beq_iff_eq, hX, hX']
        rw [hEB] at Heq
        rw [show errV 0 = .nilIface from rfl] at Hpu Hpu'
        obtain ⟨B, hB⟩ : ∃ B, (X == X') = B := ⟨_, rfl⟩
        have hsm := fun T T' u u' W hu hu' => same_c T T' X X' u u' W hu hu'
        rw [hB] at Heq hsm
        have Hsm := Lib.hid hsm
        clear hso hso' hX hX' hXl hXl' hEB hB hsm
        go_enter Tryz.func6, Tryz.ntmps6
        go_wp2_with fail
        refine Hal.out.mono ?_
        rintro e w1 ⟨rfl, hF1⟩
        have HX01 := Lib.hid (hF1.block _ _ HX00.out (fun h => h))
        have HX11 := Lib.hid (hF1.block _ _ HX10.out (fun h => h))
        clear d0 d1 d2 d3 d4 dz dlt f0 f1 f2 f3 f4 fz flt
        obtain ⟨d0, d1, d2, d3, d4, dz, dlt⟩ := VB.at HX01.out
        obtain ⟨f0, f1, f2, f3, f4, fz, flt⟩ := VB.at HX11.out
        have HF1 := Lib.hid (HF0.out.trans' hF1)
        have Hg1 := Lib.hid (Hg0.out.fr hF1 (fun _ _ _ h => h.elim))
        clear hF1
        go_wp2_with fail
        refine (heavy_c S _ _ _ (RJ.kp (Kp.ofFr HF1.out) _ _ Hh.out)).mono ?_
        rintro e w2 ⟨rfl, hF2⟩
        rw [Hhv.out]
        have HX02 := Lib.hid (hF2.block _ _ HX01.out (fun h => h))
        have HX12 := Lib.hid (hF2.block _ _ HX11.out (fun h => h))
        clear d0 d1 d2 d3 d4 dz dlt f0 f1 f2 f3 f4 fz flt
        obtain ⟨d0, d1, d2, d3, d4, dz, dlt⟩ := VB.at HX02.out
        obtain ⟨f0, f1, f2, f3, f4, fz, flt⟩ := VB.at HX12.out
        have HF2 := Lib.hid (HF1.out.trans' hF2)
        have Hg2 := Lib.hid (Hg1.out.fr hF2 (fun _ _ _ h => h.elim))
        clear hF2
        go_wp2_with fail
        refine (heavy_c S' _ _ _ (RJ.kp (Kp.ofFr HF2.out) _ _ Hh'.out)).mono ?_
        rintro e w3 ⟨rfl, hF3⟩
        rw [Hhv'.out]
        have HX03 := Lib.hid (hF3.block _ _ HX02.out (fun h => h))
        have HX13 := Lib.hid (hF3.block _ _ HX12.out (fun h => h))
        clear d0 d1 d2 d3 d4 dz dlt f0 f1 f2 f3 f4 fz flt
        obtain ⟨d0, d1, d2, d3, d4, dz, dlt⟩ := VB.at HX03.out
        obtain ⟨f0, f1, f2, f3, f4, fz, flt⟩ := VB.at HX13.out
        have HF3 := Lib.hid (HF2.out.trans' hF3)
        have Hg3 := Lib.hid (Hg2.out.fr hF3 (fun _ _ _ h => h.elim))
        clear hF3
        go_wp2_with fail
        refine (Hpu.out _ (RJ.kp (Kp.ofFr HF3.out) _ _ Hh.out) Hg3.out).mono ?_
        rintro e w4 ⟨x, rfl, hsb, hF4⟩
        obtain ⟨xa, xc, rfl⟩ := hsb.form
        have HX04 := Lib.hid (hF4.block _ _ HX03.out (fun h => h))
        have HX14 := Lib.hid (hF4.block _ _ HX13.out (fun h => h))
        clear d0 d1 d2 d3 d4 dz dlt f0 f1 f2 f3 f4 fz flt
        obtain ⟨d0, d1, d2, d3, d4, dz, dlt⟩ := VB.at HX04.out
        obtain ⟨f0, f1, f2, f3, f4, fz, flt⟩ := VB.at HX14.out
        have HF4 := Lib.hid (HF3.out.trans' hF4)
        have Hg4 := Lib.hid (Hg3.out.fr hF4 (fun _ _ _ h => h.elim))
        have Hsb := Lib.hid hsb
        clear hF4 hsb
        go_wp2_with fail
        refine (Hpu'.out _ (RJ.kp (Kp.ofFr HF4.out) _ _ Hh'.out) Hg4.out).mono ?_
        rintro e w5 ⟨y, rfl, hsb', hF5⟩
        obtain ⟨ya, yc, rfl⟩ := hsb'.form
        have HX05 := Lib.hid (hF5.block _ _ HX04.out (fun h => h))
        have HX15 := Lib.hid (hF5.block _ _ HX14.out (fun h => h))
        clear d0 d1 d2 d3 d4 dz dlt f0 f1 f2 f3 f4 fz flt
        obtain ⟨d0, d1, d2, d3, d4, dz, dlt⟩ := VB.at HX05.out
        obtain ⟨f0, f1, f2, f3, f4, fz, flt⟩ := VB.at HX15.out
        have HF5 := Lib.hid (HF4.out.trans' hF5)
        have Hg5 := Lib.hid (Hg4.out.fr hF5 (fun _ _ _ h => h.elim))
        have Hsb' := Lib.hid hsb'
        have Hsb5 := Lib.hid (Hsb.out.fr hF5 (fun _ _ _ _ h => h))
        clear hF5 hsb'
        go_wp2_with fail
        refine (Heq.out _ (RJ.kp (Kp.ofFr HF5.out) _ _ Hh.out) (RJ.kp (Kp.ofFr HF5.out) _ _ Hh'.out) Hg5.out).mono ?_
        rintro e w6 ⟨rfl, hF6⟩
        have HF6 := Lib.hid (HF5.out.trans' hF6)
        have Hsb6 := Lib.hid (Hsb5.out.fr hF6 (fun _ _ _ _ h => h))
        have Hsb6' := Lib.hid (Hsb'.out.fr hF6 (fun _ _ _ _ h => h))
        clear hF6
        go_wp2_with fail
        refine (Hsm.out _ _ _ _ _ Hsb6.out Hsb6'.out).mono ?_
        rintro e w7 ⟨rfl, rfl⟩
        have hBB : (B == B) = true := by simp
        go_wp2_with fail
        go_ret
        exact ⟨by simp, HF6.out⟩
      · have hX := put_bad HP.out hq
        subst hX
        have he : errV q = .iface 50 (.int .i64 q) := by unfold errV; rw [if_neg hq]
        rw [he] at Hpu
        generalize errV q' = E at *
        clear hq he HP HP'
        go_enter Tryz.func6, Tryz.ntmps6
        go_wp2_with fail
        refine Hal.out.mono ?_
        rintro e w1 ⟨rfl, hF1⟩
        have HX01 := Lib.hid (hF1.block _ _ HX00.out (fun h => h))
        have HX11 := Lib.hid (hF1.block _ _ HX10.out (fun h => h))
        clear d0 d1 d2 d3 d4 dz dlt f0 f1 f2 f3 f4 fz flt
        obtain ⟨d0, d1, d2, d3, d4, dz, dlt⟩ := VB.at HX01.out
        obtain ⟨f0, f1, f2, f3, f4, fz, flt⟩ := VB.at HX11.out
        have HF1 := Lib.hid (HF0.out.trans' hF1)
        have Hg1 := Lib.hid (Hg0.out.fr hF1 (fun _ _ _ h => h.elim))
        clear hF1
        go_wp2_with fail
        refine (heavy_c S _ _ _ (RJ.kp (Kp.ofFr HF1.out) _ _ Hh.out)).mono ?_
        rintro e w2 ⟨rfl, hF2⟩
        rw [Hhv.out]
        have HX02 := Lib.hid (hF2.block _ _ HX01.out (fun h => h))
        have HX12 := Lib.hid (hF2.block _ _ HX11.out (fun h => h))
        clear d0 d1 d2 d3 d4 dz dlt f0 f1 f2 f3 f4 fz flt
        obtain ⟨d0, d1, d2, d3, d4, dz, dlt⟩ := VB.at HX02.out
        obtain ⟨f0, f1, f2, f3, f4, fz, flt⟩ := VB.at HX12.out
        have HF2 := Lib.hid (HF1.out.trans' hF2)
        have Hg2 := Lib.hid (Hg1.out.fr hF2 (fun _ _ _ h => h.elim))
        clear hF2
        go_wp2_with fail
        refine (heavy_c S' _ _ _ (RJ.kp (Kp.ofFr HF2.out) _ _ Hh'.out)).mono ?_
        rintro e w3 ⟨rfl, hF3⟩
        rw [Hhv'.out]
        have HX03 := Lib.hid (hF3.block _ _ HX02.out (fun h => h))
        have HX13 := Lib.hid (hF3.block _ _ HX12.out (fun h => h))
        clear d0 d1 d2 d3 d4 dz dlt f0 f1 f2 f3 f4 fz flt
        obtain ⟨d0, d1, d2, d3, d4, dz, dlt⟩ := VB.at HX03.out
        obtain ⟨f0, f1, f2, f3, f4, fz, flt⟩ := VB.at HX13.out
        have HF3 := Lib.hid (HF2.out.trans' hF3)
        have Hg3 := Lib.hid (Hg2.out.fr hF3 (fun _ _ _ h => h.elim))
        clear hF3
        go_wp2_with fail
        refine (Hpu.out _ (RJ.kp (Kp.ofFr HF3.out) _ _ Hh.out) Hg3.out).mono ?_
        rintro e w4 ⟨x, rfl, hsb, hF4⟩
        obtain ⟨xa, xc, rfl⟩ := hsb.form
        have HX04 := Lib.hid (hF4.block _ _ HX03.out (fun h => h))
        have HX14 := Lib.hid (hF4.block _ _ HX13.out (fun h => h))
        clear d0 d1 d2 d3 d4 dz dlt f0 f1 f2 f3 f4 fz flt
        obtain ⟨d0, d1, d2, d3, d4, dz, dlt⟩ := VB.at HX04.out
        obtain ⟨f0, f1, f2, f3, f4, fz, flt⟩ := VB.at HX14.out
        have HF4 := Lib.hid (HF3.out.trans' hF4)
        have Hg4 := Lib.hid (Hg3.out.fr hF4 (fun _ _ _ h => h.elim))
        have Hsb := Lib.hid hsb
        clear hF4 hsb
        go_wp2_with fail
        refine (Hpu'.out _ (RJ.kp (Kp.ofFr HF4.out) _ _ Hh'.out) Hg4.out).mono ?_
        rintro e w5 ⟨y, rfl, hsb', hF5⟩
        obtain ⟨ya, yc, rfl⟩ := hsb'.form
        have HX05 := Lib.hid (hF5.block _ _ HX04.out (fun h => h))
        have HX15 := Lib.hid (hF5.block _ _ HX14.out (fun h => h))
        clear d0 d1 d2 d3 d4 dz dlt f0 f1 f2 f3 f4 fz flt
        obtain ⟨d0, d1, d2, d3, d4, dz, dlt⟩ := VB.at HX05.out
        obtain ⟨f0, f1, f2, f3, f4, fz, flt⟩ := VB.at HX15.out
        have HF5 := Lib.hid (HF4.out.trans' hF5)
        have Hg5 := Lib.hid (Hg4.out.fr hF5 (fun _ _ _ h => h.elim))
        have Hsb' := Lib.hid hsb'
        have Hsb5 := Lib.hid (Hsb.out.fr hF5 (fun _ _ _ _ h => h))
        clear hF5 hsb'
        simp only [List.length_nil]
        go_wp2_with fail
        go_ret
        exact ⟨rfl, HF5.out⟩
      · have hX := put_bad HP'.out hq
        subst hX
        have he : errV q' = .iface 50 (.int .i64 q') := by unfold errV; rw [if_neg hq]
        rw [he] at Hpu'
        rw [show errV 0 = .nilIface from rfl] at Hpu
        have hl4 := (put_ok HP.out).2.2
        clear hq he HP HP'
        go_enter Tryz.func6, Tryz.ntmps6
        go_wp2_with fail
        refine Hal.out.mono ?_
        rintro e w1 ⟨rfl, hF1⟩
        have HX01 := Lib.hid (hF1.block _ _ HX00.out (fun h => h))
        have HX11 := Lib.hid (hF1.block _ _ HX10.out (fun h => h))
        clear d0 d1 d2 d3 d4 dz dlt f0 f1 f2 f3 f4 fz flt
        obtain ⟨d0, d1, d2, d3, d4, dz, dlt⟩ := VB.at HX01.out
        obtain ⟨f0, f1, f2, f3, f4, fz, flt⟩ := VB.at HX11.out
        have HF1 := Lib.hid (HF0.out.trans' hF1)
        have Hg1 := Lib.hid (Hg0.out.fr hF1 (fun _ _ _ h => h.elim))
        clear hF1
        go_wp2_with fail
        refine (heavy_c S _ _ _ (RJ.kp (Kp.ofFr HF1.out) _ _ Hh.out)).mono ?_
        rintro e w2 ⟨rfl, hF2⟩
        rw [Hhv.out]
        have HX02 := Lib.hid (hF2.block _ _ HX01.out (fun h => h))
        have HX12 := Lib.hid (hF2.block _ _ HX11.out (fun h => h))
        clear d0 d1 d2 d3 d4 dz dlt f0 f1 f2 f3 f4 fz flt
        obtain ⟨d0, d1, d2, d3, d4, dz, dlt⟩ := VB.at HX02.out
        obtain ⟨f0, f1, f2, f3, f4, fz, flt⟩ := VB.at HX12.out
        have HF2 := Lib.hid (HF1.out.trans' hF2)
        have Hg2 := Lib.hid (Hg1.out.fr hF2 (fun _ _ _ h => h.elim))
        clear hF2
        go_wp2_with fail
        refine (heavy_c S' _ _ _ (RJ.kp (Kp.ofFr HF2.out) _ _ Hh'.out)).mono ?_
        rintro e w3 ⟨rfl, hF3⟩
        rw [Hhv'.out]
        have HX03 := Lib.hid (hF3.block _ _ HX02.out (fun h => h))
        have HX13 := Lib.hid (hF3.block _ _ HX12.out (fun h => h))
        clear d0 d1 d2 d3 d4 dz dlt f0 f1 f2 f3 f4 fz flt
        obtain ⟨d0, d1, d2, d3, d4, dz, dlt⟩ := VB.at HX03.out
        obtain ⟨f0, f1, f2, f3, f4, fz, flt⟩ := VB.at HX13.out
        have HF3 := Lib.hid (HF2.out.trans' hF3)
        have Hg3 := Lib.hid (Hg2.out.fr hF3 (fun _ _ _ h => h.elim))
        clear hF3
        go_wp2_with fail
        refine (Hpu.out _ (RJ.kp (Kp.ofFr HF3.out) _ _ Hh.out) Hg3.out).mono ?_
        rintro e w4 ⟨x, rfl, hsb, hF4⟩
        obtain ⟨xa, xc, rfl⟩ := hsb.form
        have HX04 := Lib.hid (hF4.block _ _ HX03.out (fun h => h))
        have HX14 := Lib.hid (hF4.block _ _ HX13.out (fun h => h))
        clear d0 d1 d2 d3 d4 dz dlt f0 f1 f2 f3 f4 fz flt
        obtain ⟨d0, d1, d2, d3, d4, dz, dlt⟩ := VB.at HX04.out
        obtain ⟨f0, f1, f2, f3, f4, fz, flt⟩ := VB.at HX14.out
        have HF4 := Lib.hid (HF3.out.trans' hF4)
        have Hg4 := Lib.hid (Hg3.out.fr hF4 (fun _ _ _ h => h.elim))
        have Hsb := Lib.hid hsb
        clear hF4 hsb
        go_wp2_with fail
        refine (Hpu'.out _ (RJ.kp (Kp.ofFr HF4.out) _ _ Hh'.out) Hg4.out).mono ?_
        rintro e w5 ⟨y, rfl, hsb', hF5⟩
        obtain ⟨ya, yc, rfl⟩ := hsb'.form
        have HX05 := Lib.hid (hF5.block _ _ HX04.out (fun h => h))
        have HX15 := Lib.hid (hF5.block _ _ HX14.out (fun h => h))
        clear d0 d1 d2 d3 d4 dz dlt f0 f1 f2 f3 f4 fz flt
        obtain ⟨d0, d1, d2, d3, d4, dz, dlt⟩ := VB.at HX05.out
        obtain ⟨f0, f1, f2, f3, f4, fz, flt⟩ := VB.at HX15.out
        have HF5 := Lib.hid (HF4.out.trans' hF5)
        have Hg5 := Lib.hid (Hg4.out.fr hF5 (fun _ _ _ h => h.elim))
        have Hsb' := Lib.hid hsb'
        have Hsb5 := Lib.hid (Hsb.out.fr hF5 (fun _ _ _ _ h => h))
        clear hF5 hsb'
        simp only [List.length_nil]
        go_wp2_with fail
        all_goals
          go_ret
          exact ⟨by simp, HF5.out⟩
end Go.Proofs.YtbfmpbhikipipaaGreatDoor
