/-
  The walk of the reference's Valid.
-/
import Derived.Test.YtbfmpbhikipipaaGreatDoorKUtfRef
namespace Go.Proofs.YtbfmpbhikipipaaGreatDoor
set_option linter.unusedVariables false
set_option linter.unusedSimpArgs false
set_option linter.unusedSectionVars false
open Go.RowKit
variable [OldK]

/-- the bytes behind the first ones -/
theorem SB.drop {S : Nat → Prop} {l : Bs} {g o cap : Nat} {n : Nat} {w : World} (h : SB S l (.slice (some ⟨g, o, none⟩) n cap) w) (k : Nat) (hk : k ≤ l.length) :
    SB S (l.drop k) (.slice (some ⟨g, o + k, none⟩) (l.length - k) (cap - k)) w := by
  obtain ⟨a, cap', hv, hcp, ⟨rfl, rfl⟩ | ⟨b, o', cs, T, f, rfl, h2, h3, h4⟩⟩ := h
  · simp at hv
  · obtain ⟨⟨rfl, rfl⟩, rfl, rfl⟩ : (g = b ∧ o = o') ∧ n = l.length ∧ cap = cap' := by simpa using hv
    refine ⟨_, cap - k, by rw [List.length_drop], by rw [List.length_drop]; omega, .inr ⟨g, o + k, cs, T, f, rfl, h2, h3, fun j hj => ?_⟩⟩
    rw [List.length_drop] at hj
    rw [Nat.add_assoc, h4 (k + j) (by omega), List.getElem_drop]
/-- nothing is left -/
theorem SB.none' {S : Nat → Prop} {l : Bs} {g o cap : Nat} {n : Nat} {w : World} (h : SB S l (.slice (some ⟨g, o, none⟩) n cap) w) (c : Nat) : SB S [] (.slice (some ⟨g, o, none⟩) 0 c) w := by
  obtain ⟨a, cap', hv, hcp, ⟨rfl, rfl⟩ | ⟨b, o', cs, T, f, rfl, h2, h3, h4⟩⟩ := h
  · simp at hv
  · obtain ⟨⟨rfl, rfl⟩, rfl, rfl⟩ : (g = b ∧ o = o') ∧ n = l.length ∧ cap = cap' := by simpa using hv
    exact ⟨_, c, rfl, Nat.zero_le _, .inr ⟨g, o, cs, T, f, rfl, h2, h3, fun j hj => absurd hj (Nat.not_lt_zero _)⟩⟩
set_option maxRecDepth 100000 in
set_option maxHeartbeats 2000000 in
theorem refValid_c (s : Bs) (w : World) (hlen : s.length ≤ 67108864) :
    Calls Tryz.prog 41 #[.string ⟨s.toArray⟩] w fun e w' => e = .returned (.bool (Lib.validD s)) ∧ Fr NoB w w' := by
  have hres : Lib.validD s = rValid s.length s := by
    rw [Bool.eq_iff_iff, valid_vl, rValid_vl _ _ (Nat.le_refl _)]
  rw [hres]
  generalize hR : rValid s.length s = R
  obtain ⟨v0, w0, hrun, hsb, hF0⟩ := SB.made s w
  obtain ⟨a0, c0, rfl⟩ := hsb.form
  have HR := Lib.hid hR
  have HS := Lib.hid hsb
  have HF0 := Lib.hid hF0
  clear hR hsb hF0 hres
  go_enter Tryz.func41, Tryz.ntmps41
  go_wp2_with fail
  go_loopg [3] (s.length + 1) (fun q vb wr => ∃ (l : Bs) (n : Nat), vb = vb ∧ SB (fun k => k = w.heap.size) l vb wr ∧ l.length ≤ n ∧ n + 1 = q ∧ n ≤ s.length ∧ Fr NoB w0 wr ∧ Hid (rValid n l = R))
  case atStart => exact ⟨s, s.length, rfl, HS.out, Nat.le_refl _, rfl, Nat.le_refl _, Fr.refl, HR⟩
  case round =>
    obtain ⟨l, n, -, hsb, hln, hnq, hns, hF, HR1⟩ := hrel
    obtain ⟨a, cap, rfl⟩ := hsb.form
    cases l with
    | nil =>
      have hr := HR1.out
      have e : R = true := by
        rw [← hr]
        cases n <;> simp [rValid]
      subst e
      have HF := Lib.hid (HF0.out.trans' hF)
      clear hr hF hsb
      simp only [List.length_nil]
      go_wp2_with fail
      go_ret
      exact ⟨rfl, HF.out⟩
    | cons x t =>
      obtain ⟨n, rfl⟩ : ∃ m, n = m + 1 := ⟨n - 1, by simp at hln; omega⟩
      have hr := HR1.out
      rw [rValid, if_neg (by simp)] at hr
      have hfc := fun W v hW => refFirst_c (x :: t) v W (fun k => k = w.heap.size) hW (by simp at hln ⊢; omega)
      have hbd := dFirst_bytes (s := x :: t) (c := (dFirst (x :: t)).1) (k := (dFirst (x :: t)).2) rfl
      obtain ⟨g, o, cap', e1, hcp, hS, hlt, hcell⟩ := hsb.cellsAt (by simp)
      obtain ⟨rfl, rfl⟩ : a = some ⟨g, o, none⟩ ∧ cap = cap' := by simpa using e1
      generalize hdf : dFirst (x :: t) = G at *
      obtain ⟨c, k⟩ := G
      simp only at hr hbd hfc
      have Hfc := Lib.hid hfc
      have Hsb := Lib.hid hsb
      have HF := Lib.hid hF
      clear hfc hsb hF hcell HR1 e1 hS hdf hlt
      rw [List.length_cons] at hcp hbd hln ⊢
      obtain ⟨hk4, hkl, -, -, -⟩ := hbd
      by_cases hk : k = 0
      · subst hk
        rw [if_pos rfl] at hr
        subst hr
        go_wp2_with fail
        refine (Hfc.out _ _ Hsb.out).mono ?_
        rintro e w1 ⟨rfl, hF1⟩
        have HF2 := Lib.hid (HF0.out.trans' (HF.out.trans' hF1))
        go_wp2_with fail
        go_ret
        exact ⟨rfl, HF2.out⟩
      · rw [if_neg hk] at hr
        have hk1 : (k : Int) ≤ t.length + 1 := by omega
        have hk2 : (k : Int) ≤ cap := by omega
        have hk3 : ((k : Int) == 0) = false := by simpa using hk
        have hd := Hsb.out.drop k (by simpa using hkl)
        have hd0 := Hsb.out.none'
        simp only [List.length_cons] at hd
        have Hd := Lib.hid hd
        have Hd0 := Lib.hid hd0
        have HR2 := Lib.hid hr
        clear hd hd0 hr
        by_cases hkc : k = cap
        · have e2 : (x :: t).drop k = [] := List.drop_eq_nil_of_le (by simp; omega)
          have e3 : t.length + 1 - k = 0 := by omega
          have HR3 := HR2.out
          rw [e2] at HR3
          have HR4 := Lib.hid HR3
          clear HR3 HR2
          subst hkc
          have e4 : k = t.length + 1 := by omega
          subst e4
          go_wp2_with fail
          refine (Hfc.out _ _ Hsb.out).mono ?_
          rintro e w1 ⟨rfl, hF1⟩
          have HF2 := Lib.hid (HF.out.trans' hF1)
          have Hd1 := Lib.hid ((Hd0.out 0).fr hF1 (fun _ _ _ _ h => h))
          go_wp2_with fail
          go_roundg (gk - 1)
          case measure => omega
          case rel => exact ⟨[], n, trivial, Hd1.out, by simp, by omega, by omega, HF2.out, HR4⟩
        · have hkc2 : (k : Int) < cap := by omega
          go_wp2_with fail
          refine (Hfc.out _ _ Hsb.out).mono ?_
          rintro e w1 ⟨rfl, hF1⟩
          have HF2 := Lib.hid (HF.out.trans' hF1)
          have Hd1 := Lib.hid (Hd.out.fr hF1 (fun _ _ _ _ h => h))
          go_wp2_with fail
          go_roundg (gk - 1)
          case measure => omega
          case rel => exact ⟨(x :: t).drop k, n, trivial, Hd1.out, by simp; omega, by omega, by omega, HF2.out, HR2⟩
end Go.Proofs.YtbfmpbhikipipaaGreatDoor
