/-
  The walks of json's reader, further: a value; a text is parsed.
-/
import Derived.Test.YtbfmpbhikipipaaDoorReader9
namespace Go.Proofs.YtbfmpbhikipipaaDoor
set_option linter.unusedVariables false
set_option linter.unusedSimpArgs false
set_option linter.unusedSectionVars false
open Go.RowKit
attribute [local instance] oldZero

theorem fn_c (f : Nat) (hv : ValOk f) (d : Int) (hd0 : 0 ≤ d) (hd1 : d ≤ 8) (hdf : d + 1 + f = 10) (r q : Nat) (c : UInt8) (l : Bs) (w : World) (hq : Bx q r w) (h : Rd r (c :: l) false d w) (hg : Gl w) (hlen : (c :: l).length ≤ 67108864) :
    ∃ g a b, rdFn r q c = .func (.func g) a b ∧ (callFunc g (a ++ b)).run Tryd.prog w = .ok (.enter g (a ++ b)) w ∧ Calls Tryd.prog g (a ++ b) w fun e w' => ∃ v, e = .returned v ∧
      RJ (fun k => w.heap.size ≤ k) w' (sRead (sValue f (d + 1)) d c ⟨c :: l, false⟩).1 v ∧
      Rd r (sRead (sValue f (d + 1)) d c ⟨c :: l, false⟩).2.s (sRead (sValue f (d + 1)) d c ⟨c :: l, false⟩).2.bad d w' ∧ Fr (MR r) w w' := by
  unfold rdFn sRead
  by_cases h1 : c = 110
  · simp only [if_pos h1]
    exact ⟨_, _, _, rfl, by simp [go_sem], read1_c q r _ _ d w hq h⟩
  simp only [if_neg h1]
  by_cases h2 : c = 116
  · simp only [if_pos h2]
    exact ⟨_, _, _, rfl, by simp [go_sem], read2_c q r _ _ d w hq h⟩
  simp only [if_neg h2]
  by_cases h3 : c = 102
  · simp only [if_pos h3]
    exact ⟨_, _, _, rfl, by simp [go_sem], read3_c q r _ _ d w hq h⟩
  simp only [if_neg h3]
  by_cases h4 : c = 34
  · simp only [if_pos h4]
    exact ⟨_, _, _, rfl, by simp [go_sem], read4_c q r _ _ d w hq h hg (by omega)⟩
  simp only [if_neg h4]
  by_cases h5 : c = 91
  · simp only [if_pos h5]
    exact ⟨_, _, _, rfl, by simp [go_sem], list_c f hv d hd0 hd1 hdf r _ w h hg hlen⟩
  simp only [if_neg h5]
  by_cases h6 : c = 123
  · simp only [if_pos h6]
    exact ⟨_, _, _, rfl, by simp [go_sem], object_c f hv d hd0 hd1 hdf r _ w h hg hlen⟩
  simp only [if_neg h6]
  exact ⟨_, _, _, rfl, by simp [go_sem], number_c r c l false d w h (by omega)⟩

set_option maxRecDepth 100000 in
set_option maxHeartbeats 1000000 in
theorem value_c : ∀ f, ValOk f := by
  intro f
  induction f with
  | zero => intro d r s bad w _ _ _ h0 h1 h2; exfalso; simp at h2; omega
  | succ f ih =>
    intro d r s bad w h hg hlen hd0 hd1 hdf
    have hlt := h.lt
    have hdf' : d + 1 + (f : Int) = 10 := by simp at hdf; omega
    have hbl := blanks_le s
    simp only [sValue]
    cases hs : sBlanks s with
    | nil =>
      simp only
      go_enter Tryd.func23, Tryd.ntmps23
      go_wp2_with fail
      refine (blanks_c r s bad d _ (h.alloc _)).mono ?_
      rintro e w1 ⟨rfl, hR1, hF1⟩
      rw [hs] at hR1
      have hV1 := (VB.new w _ _ _ _ _).rd hF1
      obtain ⟨c0, c1, c2, f1, hr1⟩ := hR1.cells
      go_wp2_with fail
      refine (fail_c r _ _ d _ hR1).mono ?_
      rintro e w2 ⟨rfl, hR2, hF2⟩
      have hV2 := hV1.rd hF2
      obtain ⟨q0, q1, q2, q3, q4, a0, a1, a2, a3, a4, fz, hlt1⟩ := hV2.cells
      go_wp2_with fail
      refine bodyPost_ret (v := .agg #[.int .i64 0, .int .i64 0, .string ⟨#[]⟩, .slice none 0 0, .slice none 0 0]) (by simp [results, Tryd.results23, go_sem, a0, a1, a2, a3, a4]) rfl ?_
      exact ⟨_, rfl, RJ.zero _ _, hR2.setV (by omega) _ _ _ _ _, (((Fr.refl.alloc _).trans' hF1).trans' hF2).setV (Nat.le_refl _) _ _ _ _ _⟩
    | cons c l =>
      rw [hs] at hbl
      cases bad with
      | true =>
        simp only [if_true]
        go_enter Tryd.func23, Tryd.ntmps23
        go_wp2_with fail
        refine (blanks_c r s true d _ (h.alloc _)).mono ?_
        rintro e w1 ⟨rfl, hR1, hF1⟩
        rw [hs] at hR1
        have hV1 := (VB.new w _ _ _ _ _).rd hF1
        obtain ⟨c0, c1, c2, f1, hr1⟩ := hR1.cells
        go_wp2_with fail
        refine (fail_c r _ _ d _ hR1).mono ?_
        rintro e w2 ⟨rfl, hR2, hF2⟩
        have hV2 := hV1.rd hF2
        obtain ⟨q0, q1, q2, q3, q4, a0, a1, a2, a3, a4, fz, hlt1⟩ := hV2.cells
        go_wp2_with fail
        refine bodyPost_ret (v := .agg #[.int .i64 0, .int .i64 0, .string ⟨#[]⟩, .slice none 0 0, .slice none 0 0]) (by simp [results, Tryd.results23, go_sem, a0, a1, a2, a3, a4]) rfl ?_
        exact ⟨_, rfl, RJ.zero _ _, hR2.setV (by omega) _ _ _ _ _, (((Fr.refl.alloc _).trans' hF1).trans' hF2).setV (Nat.le_refl _) _ _ _ _ _⟩
      | false =>
        simp only [Bool.false_eq_true, if_false]
        have hfn := fun q W hq hR hgW => fn_c f ih d hd0 hd1 hdf' r q c l W hq hR hgW (by omega)
        generalize sRead (sValue f (d + 1)) d c ⟨c :: l, false⟩ = G at *
        obtain ⟨j, st⟩ := G
        have Hfn := Lib.hid hfn
        clear hfn
        go_enter Tryd.func23, Tryd.ntmps23
        go_wp2_with fail
        refine (blanks_c r s false d _ (h.alloc _)).mono ?_
        rintro e w1 ⟨rfl, hR1, hF1⟩
        rw [hs] at hR1
        have hV1 := (VB.new w _ _ _ _ _).rd hF1
        have hg1 := (hg.alloc _).rd (h.alloc _) hF1
        obtain ⟨c0, c1, c2, f1, hr1⟩ := hR1.cells
        go_wp2_with fail
        refine (read_c r c w1).mono ?_
        rintro e w2 ⟨rfl, rfl⟩
        obtain ⟨g, a, b, hfn, hent, hcall⟩ := Hfn.out w1.heap.size _ (heap_alloc_new w1 _) (hR1.alloc _) (hg1.alloc _)
        have Hcall := Lib.hid hcall
        clear hcall
        rw [hfn]
        go_wp2_with fail
        refine Hcall.out.mono ?_
        rintro e w3 ⟨v, rfl, hj, hR3, hF3⟩
        have hV3 := (hV1.fr (Fr.refl.alloc (M := NoB) _) (fun _ _ h => h)).rd hF3
        obtain ⟨q0, q1, q2, q3, q4, a0, a1, a2, a3, a4, fz, hlt1⟩ := hV3.cells
        obtain ⟨jk, jn, jt, jl, jp⟩ := j
        have hjv := hj
        unfold RJ at hjv
        obtain ⟨x1, n1, x2, n2, rfl, _, _⟩ := hjv
        have Hj := Lib.hid hj
        clear hj
        have hs1 := hF1.size
        have hs3 := hF3.size
        simp only [World.size_alloc] at hs1 hs3
        go_wp2_with fail
        refine bodyPost_ret (v := .agg #[.int .i64 jk, .int .i64 jn, .string ⟨jt.toArray⟩, .slice x1 jl.length n1, .slice x2 jp.length n2]) (by simp [results, Tryd.results23, go_sem, a0, a1, a2, a3, a4]) rfl ?_
        refine ⟨_, rfl, RJ.kp (fun b o hb ho _ => ⟨?_, (setV_fr _ _ _ _ _ _ _).block b o ho ?_⟩) _ _ Hj.out, hR3.setV (by omega) _ _ _ _ _, ((((Fr.refl.alloc _).trans' hF1).alloc _).trans' hF3).setV (Nat.le_refl _) _ _ _ _ _⟩
        · simp only [World.size_alloc] at hb; omega
        · simp only [World.size_alloc] at hb; omega
end Go.Proofs.YtbfmpbhikipipaaDoor
