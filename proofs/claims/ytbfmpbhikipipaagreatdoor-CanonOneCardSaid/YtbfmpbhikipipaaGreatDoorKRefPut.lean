/-
  The walks of the reference's Put, and of errors as numbers.
-/
import Derived.Test.YtbfmpbhikipipaaGreatDoorKRefGood
import Derived.Test.YtbfmpbhikipipaaGreatDoorKRefText
import Derived.Test.YtbfmpbhikipipaaGreatDoorKLen
namespace Go.Proofs.YtbfmpbhikipipaaGreatDoor
set_option linter.unusedVariables false
set_option linter.unusedSimpArgs false
set_option linter.unusedSectionVars false
open Go.RowKit
variable [OldK]

set_option maxRecDepth 100000 in
set_option maxHeartbeats 1000000 in
theorem num_c (n : Nat) (hn : n ≤ 20) (w : World) :
    Calls Tryz.prog 12 #[errV n] w fun e w' => e = .returned (.int .i64 n) ∧ w = w' := by
  unfold errV
  by_cases h0 : n = 0
  · subst h0
    simp only [if_true]
    go_enter Tryz.func12, Tryz.ntmps12
    go_wp2_with fail
    go_ret
    exact ⟨rfl, rfl⟩
  · rw [if_neg h0]
    have h1 : ((n : Int) == 0) = false := by simpa using h0
    have h2 : ((n : Int) != 0) = true := by simpa using h0
    clear h0
    have hta : ∀ w, (Instr.typeAssert (Value.iface 50 (Value.int .i64 (n : Int))) 30 50 true).run Tryz.prog w = .ok (.tuple #[.int .i64 n, .bool true]) w := fun _ => by kernel_rfl
    go_enter Tryz.func12, Tryz.ntmps12
    go_wp2_with fail
    go_ret
    exact ⟨rfl, rfl⟩
set_option maxRecDepth 100000 in
set_option maxHeartbeats 1000000 in
theorem refPut_c (S : Nat → Prop) (j : J) (v : Value) (w : World) (h : RJ S w j v) (hfit : fits 67108864 j = true) (hlen : (pText j).length ≤ 70368744177664) :
    Calls Tryz.prog 10 #[v] w fun e w' => ∃ x, e = .returned (.tuple #[x, .int .i64 (pPut j).2]) ∧ SB (fun k => w.heap.size ≤ k) (pPut j).1 x w' ∧ Fr NoB w w' := by
  obtain ⟨k, n, t, a, l, c, b, p, e, rfl⟩ := h.form
  have hgd := fun W hW => refGood_c 8 0 S j (.agg #[.int .i64 k, .int .i64 n, .string t, .slice a l c, .slice b p e]) W hW hfit (by omega) (by omega)
  have htx := fun hs W hW => refText_c 8 0 S j (.agg #[.int .i64 k, .int .i64 n, .string t, .slice a l c, .slice b p e]) W hW hfit hs (by omega) (by omega) hlen
  unfold pPut
  have ept : pWrite (pSorts 8 j) = pText j := rfl
  simp only [ept] at htx
  generalize pText j = T at *
  have hF0 := (Fr.refl (M := NoB)).alloc (w := w) (.cells #[.int .i64 k, .int .i64 n, .string t, .slice a l c, .slice b p e] 25)
  have hb0 := heap_alloc_new w (.cells #[.int .i64 k, .int .i64 n, .string t, .slice a l c, .slice b p e] 25)
  obtain ⟨c0, c1, c2, c3, c4, cz, clt⟩ := VB.at hb0
  have Hgd := Lib.hid hgd
  have Htx := Lib.hid htx
  have HF0 := Lib.hid hF0
  have Hb0 := Lib.hid hb0
  have Hh := Lib.hid h
  clear hgd htx hF0 hb0 h
  cases hps : pSound 0 j with
  | false =>
    simp only [Bool.false_eq_true, if_false]
    rw [hps] at Hgd
    clear hps
    go_enter Tryz.func10, Tryz.ntmps10
    go_wp2_with fail
    refine (Hgd.out _ (RJ.kp (Kp.ofFr HF0.out) _ _ Hh.out)).mono ?_
    rintro e w1 ⟨rfl, hF1⟩
    have HF1 := Lib.hid (HF0.out.trans' hF1)
    clear hF1
    go_wp2_with fail
    go_ret2
    exact ⟨_, rfl, SB.nil _ _ _, HF1.out⟩
  | true =>
    simp only [if_true]
    rw [hps] at Hgd
    have htx2 := Htx.out hps
    have Htx2 := Lib.hid htx2
    clear htx2 Htx hps
    have hT : ∀ W, ∃ (v : Value) (w' : World), (convert 9 28 (.string ⟨T.toArray⟩)).run Tryz.prog W = .ok v w' ∧ SB (fun k => k = W.heap.size) T v w' ∧ Fr NoB W w' := fun W => SB.made T W
    have HT := Lib.hid hT
    clear hT
    have hcase : (4096 < T.length ∧ (4096 : Int) < T.length) ∨ (¬ 4096 < T.length ∧ ¬ (4096 : Int) < T.length) := by omega
    rcases hcase with ⟨hl, hl2⟩ | ⟨hl, hl2⟩
    · rw [if_pos hl]
      clear hl
      go_enter Tryz.func10, Tryz.ntmps10
      go_wp2_with fail
      refine (Hgd.out _ (RJ.kp (Kp.ofFr HF0.out) _ _ Hh.out)).mono ?_
      rintro e w1 ⟨rfl, hF1⟩
      obtain ⟨c0', c1', c2', c3', c4', cz', clt'⟩ := VB.at (hF1.block _ _ Hb0.out (fun h => h))
      have HF1 := Lib.hid (HF0.out.trans' hF1)
      clear hF1
      go_wp2_with fail
      refine (Htx2.out _ (RJ.kp (Kp.ofFr HF1.out) _ _ Hh.out)).mono ?_
      rintro e w2 ⟨rfl, hF2⟩
      have HF2 := Lib.hid (HF1.out.trans' hF2)
      clear hF2
      go_wp2_with fail
      go_ret2
      exact ⟨_, rfl, SB.nil _ _ _, HF2.out⟩
    · rw [if_neg hl]
      clear hl
      go_enter Tryz.func10, Tryz.ntmps10
      go_wp2_with fail
      refine (Hgd.out _ (RJ.kp (Kp.ofFr HF0.out) _ _ Hh.out)).mono ?_
      rintro e w1 ⟨rfl, hF1⟩
      obtain ⟨c0', c1', c2', c3', c4', cz', clt'⟩ := VB.at (hF1.block _ _ Hb0.out (fun h => h))
      have HF1 := Lib.hid (HF0.out.trans' hF1)
      clear hF1
      go_wp2_with fail
      refine (Htx2.out _ (RJ.kp (Kp.ofFr HF1.out) _ _ Hh.out)).mono ?_
      rintro e w2 ⟨rfl, hF2⟩
      have HF2 := Lib.hid (HF1.out.trans' hF2)
      clear hF2
      obtain ⟨x, w3, hrun, hsb, hF3⟩ := HT.out w2
      have Hsb := Lib.hid hsb
      have HF3 := Lib.hid hF3
      clear hsb hF3
      go_wp2_with fail
      go_ret2
      exact ⟨_, rfl, Hsb.out.kp (fun b o hs hb _ => ⟨by rw [hs]; exact HF2.out.size, hb⟩), HF2.out.trans' HF3.out⟩
end Go.Proofs.YtbfmpbhikipipaaGreatDoor
