/-
 The walks of json's reader, further: how a value is read by its first sign.
-/
import Derived.Test.YtcddlemkimbkcaaGreatDoorKReader8
namespace Go.Proofs.YtcddlemkimbkcaaGreatDoor
set_option linter.unusedVariables false
set_option linter.unusedSimpArgs false
set_option linter.unusedSectionVars false
open Go.RowKit
attribute [local instance] oldZero

set_option maxRecDepth 100000 in
set_option maxHeartbeats 1000000 in
theorem read1_c (q r : Nat) (s : Bs) (bad : Bool) (d : Int) (w : World) (hq : Bx q r w) (h : Rd r s bad d w) :
 Calls Tryz.prog 256 #[.pointer (some ⟨q, 0, none⟩)] w fun e w' => ∃ v, e = .returned v ∧ RJ (fun k => w.heap.size ≤ k) w' J.zero v ∧ Rd r (sMust sNull ⟨s, bad⟩).s (sMust sNull ⟨s, bad⟩).bad d w' ∧ Fr (MR r) w w' := by
 have cq := hq.cell
 have hql := get_lt hq
 have hlt := h.lt
 have hmust := fun W hR => must_c r s sNull bad d W hR
 generalize sMust sNull ⟨s, bad⟩ = G at *
 obtain ⟨s1, b1⟩ := G
 have Hmust := Lib.hid hmust
 clear hmust
 go_enter Tryz.func256, Tryz.ntmps256
 go_wp2_with fail
 refine (Hmust.out _ (h.alloc _)).mono ?_
 rintro e w1 ⟨rfl, hR1, hF1⟩
 have hV1 := (VB.new w _ _ _ _ _).rd hF1
 obtain ⟨q0, q1, q2, q3, q4, a0, a1, a2, a3, a4, fz, hlt1⟩ := hV1.cells
 go_wp2_with fail
 refine bodyPost_ret (v := .agg #[.int .i64 0, .int .i64 0, .string ⟨#[]⟩, .slice none 0 0, .slice none 0 0]) (by simp [results, Tryz.results256, go_sem, a0, a1, a2, a3, a4]) rfl ?_
 exact ⟨_, rfl, RJ.zero _ _, hR1.setV (by omega) _ _ _ _ _, ((Fr.refl.alloc _).trans' hF1).setV (Nat.le_refl _) _ _ _ _ _⟩
set_option maxRecDepth 100000 in
set_option maxHeartbeats 1000000 in
theorem read2_c (q r : Nat) (s : Bs) (bad : Bool) (d : Int) (w : World) (hq : Bx q r w) (h : Rd r s bad d w) :
 Calls Tryz.prog 258 #[.pointer (some ⟨q, 0, none⟩)] w fun e w' => ∃ v, e = .returned v ∧ RJ (fun k => w.heap.size ≤ k) w' (.mk 1 1 [] [] []) v ∧ Rd r (sMust sTrue ⟨s, bad⟩).s (sMust sTrue ⟨s, bad⟩).bad d w' ∧ Fr (MR r) w w' := by
 have cq := hq.cell
 have hql := get_lt hq
 have hlt := h.lt
 have hmust := fun W hR => must_c r s sTrue bad d W hR
 generalize sMust sTrue ⟨s, bad⟩ = G at *
 obtain ⟨s1, b1⟩ := G
 have Hmust := Lib.hid hmust
 clear hmust
 go_enter Tryz.func258, Tryz.ntmps258
 go_wp2_with fail
 refine (Hmust.out _ (h.alloc _)).mono ?_
 rintro e w1 ⟨rfl, hR1, hF1⟩
 have hV1 := (VB.new w _ _ _ _ _).rd hF1
 obtain ⟨q0, q1, q2, q3, q4, a0, a1, a2, a3, a4, fz, hlt1⟩ := hV1.cells
 go_wp2_with fail
 refine bodyPost_ret (v := .agg #[.int .i64 1, .int .i64 1, .string ⟨#[]⟩, .slice none 0 0, .slice none 0 0]) (by simp [results, Tryz.results258, go_sem, a0, a1, a2, a3, a4]) rfl ?_
 exact ⟨_, rfl, RJ.flat _ _ _ _ [], hR1.setV (by omega) _ _ _ _ _, ((Fr.refl.alloc _).trans' hF1).setV (Nat.le_refl _) _ _ _ _ _⟩
set_option maxRecDepth 100000 in
set_option maxHeartbeats 1000000 in
theorem read3_c (q r : Nat) (s : Bs) (bad : Bool) (d : Int) (w : World) (hq : Bx q r w) (h : Rd r s bad d w) :
 Calls Tryz.prog 259 #[.pointer (some ⟨q, 0, none⟩)] w fun e w' => ∃ v, e = .returned v ∧ RJ (fun k => w.heap.size ≤ k) w' (.mk 1 0 [] [] []) v ∧ Rd r (sMust sFalse ⟨s, bad⟩).s (sMust sFalse ⟨s, bad⟩).bad d w' ∧ Fr (MR r) w w' := by
 have cq := hq.cell
 have hql := get_lt hq
 have hlt := h.lt
 have hmust := fun W hR => must_c r s sFalse bad d W hR
 generalize sMust sFalse ⟨s, bad⟩ = G at *
 obtain ⟨s1, b1⟩ := G
 have Hmust := Lib.hid hmust
 clear hmust
 go_enter Tryz.func259, Tryz.ntmps259
 go_wp2_with fail
 refine (Hmust.out _ (h.alloc _)).mono ?_
 rintro e w1 ⟨rfl, hR1, hF1⟩
 have hV1 := (VB.new w _ _ _ _ _).rd hF1
 obtain ⟨q0, q1, q2, q3, q4, a0, a1, a2, a3, a4, fz, hlt1⟩ := hV1.cells
 go_wp2_with fail
 refine bodyPost_ret (v := .agg #[.int .i64 1, .int .i64 0, .string ⟨#[]⟩, .slice none 0 0, .slice none 0 0]) (by simp [results, Tryz.results259, go_sem, a0, a1, a2, a3, a4]) rfl ?_
 exact ⟨_, rfl, RJ.flat _ _ _ _ [], hR1.setV (by omega) _ _ _ _ _, ((Fr.refl.alloc _).trans' hF1).setV (Nat.le_refl _) _ _ _ _ _⟩
set_option maxRecDepth 100000 in
set_option maxHeartbeats 1000000 in
theorem read4_c (q r : Nat) (s : Bs) (bad : Bool) (d : Int) (w : World) (hq : Bx q r w) (h : Rd r s bad d w) (hg : Gl w) (hlen : s.length ≤ 1073741824) :
 Calls Tryz.prog 260 #[.pointer (some ⟨q, 0, none⟩)] w fun e w' => ∃ v, e = .returned v ∧ RJ (fun k => w.heap.size ≤ k) w' (.mk 3 0 (sText ⟨s, bad⟩).1 [] []) v ∧ Rd r (sText ⟨s, bad⟩).2.s (sText ⟨s, bad⟩).2.bad d w' ∧ Fr (MR r) w w' := by
 have cq := hq.cell
 have hql := get_lt hq
 have hlt := h.lt
 have htext := fun W hR hgW => text_c r s bad d W hR hgW hlen
 generalize sText ⟨s, bad⟩ = G at *
 obtain ⟨nm, s1, b1⟩ := G
 have Htext := Lib.hid htext
 clear htext
 go_enter Tryz.func260, Tryz.ntmps260
 go_wp2_with fail
 refine (Htext.out _ (h.alloc _) (hg.alloc _)).mono ?_
 rintro e w1 ⟨rfl, hR1, hF1⟩
 have hV1 := (VB.new w _ _ _ _ _).rd hF1
 obtain ⟨q0, q1, q2, q3, q4, a0, a1, a2, a3, a4, fz, hlt1⟩ := hV1.cells
 go_wp2_with fail
 refine bodyPost_ret (v := .agg #[.int .i64 3, .int .i64 0, .string ⟨nm.toArray⟩, .slice none 0 0, .slice none 0 0]) (by simp [results, Tryz.results260, go_sem, a0, a1, a2, a3, a4]) rfl ?_
 exact ⟨_, rfl, RJ.flat _ _ _ _ nm, hR1.setV (by omega) _ _ _ _ _, ((Fr.refl.alloc _).trans' hF1).setV (Nat.le_refl _) _ _ _ _ _⟩

theorem ret_val {a b : Value} (h : a = b) : Ending.returned a = .returned b := by rw [h]
/-- the function by which a value is read -/
def rdFn (r q : Nat) (c : UInt8) : Value :=
 if c = 110 then .func (.func 256) #[] #[.pointer (some ⟨q, 0, none⟩)]
 else if c = 116 then .func (.func 258) #[] #[.pointer (some ⟨q, 0, none⟩)]
 else if c = 102 then .func (.func 259) #[] #[.pointer (some ⟨q, 0, none⟩)]
 else if c = 34 then .func (.func 260) #[] #[.pointer (some ⟨q, 0, none⟩)]
 else if c = 91 then .func (.func 262) #[.pointer (some ⟨r, 0, none⟩)] #[]
 else if c = 123 then .func (.func 263) #[.pointer (some ⟨r, 0, none⟩)] #[]
 else .func (.func 264) #[.pointer (some ⟨r, 0, none⟩)] #[]
theorem sign_eq (c : UInt8) (n : Nat) (hn : n < 256) : ((c.toNat : Int) == (n : Int)) = decide (c = UInt8.ofNat n) := by
 rw [Bool.eq_iff_iff, beq_iff_eq, decide_eq_true_eq]
 constructor
 ·intro e
  have : c.toNat = n := by omega
  apply UInt8.toNat_inj.1
  rw [this]
  simp; omega
 ·rintro rfl
  simp; omega
set_option maxRecDepth 100000 in
set_option maxHeartbeats 1000000 in
theorem read_c (r : Nat) (c : UInt8) (w : World) :
 Calls Tryz.prog 222 #[.pointer (some ⟨r, 0, none⟩), .int .u8 c.toNat] w fun e w' => e = .returned (rdFn r w.heap.size c) ∧ w' = w.alloc (.cells #[.pointer (some ⟨r, 0, none⟩)] 280) := by
 have e1 : ((c.toNat : Int) == 110) = decide (c = 110) := sign_eq c 110 (by decide)
 have e2 : ((c.toNat : Int) == 116) = decide (c = 116) := sign_eq c 116 (by decide)
 have e3 : ((c.toNat : Int) == 102) = decide (c = 102) := sign_eq c 102 (by decide)
 have e4 : ((c.toNat : Int) == 34) = decide (c = 34) := sign_eq c 34 (by decide)
 have e5 : ((c.toNat : Int) == 91) = decide (c = 91) := sign_eq c 91 (by decide)
 have e6 : ((c.toNat : Int) == 123) = decide (c = 123) := sign_eq c 123 (by decide)
 generalize hG : rdFn r w.heap.size c = G
 unfold rdFn at hG
 by_cases h1 : c = 110
 ·rw [decide_eq_true h1] at e1
  rw [if_pos h1] at hG
  clear e2 e3 e4 e5 e6
  go_enter Tryz.func222, Tryz.ntmps222
  go_wp2_with fail
  go_ret
  exact ⟨rfl, rfl⟩
 rw [decide_eq_false h1] at e1
 rw [if_neg h1] at hG
 by_cases h2 : c = 116
 ·rw [decide_eq_true h2] at e2
  rw [if_pos h2] at hG
  clear e3 e4 e5 e6
  go_enter Tryz.func222, Tryz.ntmps222
  go_wp2_with fail
  go_ret
  exact ⟨rfl, rfl⟩
 rw [decide_eq_false h2] at e2
 rw [if_neg h2] at hG
 by_cases h3 : c = 102
 ·rw [decide_eq_true h3] at e3
  rw [if_pos h3] at hG
  clear e4 e5 e6
  go_enter Tryz.func222, Tryz.ntmps222
  go_wp2_with fail
  go_ret
  exact ⟨rfl, rfl⟩
 rw [decide_eq_false h3] at e3
 rw [if_neg h3] at hG
 by_cases h4 : c = 34
 ·rw [decide_eq_true h4] at e4
  rw [if_pos h4] at hG
  clear e5 e6
  go_enter Tryz.func222, Tryz.ntmps222
  go_wp2_with fail
  go_ret
  exact ⟨rfl, rfl⟩
 rw [decide_eq_false h4] at e4
 rw [if_neg h4] at hG
 by_cases h5 : c = 91
 ·rw [decide_eq_true h5] at e5
  rw [if_pos h5] at hG
  clear e6
  go_enter Tryz.func222, Tryz.ntmps222
  go_wp2_with fail
  go_ret
  exact ⟨rfl, rfl⟩
 rw [decide_eq_false h5] at e5
 rw [if_neg h5] at hG
 by_cases h6 : c = 123
 ·rw [decide_eq_true h6] at e6
  rw [if_pos h6] at hG
  go_enter Tryz.func222, Tryz.ntmps222
  go_wp2_with fail
  go_ret
  exact ⟨rfl, rfl⟩
 rw [decide_eq_false h6] at e6
 rw [if_neg h6] at hG
 go_enter Tryz.func222, Tryz.ntmps222
 go_wp2_with fail
 go_ret
 exact ⟨rfl, rfl⟩
end Go.Proofs.YtcddlemkimbkcaaGreatDoor
namespace Go.Proofs.YtcddlemkimbkcaaGreatDoor
set_option linter.unusedVariables false
set_option linter.unusedSimpArgs false
set_option linter.unusedSectionVars false
open Go.RowKit
attribute [local instance] oldZero

theorem fn_c (f : Nat) (hv : ValOk f) (d : Int) (hd0 : 0 ≤ d) (hd1 : d ≤ 8) (hdf : d + 1 + f = 10) (r q : Nat) (c : UInt8) (l : Bs) (w : World) (hq : Bx q r w) (h : Rd r (c :: l) false d w) (hg : Gl w) (hlen : (c :: l).length ≤ 67108864) :
 ∃ g a b, rdFn r q c = .func (.func g) a b ∧ (callFunc g (a ++ b)).run Tryz.prog w = .ok (.enter g (a ++ b)) w ∧ Calls Tryz.prog g (a ++ b) w fun e w' => ∃ v, e = .returned v ∧
  RJ (fun k => w.heap.size ≤ k) w' (sRead (sValue f (d + 1)) d c ⟨c :: l, false⟩).1 v ∧
  Rd r (sRead (sValue f (d + 1)) d c ⟨c :: l, false⟩).2.s (sRead (sValue f (d + 1)) d c ⟨c :: l, false⟩).2.bad d w' ∧ Fr (MR r) w w' := by
 unfold rdFn sRead
 by_cases h1 : c = 110
 ·simp only [if_pos h1]
  exact ⟨_, _, _, rfl, by simp [go_sem], read1_c q r _ _ d w hq h⟩
 simp only [if_neg h1]
 by_cases h2 : c = 116
 ·simp only [if_pos h2]
  exact ⟨_, _, _, rfl, by simp [go_sem], read2_c q r _ _ d w hq h⟩
 simp only [if_neg h2]
 by_cases h3 : c = 102
 ·simp only [if_pos h3]
  exact ⟨_, _, _, rfl, by simp [go_sem], read3_c q r _ _ d w hq h⟩
 simp only [if_neg h3]
 by_cases h4 : c = 34
 ·simp only [if_pos h4]
  exact ⟨_, _, _, rfl, by simp [go_sem], read4_c q r _ _ d w hq h hg (by omega)⟩
 simp only [if_neg h4]
 by_cases h5 : c = 91
 ·simp only [if_pos h5]
  exact ⟨_, _, _, rfl, by simp [go_sem], list_c f hv d hd0 hd1 hdf r _ w h hg hlen⟩
 simp only [if_neg h5]
 by_cases h6 : c = 123
 ·simp only [if_pos h6]
  exact ⟨_, _, _, rfl, by simp [go_sem], object_c f hv d hd0 hd1 hdf r _ w h hg hlen⟩
 simp only [if_neg h6]
 exact ⟨_, _, _, rfl, by simp [go_sem], number_c r c l false d w h (by omega)⟩

set_option maxRecDepth 100000 in
set_option maxHeartbeats 1000000 in
theorem value_c : ∀ f, ValOk f := by
 intro f
 induction f with
 | zero => intro d r s bad w _ _ _ h0 h1 h2; exfalso; simp at h2; omega
 | succ f ih =>
   intro d r s bad w h hg hlen hd0 hd1 hdf
   have hlt := h.lt
   have hdf' : d + 1 + (f : Int) = 10 := by simp at hdf; omega
   have hbl := blanks_le s
   simp only [sValue]
   cases hs : sBlanks s with
   | nil =>
     simp only
     go_enter Tryz.func180, Tryz.ntmps180
     go_wp2_with fail
     refine (blanks_c r s bad d _ (h.alloc _)).mono ?_
     rintro e w1 ⟨rfl, hR1, hF1⟩
     rw [hs] at hR1
     have hV1 := (VB.new w _ _ _ _ _).rd hF1
     obtain ⟨c0, c1, c2, f1, hr1⟩ := hR1.cells
     go_wp2_with fail
     refine (fail_c r _ _ d _ hR1).mono ?_
     rintro e w2 ⟨rfl, hR2, hF2⟩
     have hV2 := hV1.rd hF2
     obtain ⟨q0, q1, q2, q3, q4, a0, a1, a2, a3, a4, fz, hlt1⟩ := hV2.cells
     go_wp2_with fail
     refine bodyPost_ret (v := .agg #[.int .i64 0, .int .i64 0, .string ⟨#[]⟩, .slice none 0 0, .slice none 0 0]) (by simp [results, Tryz.results180, go_sem, a0, a1, a2, a3, a4]) rfl ?_
     exact ⟨_, rfl, RJ.zero _ _, hR2.setV (by omega) _ _ _ _ _, (((Fr.refl.alloc _).trans' hF1).trans' hF2).setV (Nat.le_refl _) _ _ _ _ _⟩
   | cons c l =>
     rw [hs] at hbl
     cases bad with
     | true =>
       simp only [if_true]
       go_enter Tryz.func180, Tryz.ntmps180
       go_wp2_with fail
       refine (blanks_c r s true d _ (h.alloc _)).mono ?_
       rintro e w1 ⟨rfl, hR1, hF1⟩
       rw [hs] at hR1
       have hV1 := (VB.new w _ _ _ _ _).rd hF1
       obtain ⟨c0, c1, c2, f1, hr1⟩ := hR1.cells
       go_wp2_with fail
       refine (fail_c r _ _ d _ hR1).mono ?_
       rintro e w2 ⟨rfl, hR2, hF2⟩
       have hV2 := hV1.rd hF2
       obtain ⟨q0, q1, q2, q3, q4, a0, a1, a2, a3, a4, fz, hlt1⟩ := hV2.cells
       go_wp2_with fail
       refine bodyPost_ret (v := .agg #[.int .i64 0, .int .i64 0, .string ⟨#[]⟩, .slice none 0 0, .slice none 0 0]) (by simp [results, Tryz.results180, go_sem, a0, a1, a2, a3, a4]) rfl ?_
       exact ⟨_, rfl, RJ.zero _ _, hR2.setV (by omega) _ _ _ _ _, (((Fr.refl.alloc _).trans' hF1).trans' hF2).setV (Nat.le_refl _) _ _ _ _ _⟩
     | false =>
       simp only [Bool.false_eq_true, if_false]
       have hfn := fun q W hq hR hgW => fn_c f ih d hd0 hd1 hdf' r q c l W hq hR hgW (by omega)
       generalize sRead (sValue f (d + 1)) d c ⟨c :: l, false⟩ = G at *
       obtain ⟨j, st⟩ := G
       have Hfn := Lib.hid hfn
       clear hfn
       go_enter Tryz.func180, Tryz.ntmps180
       go_wp2_with fail
       refine (blanks_c r s false d _ (h.alloc _)).mono ?_
       rintro e w1 ⟨rfl, hR1, hF1⟩
       rw [hs] at hR1
       have hV1 := (VB.new w _ _ _ _ _).rd hF1
       have hg1 := (hg.alloc _).rd (h.alloc _) hF1
       obtain ⟨c0, c1, c2, f1, hr1⟩ := hR1.cells
       go_wp2_with fail
       refine (read_c r c w1).mono ?_
       rintro e w2 ⟨rfl, rfl⟩
       obtain ⟨g, a, b, hfn, hent, hcall⟩ := Hfn.out w1.heap.size _ (heap_alloc_new w1 _) (hR1.alloc _) (hg1.alloc _)
       have Hcall := Lib.hid hcall
       clear hcall
       rw [hfn]
       go_wp2_with fail
       refine Hcall.out.mono ?_
       rintro e w3 ⟨v, rfl, hj, hR3, hF3⟩
       have hV3 := (hV1.fr (Fr.refl.alloc (M := NoB) _) (fun _ _ h => h)).rd hF3
       obtain ⟨q0, q1, q2, q3, q4, a0, a1, a2, a3, a4, fz, hlt1⟩ := hV3.cells
       obtain ⟨jk, jn, jt, jl, jp⟩ := j
       have hjv := hj
       unfold RJ at hjv
       obtain ⟨x1, n1, x2, n2, rfl, _, _⟩ := hjv
       have Hj := Lib.hid hj
       clear hj
       have hs1 := hF1.size
       have hs3 := hF3.size
       simp only [World.size_alloc] at hs1 hs3
       go_wp2_with fail
       refine bodyPost_ret (v := .agg #[.int .i64 jk, .int .i64 jn, .string ⟨jt.toArray⟩, .slice x1 jl.length n1, .slice x2 jp.length n2]) (by simp [results, Tryz.results180, go_sem, a0, a1, a2, a3, a4]) rfl ?_
       refine ⟨_, rfl, RJ.kp (fun b o hb ho _ => ⟨?_, (setV_fr _ _ _ _ _ _ _).block b o ho ?_⟩) _ _ Hj.out, hR3.setV (by omega) _ _ _ _ _, ((((Fr.refl.alloc _).trans' hF1).alloc _).trans' hF3).setV (Nat.le_refl _) _ _ _ _ _⟩
       ·simp only [World.size_alloc] at hb; omega
       ·simp only [World.size_alloc] at hb; omega
end Go.Proofs.YtcddlemkimbkcaaGreatDoor
