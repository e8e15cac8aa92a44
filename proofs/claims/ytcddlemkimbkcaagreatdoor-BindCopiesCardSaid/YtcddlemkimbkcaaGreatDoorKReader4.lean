/-
 The walks of json's reader, further: numbers.
-/
import Derived.Test.YtcddlemkimbkcaaGreatDoorKReader3
import Derived.Test.YtcddlemkimbkcaaGreatDoorKCellRows
namespace Go.Proofs.YtcddlemkimbkcaaGreatDoor
set_option linter.unusedVariables false
set_option linter.unusedSimpArgs false
set_option linter.unusedSectionVars false
open Go.RowKit
attribute [local instance] oldZero

theorem sDigits_bound : ∀ (s : Bs) (n k : Nat), n ≤ 90071992547409919 → (sDigits n k s).1 ≤ 90071992547409919 ∧ (sDigits n k s).2.1 ≤ k + s.length ∧ (sDigits n k s).2.2.length ≤ s.length := by
 intro s
 induction s with
 | nil => intro n k h; exact ⟨h, Nat.le_refl _, Nat.le_refl _⟩
 | cons x l ih =>
   intro n k h
   unfold sDigits
   split
   ·split
    ·have := ih (10 * n + (x.toNat - 48)) (k + 1) (by omega)
     exact ⟨this.1, by have := this.2.1; simp; omega, by have := this.2.2; simp; omega⟩
    ·have := ih n (k + 1) h
     exact ⟨this.1, by have := this.2.1; simp; omega, by have := this.2.2; simp; omega⟩
   ·exact ⟨h, by simp, Nat.le_refl _⟩

/-- behind k figures -/
def NumInv (r : Nat) (bad : Bool) (d : Int) (w : World) (R : Nat × Nat × Bs) (vn vk : Value) (wr : World) : Prop :=
 ∃ (n k : Nat) (s : Bs), vn = .int .i64 n ∧ vk = .int .i64 k ∧ n ≤ 90071992547409919 ∧ k + s.length ≤ 1073741824 ∧ Rd r s bad d wr ∧ Fr (MR r) w wr ∧ sDigits n k s = R

theorem zeroV : ∀ w, (zeroValue 220).run Tryz.prog w = .ok (.agg #[.int .i64 0, .int .i64 0, .string ⟨#[]⟩, .slice none 0 0, .slice none 0 0]) w := fun w => by kernel_rfl

/-- block b is a value of the call's own -/
def VB (b : Nat) (w : World) : Prop := ∃ q0 q1 q2 q3 q4, w.heap[b]? = some (.cells #[q0, q1, q2, q3, q4] 220 (0, 0))
theorem VB.lt {b : Nat} {w : World} (h : VB b w) : b < w.heap.size := by obtain ⟨_, _, _, _, _, h⟩ := h; exact get_lt h
theorem VB.cells {b : Nat} {w : World} (h : VB b w) : ∃ q0 q1 q2 q3 q4, w.cell? ⟨b, 0, none⟩ = some q0 ∧ w.cell? ⟨b, 1, none⟩ = some q1 ∧ w.cell? ⟨b, 2, none⟩ = some q2 ∧ w.cell? ⟨b, 3, none⟩ = some q3 ∧ w.cell? ⟨b, 4, none⟩ = some q4 ∧ (∀ o, w.frozen? ⟨b, o, none⟩ = false) ∧ b < w.heap.size := by
 have hl := h.lt
 obtain ⟨q0, q1, q2, q3, q4, h⟩ := h
 refine ⟨q0, q1, q2, q3, q4, ?_, ?_, ?_, ?_, ?_, ?_, hl⟩ <;> simp [World.cell?, World.frozen?, h]
theorem VB.fr {M : Nat → Obj → Prop} {b : Nat} {w w' : World} (h : VB b w) (hF : Fr M w w') (hM : ∀ o, OfTy 220 o → ¬ M b o) : VB b w' := by
 obtain ⟨q0, q1, q2, q3, q4, h⟩ := h
 exact ⟨q0, q1, q2, q3, q4, hF.block _ _ h (hM _ ⟨_, _, rfl⟩)⟩
theorem VB.rd {b r : Nat} {w w' : World} (h : VB b w) (hF : Fr (MR r) w w') : VB b w' :=
 h.fr hF (fun o ho hm => by
  obtain ⟨_, c, f, h1⟩ := hm
  obtain ⟨c', f', h2⟩ := ho
  rw [h1] at h2
  simp at h2)
theorem VB.new (w : World) (q0 q1 q2 q3 q4 : Value) : VB w.heap.size (w.alloc (.cells #[q0, q1, q2, q3, q4] 220)) := ⟨q0, q1, q2, q3, q4, heap_alloc_new w _⟩
/-- a value stored whole -/
def setV (b : Nat) (v0 v1 v2 v3 v4 : Value) (w : World) : World :=
 ((((w.setCell ⟨b, 0, none⟩ v0).setCell ⟨b, 1, none⟩ v1).setCell ⟨b, 2, none⟩ v2).setCell ⟨b, 3, none⟩ v3).setCell ⟨b, 4, none⟩ v4
theorem VB.setV {b : Nat} {w : World} (h : VB b w) (v0 v1 v2 v3 v4 : Value) : (setV b v0 v1 v2 v3 v4 w).heap[b]? = some (.cells #[v0, v1, v2, v3, v4] 220 (0, 0)) := by
 obtain ⟨q0, q1, q2, q3, q4, h⟩ := h
 simp [Go.Proofs.YtcddlemkimbkcaaGreatDoor.setV, World.setCell, Array.getElem?_modify, h]
theorem Fr.setV {M : Nat → Obj → Prop} {b : Nat} {w w1 : World} (h : Fr M w w1) (hb : w.heap.size ≤ b) (v0 v1 v2 v3 v4 : Value) : Fr M w (setV b v0 v1 v2 v3 v4 w1) :=
 ((((h.setNew _ _ hb).setNew _ _ hb).setNew _ _ hb).setNew _ _ hb).setNew _ _ hb
theorem Rd.setV {r b : Nat} {s : Bs} {bad : Bool} {d : Int} {w : World} (h : Rd r s bad d w) (hb : r ≠ b) (v0 v1 v2 v3 v4 : Value) : Rd r s bad d (setV b v0 v1 v2 v3 v4 w) :=
 ((((h.other _ hb).other _ hb).other _ hb).other _ hb).other _ hb

set_option maxRecDepth 100000 in
set_option maxHeartbeats 4000000 in
theorem number_c (r : Nat) (x : UInt8) (l : Bs) (bad : Bool) (d : Int) (w : World) (h : Rd r (x :: l) bad d w) (hlen : (x :: l).length ≤ 1073741824) :
 Calls Tryz.prog 264 #[.pointer (some ⟨r, 0, none⟩)] w fun e w' => ∃ v, e = .returned v ∧ RJ (fun k => w.heap.size ≤ k) w' (sNumber ⟨x :: l, bad⟩).1 v ∧ Rd r (sNumber ⟨x :: l, bad⟩).2.s (sNumber ⟨x :: l, bad⟩).2.bad d w' ∧ Fr (MR r) w w' := by
 obtain ⟨c0, c1, c2, f1, hr1⟩ := h.cells
 have hx := Lib.hid (extract_drop (x :: l) 1 (l.length + 1) (by simp))
 -- the sign
 obtain ⟨m, s1, hm, hs1, hsp, hl1⟩ : ∃ (m : Bool) (s1 : Bs), ((x.toNat : Int) == 45) = m ∧ (s1 = if m then l else x :: l) ∧ sNumber ⟨x :: l, bad⟩ = sNumAt m bad s1 ∧ s1.length ≤ 1073741824 := by
  by_cases h45 : x = 45
  ·refine ⟨true, l, by rw [h45]; rfl, rfl, by simp [sNumber, h45], by simp at hlen; omega⟩
  ·refine ⟨false, x :: l, ?_, rfl, by simp [sNumber, h45], hlen⟩
   rw [beq_eq_false_iff_ne]
   intro e
   exact h45 (UInt8.toNat_inj.1 (by simp; omega))
 rw [hsp]
 clear hsp
 have hpre : ∀ W, (W = (if m then w.setCell ⟨r, 0, none⟩ (.string ⟨l.toArray⟩) else w).alloc (.cells #[.int .i64 0, .int .i64 0, .string ⟨#[]⟩, .slice none 0 0, .slice none 0 0] 220)) → Rd r s1 bad d W ∧ VB w.heap.size W ∧ Fr (MR r) w W := by
  rintro W rfl
  cases m
  ·simp only [Bool.false_eq_true, if_false] at hs1 ⊢
   subst hs1
   exact ⟨h.alloc _, VB.new w _ _ _ _ _, Fr.refl.alloc _⟩
  ·simp only [if_true] at hs1 ⊢
   subst hs1
   have := VB.new (w.setCell ⟨r, 0, none⟩ (.string ⟨s1.toArray⟩)) (.int .i64 0) (.int .i64 0) (.string ⟨#[]⟩) (.slice none 0 0) (.slice none 0 0)
   rw [World.size_setCell] at this
   exact ⟨(h.set0 _).alloc _, this, (Fr.refl.setCell _ _ h.one).alloc _⟩
 have Hpre := Lib.hid hpre
 clear hpre hs1
 generalize hG : sNumAt m bad s1 = G
 have HG := Lib.hid hG
 clear hG
 cases m
 all_goals
  have hp := Hpre.out
  simp only [Bool.false_eq_true, if_false, if_true] at hp
  obtain ⟨hR1, hV1, hF1⟩ := hp _ rfl
  clear hp
  cases s1 with
  | nil =>
    go_enter Tryz.func264, Tryz.ntmps264
    go_wp2_with fail
    try rw [hx.out]
    refine (Calls_keep (fun w' => Rd r [] bad d w' ∧ VB w.heap.size w' ∧ Fr (MR r) w w') (digit_nil r bad d _ hR1) ⟨hR1, hV1, hF1⟩).mono ?_
    rintro e w1 ⟨rfl, hR2, hV2, hF2⟩
    clear hR1 hV1 hF1
    go_wp2_with fail
    refine (fail_c r _ _ d _ hR2).mono ?_
    rintro e w2 ⟨rfl, hR3, hF3⟩
    have hV3 := hV2.rd hF3
    obtain ⟨q0, q1, q2, q3, q4, a0, a1, a2, a3, a4, fz, hlt⟩ := hV3.cells
    go_wp2_with fail
    refine bodyPost_ret (v := .agg #[.int .i64 0, .int .i64 0, .string ⟨#[]⟩, .slice none 0 0, .slice none 0 0]) (by simp [results, Tryz.results264, go_sem, a0, a1, a2, a3, a4]) rfl ?_
    have hG := HG.out
    simp only [sNumAt] at hG
    subst hG
    have hne : r ≠ w.heap.size := by omega
    exact ⟨_, rfl, RJ.zero _ _, hR3.setV hne _ _ _ _ _, (hF2.trans' hF3).setV (Nat.le_refl _) _ _ _ _ _⟩
  | cons y s2 =>
    by_cases hy : 48 ≤ y.toNat ∧ y.toNat ≤ 57
    ·have hyd : decide (48 ≤ y.toNat ∧ y.toNat ≤ 57) = true := by simpa using hy
     generalize hD : sDigits 0 0 (y :: s2) = D
     have HD := Lib.hid hD
     have hDb := sDigits_bound (y :: s2) 0 0 (by omega)
     rw [hD] at hDb
     clear hD
     obtain ⟨z, hz⟩ : ∃ z : Bool, ((y.toNat : Int) == 48) = z := ⟨_, rfl⟩
     have hzy : Hid (decide (y = 48) = z) := by
      unfold Hid
      rw [← hz, Bool.eq_iff_iff, decide_eq_true_eq, beq_iff_eq]
      exact ⟨fun e => by rw [e]; rfl, fun e => UInt8.toNat_inj.1 (by simp; omega)⟩
     have hend := HG.out
     simp only [sNumAt, hy, and_self, if_true, HD.out, hzy.out] at hend
     have Hend := Lib.hid hend
     clear hend hy
     go_enter Tryz.func264, Tryz.ntmps264
     go_wp2_with fail
     try rw [hx.out]
     refine (Calls_keep (fun w' => Rd r (y :: s2) bad d w' ∧ VB w.heap.size w' ∧ Fr (MR r) w w') (digit_cons r y s2 bad d _ hR1) ⟨hR1, hV1, hF1⟩).mono ?_
     rintro e w1 ⟨rfl, hR2, hV2, hF2⟩
     rw [hyd]
     clear hR1 hV1 hF1 c0 c1 c2 f1
     obtain ⟨c0, c1, c2, f1, hr2⟩ := hR2.cells
     go_wp2_with fail
     go_loopg [5, 6] ((y :: s2).length + 1) (fun g vn vk wr => ∃ (n k : Nat) (s : Bs), vn = .int .i64 n ∧ vk = .int .i64 k ∧ n ≤ 90071992547409919 ∧ k + s.length ≤ 1073741824 ∧ Rd r s bad d wr ∧ VB w.heap.size wr ∧ Fr (MR r) w wr ∧ Hid (sDigits n k s = D) ∧ s.length < g)
     case atStart => exact ⟨0, 0, y :: s2, rfl, rfl, by omega, by simpa using hl1, hR2, hV2, hF2, HD, by simp⟩
     case round =>
      obtain ⟨n, k, s, rfl, rfl, hn, hk, hR, hV, hF, hS, hg⟩ := hrel
      clear hR2 hV2 hF2 c0 c1 c2 f1 hr2
      obtain ⟨c0, c1, c2, f1, hr2⟩ := hR.cells
      by_cases hd : ∃ a s', s = a :: s' ∧ 48 ≤ a.toNat ∧ a.toNat ≤ 57
      ·obtain ⟨a, s', hs', ha⟩ := hd
       subst hs'
       generalize s' = s at *
       have had : decide (48 ≤ a.toNat ∧ a.toNat ≤ 57) = true := by simpa using ha
       have hxa := Lib.hid (extract_drop (a :: s) 1 (s.length + 1) (by simp))
       have hS2 := hS.out
       simp only [sDigits, ha, and_self, if_true] at hS2
       obtain ⟨ha1, ha2⟩ := ha
       have hsl : (a :: s).length = s.length + 1 := rfl
       rw [hsl] at hg hk
       clear hS hsl
       rcases Nat.lt_or_ge 9007199254740991 n with hbig | hbig
       ·have hbb : decide ((n : Int) ≤ 9007199254740991) = false := by simp only [decide_eq_false_iff_not]; omega
        rw [if_neg (by omega)] at hS2
        have HS2 := Lib.hid hS2
        clear hbig hS2
        ·go_wp2_with fail
         refine (Calls_keep (fun w' => Rd r (a :: s) bad d w' ∧ VB w.heap.size w' ∧ Fr (MR r) w w') (digit_cons r a s bad d _ hR) ⟨hR, hV, hF⟩).mono ?_
         rintro e w2 ⟨rfl, hR3, hV3, hF3⟩
         rw [had]
         clear hR hV hF c0 c1 c2 f1 hr2
         obtain ⟨c0, c1, c2, f1, hr2⟩ := hR3.cells
         go_wp2_with fail
         go_roundg (gk - 1)
         case measure => omega
         case rel =>
          rw [hxa.out]
          have hF4 : Fr (MR r) w2 (w2.setCell ⟨r, 0, none⟩ (.string ⟨s.toArray⟩)) := Fr.refl.setCell _ _ hR3.one
          exact ⟨n, k + 1, s, rfl, by go_num, hn, by omega, hR3.set0 _, hV3.rd hF4, hF3.trans' hF4, HS2, by omega⟩
       ·have hbb : decide ((n : Int) ≤ 9007199254740991) = true := by simp only [decide_eq_true_eq]; omega
        rw [if_pos hbig] at hS2
        have HS2 := Lib.hid hS2
        have hn' : (n : Int) ≤ 9007199254740991 := by omega
        have Hbig := Lib.hid hbig
        clear hS2 hbig
        ·go_wp2_with fail
         refine (Calls_keep (fun w' => Rd r (a :: s) bad d w' ∧ VB w.heap.size w' ∧ Fr (MR r) w w') (digit_cons r a s bad d _ hR) ⟨hR, hV, hF⟩).mono ?_
         rintro e w2 ⟨rfl, hR3, hV3, hF3⟩
         rw [had]
         clear hR hV hF c0 c1 c2 f1 hr2
         obtain ⟨c0, c1, c2, f1, hr2⟩ := hR3.cells
         go_wp2_with fail
         go_roundg (gk - 1)
         case measure => omega
         case rel =>
          rw [hxa.out]
          have hF4 : Fr (MR r) w2 (w2.setCell ⟨r, 0, none⟩ (.string ⟨s.toArray⟩)) := Fr.refl.setCell _ _ hR3.one
          have hbig := Hbig.out
          exact ⟨10 * n + (a.toNat - 48), k + 1, s, by congr 1; omega, by go_num, by omega, by omega, hR3.set0 _, hV3.rd hF4, hF3.trans' hF4, HS2, by omega⟩
      ·have hfin : Hid (D = (n, k, s)) := by
        unfold Hid
        rw [← hS.out]
        cases s with
        | nil => rfl
        | cons a s =>
          have ha : ¬ (48 ≤ a.toNat ∧ a.toNat ≤ 57) := fun ha => hd ⟨a, s, rfl, ha⟩
          simp only [sDigits, ha, if_false]
       have hcall : Calls Tryz.prog 292 #[.pointer (some ⟨r, 0, none⟩)] wr fun e w' => e = .returned (.bool false) ∧ wr = w' := by
        cases s with
        | nil => exact digit_nil r bad d wr hR
        | cons a s =>
          have ha : ¬ (48 ≤ a.toNat ∧ a.toNat ≤ 57) := fun ha => hd ⟨a, s, rfl, ha⟩
          have had : decide (48 ≤ a.toNat ∧ a.toNat ≤ 57) = false := by simpa using ha
          have := digit_cons r a s bad d wr hR
          rw [had] at this
          exact this
       have Hcall := Lib.hid hcall
       clear hcall hd hS
       have hbad : ∃ b1 b2 : Bool, decide ((9007199254740991 : Int) < n) = b1 ∧ decide ((1 : Int) < k) = b2 := ⟨_, _, rfl, rfl⟩
       obtain ⟨b1, b2, hb1, hb2⟩ := hbad
       have hend := Hend.out
       rw [hfin.out] at hend
       have e1 : decide (9007199254740991 < n) = b1 := by rw [← hb1, Bool.eq_iff_iff]; simp only [decide_eq_true_eq]; omega
       have e2 : decide (1 < k) = b2 := by rw [← hb2, Bool.eq_iff_iff]; simp only [decide_eq_true_eq]; omega
       simp only [e1, e2] at hend
       have Hend2 := Lib.hid hend
       clear hend e1 e2
       cases b1 <;> cases z <;> cases b2
       all_goals
        go_wp2_with fail
        refine (Calls_keep (fun w' => Rd r s bad d w' ∧ VB w.heap.size w' ∧ Fr (MR r) w w') Hcall.out ⟨hR, hV, hF⟩).mono ?_
        rintro e w2 ⟨rfl, hR3, hV3, hF3⟩
        have hne : r ≠ w.heap.size := by omega
        obtain ⟨q0, q1, q2, q3, q4, a0, a1, a2, a3, a4, fz, hlt⟩ := hV3.cells
        go_wp2_with fail
        first
         | (refine (fail_c r _ _ d _ hR3).mono ?_; rintro e w4 ⟨rfl, hR4, hF4⟩; have hV4 := hV3.rd hF4; (obtain ⟨q0, q1, q2, q3, q4, a0, a1, a2, a3, a4, fz, hlt⟩ := hV4.cells; go_wp2_with fail; (first | (refine bodyPost_ret (v := .agg #[.int .i64 2, .int .i64 (n : Int), .string ⟨#[]⟩, .slice none 0 0, .slice none 0 0]) ?_ rfl ?_; focus (simp [results, Tryz.results264, go_sem, a0, a1, a2, a3, a4]; done)) | (refine bodyPost_ret (v := .agg #[.int .i64 2, .int .i64 (-(n : Int)), .string ⟨#[]⟩, .slice none 0 0, .slice none 0 0]) ?_ rfl ?_; focus (simp [results, Tryz.results264, go_sem, a0, a1, a2, a3, a4]; done))); have hG := Hend2.out; simp at hG; subst hG; exact ⟨_, rfl, RJ.flat _ _ _ _ [], hR4.setV hne _ _ _ _ _, (hF3.trans' hF4).setV (Nat.le_refl _) _ _ _ _ _⟩))
         | ((first | (refine bodyPost_ret (v := .agg #[.int .i64 2, .int .i64 (n : Int), .string ⟨#[]⟩, .slice none 0 0, .slice none 0 0]) ?_ rfl ?_; focus (simp [results, Tryz.results264, go_sem, a0, a1, a2, a3, a4]; done)) | (refine bodyPost_ret (v := .agg #[.int .i64 2, .int .i64 (-(n : Int)), .string ⟨#[]⟩, .slice none 0 0, .slice none 0 0]) ?_ rfl ?_; focus (simp [results, Tryz.results264, go_sem, a0, a1, a2, a3, a4]; done))); have hG := Hend2.out; simp at hG; subst hG; exact ⟨_, rfl, RJ.flat _ _ _ _ [], hR3.setV hne _ _ _ _ _, (hF3).setV (Nat.le_refl _) _ _ _ _ _⟩)
    ·have hyd : decide (48 ≤ y.toNat ∧ y.toNat ≤ 57) = false := by simpa using hy
     have hend := HG.out
     simp only [sNumAt, hy, if_false] at hend
     have Hend := Lib.hid hend
     clear hend hy
     go_enter Tryz.func264, Tryz.ntmps264
     go_wp2_with fail
     try rw [hx.out]
     refine (Calls_keep (fun w' => Rd r (y :: s2) bad d w' ∧ VB w.heap.size w' ∧ Fr (MR r) w w') (digit_cons r y s2 bad d _ hR1) ⟨hR1, hV1, hF1⟩).mono ?_
     rintro e w1 ⟨rfl, hR2, hV2, hF2⟩
     rw [hyd]
     clear hR1 hV1 hF1
     go_wp2_with fail
     refine (fail_c r _ _ d _ hR2).mono ?_
     rintro e w2 ⟨rfl, hR3, hF3⟩
     have hV3 := hV2.rd hF3
     obtain ⟨q0, q1, q2, q3, q4, a0, a1, a2, a3, a4, fz, hlt⟩ := hV3.cells
     go_wp2_with fail
     refine bodyPost_ret (v := .agg #[.int .i64 0, .int .i64 0, .string ⟨#[]⟩, .slice none 0 0, .slice none 0 0]) (by simp [results, Tryz.results264, go_sem, a0, a1, a2, a3, a4]) rfl ?_
     have hG := Hend.out
     subst hG
     have hne : r ≠ w.heap.size := by omega
     exact ⟨_, rfl, RJ.zero _ _, hR3.setV hne _ _ _ _ _, (hF2.trans' hF3).setV (Nat.le_refl _) _ _ _ _ _⟩
end Go.Proofs.YtcddlemkimbkcaaGreatDoor
