/-
 The walks of json's reader, further: signs by figures, escapes, texts.
-/
import Derived.Test.YtcddlemkimbkcaaGreatDoorKReader
import Derived.Deep.LoopGhost
namespace Go.Proofs.YtcddlemkimbkcaaGreatDoor
set_option linter.unusedVariables false
set_option linter.unusedSimpArgs false
set_option linter.unusedSectionVars false
open Go.RowKit
variable [OldK]

theorem sHex_lt : ∀ (k n m : Nat) (st : St), n < 16 ^ m → (sHex k n st).1 < 16 ^ (m + k) := by
 intro k
 induction k with
 | zero => intro n m st h; simpa [sHex] using h
 | succ k ih =>
   intro n m st h
   have hp : 0 < 16 ^ (m + (k + 1)) := Nat.pow_pos (by decide)
   unfold sHex
   split
   ·exact hp
   ·split
    ·rename_i x l hs ov v hv
     have hv' : v < 16 := by
      unfold hexOf at hv
      split at hv
      ·simp at hv; omega
      ·split at hv
       ·simp at hv; omega
       ·simp at hv
     have := ih (16 * n + v) (m + 1) ⟨l, st.bad⟩ (by rw [Nat.pow_succ]; omega)
     rw [show m + (k + 1) = m + 1 + k by omega]
     exact this
    ·exact hp

set_option maxRecDepth 100000 in
set_option maxHeartbeats 1000000 in
theorem sign_c (r : Nat) (s : Bs) (bad : Bool) (d : Int) (w : World) (h : Rd r s bad d w) :
 Calls Tryz.prog 298 #[.pointer (some ⟨r, 0, none⟩)] w fun e w' => e = .returned (.int .i32 (sSign ⟨s, bad⟩).1) ∧ Rd r (sSign ⟨s, bad⟩).2.s (sSign ⟨s, bad⟩).2.bad d w' ∧ Fr (MR r) w w' := by
 have hlt := sHex_lt 4 0 0 ⟨s, bad⟩ (by decide)
 unfold sSign
 have hc := hex_c r s bad d w h
 generalize sHex 4 0 ⟨s, bad⟩ = G at *
 obtain ⟨n, s1, b1⟩ := G
 simp only at hlt hc ⊢
 have hn : n < 65536 := hlt
 clear hlt
 have Hc := Lib.hid hc
 clear hc
 by_cases h1 : n < 55296 ∨ 57344 ≤ n
 ·rw [if_pos h1]
  rcases h1 with h1 | h1
  all_goals
   have h1' : (n : Int) < 55296 ∨ ¬ (n : Int) < 55296 := by omega
   go_enter Tryz.func298, Tryz.ntmps298
   go_wp2_with fail
   refine Hc.out.mono ?_
   rintro e w1 ⟨rfl, hR1, hF1⟩
   go_wp2_with fail
   go_ret
   exact ⟨rfl, hR1, hF1⟩
 ·rw [if_neg h1]
  have h2 : decide ((n : Int) < 55296) = false := by simp; omega
  have h3 : decide ((57344 : Int) ≤ n) = false := by simp; omega
  have hn2 : (55296 : Int) ≤ n ∧ (n : Int) < 57344 := by omega
  have Hn2 := Lib.hid hn2
  clear h1 hn2
  by_cases h4 : 56320 ≤ n
  ·rw [if_pos h4]
   have h4' : decide ((56320 : Int) ≤ n) = true := by simp; omega
   clear h4
   have H := Lib.hid hn
   clear hn
   go_enter Tryz.func298, Tryz.ntmps298
   go_wp2_with fail
   refine Hc.out.mono ?_
   rintro e w1 ⟨rfl, hR1, hF1⟩
   go_wp2_with fail
   refine (fail_c r _ _ d _ hR1).mono ?_
   rintro e w2 ⟨rfl, hR2, hF2⟩
   go_wp2_with fail
   go_ret
   exact ⟨rfl, hR2, hF1.trans' hF2⟩
  ·rw [if_neg h4]
   have h4' : decide ((56320 : Int) ≤ n) = false := by simp; omega
   clear h4
   generalize hM : sMust [92, 117] ⟨s1, b1⟩ = M
   have HM := Lib.hid hM
   clear hM
   obtain ⟨s2, b2⟩ := M
   have hlt := sHex_lt 4 0 0 ⟨s2, b2⟩ (by decide)
   generalize hG2 : sHex 4 0 ⟨s2, b2⟩ = G2
   have HG2 := Lib.hid hG2
   rw [hG2] at hlt
   clear hG2
   obtain ⟨low, s3, b3⟩ := G2
   simp only at hlt ⊢
   have hl : low < 65536 := hlt
   clear hlt
   have key : ∀ w1, Rd r s1 b1 d w1 → Fr (MR r) w w1 → Calls Tryz.prog 257 #[.pointer (some ⟨r, 0, none⟩), .string ⟨#[92, 117]⟩] w1 fun e w' => e = .returned (.tuple #[]) ∧ Rd r s2 b2 d w' ∧ Fr (MR r) w w' := by
    intro w1 hR1 hF1
    refine (must_c r s1 [92, 117] b1 d w1 hR1).mono ?_
    rintro e w2 ⟨rfl, hR2, hF2⟩
    rw [HM.out] at hR2
    exact ⟨rfl, hR2, hF1.trans' hF2⟩
   have key2 : ∀ w1, Rd r s2 b2 d w1 → Fr (MR r) w w1 → Calls Tryz.prog 301 #[.pointer (some ⟨r, 0, none⟩)] w1 fun e w' => e = .returned (.int .i32 low) ∧ Rd r s3 b3 d w' ∧ Fr (MR r) w w' := by
    intro w1 hR1 hF1
    refine (hex_c r s2 b2 d w1 hR1).mono ?_
    rintro e w2 ⟨rfl, hR2, hF2⟩
    rw [HG2.out] at hR2 ⊢
    exact ⟨rfl, hR2, hF1.trans' hF2⟩
   have Key := Lib.hid key
   have Key2 := Lib.hid key2
   clear key key2
   by_cases h5 : b3 = true ∨ low < 56320 ∨ 57344 ≤ low
   ·rw [if_pos h5]
    have h6 : b3 = true ∨ (b3 = false ∧ decide ((low : Int) < 56320) = true) ∨ (b3 = false ∧ decide ((low : Int) < 56320) = false ∧ decide ((57344 : Int) ≤ low) = true) := by
     cases b3 <;> simp at h5 ⊢ <;> omega
    clear h5
    have Hn := Lib.hid hn
    have Hl := Lib.hid hl
    clear hn hl
    rcases h6 with rfl | ⟨rfl, h6⟩ | ⟨rfl, h6, h7⟩
    all_goals
     go_enter Tryz.func298, Tryz.ntmps298
     go_wp2_with fail
     refine Hc.out.mono ?_
     rintro e w1 ⟨rfl, hR1, hF1⟩
     go_wp2_with fail
     refine (Key.out _ hR1 hF1).mono ?_
     rintro e w2 ⟨rfl, hR2, hF2⟩
     go_wp2_with fail
     refine (Key2.out _ hR2 hF2).mono ?_
     rintro e w3 ⟨rfl, hR3, hF3⟩
     obtain ⟨c0, c1, c2, f1, hr1⟩ := hR3.cells
     go_wp2_with fail
     refine (fail_c r _ _ d _ hR3).mono ?_
     rintro e w4 ⟨rfl, hR4, hF4⟩
     go_wp2_with fail
     go_ret
     exact ⟨rfl, hR4, hF3.trans' hF4⟩
   ·rw [if_neg h5]
    obtain ⟨rfl, h6, h7⟩ : b3 = false ∧ decide ((low : Int) < 56320) = false ∧ decide ((57344 : Int) ≤ low) = false := by
     cases b3 <;> simp at h5 ⊢ <;> omega
    clear h5
    have hl0 : (0 : Int) ≤ low := by omega
    have hl1 : (low : Int) < 65536 := by omega
    have hn1 : (n : Int) < 65536 := by omega
    have Hn := Lib.hid hn
    have Hl := Lib.hid hl
    clear hn hl
    go_enter Tryz.func298, Tryz.ntmps298
    go_wp2_with fail
    refine Hc.out.mono ?_
    rintro e w1 ⟨rfl, hR1, hF1⟩
    go_wp2_with fail
    refine (Key.out _ hR1 hF1).mono ?_
    rintro e w2 ⟨rfl, hR2, hF2⟩
    go_wp2_with fail
    refine (Key2.out _ hR2 hF2).mono ?_
    rintro e w3 ⟨rfl, hR3, hF3⟩
    obtain ⟨c0, c1, c2, f1, hr1⟩ := hR3.cells
    go_wp2_with fail
    go_ret
    have hn2 := Hn2.out
    simp at h4' h6 h7
    exact ⟨ret_int (by omega), hR3, hF3⟩

theorem ne_int {c : UInt8} {k : Nat} (h : c ≠ UInt8.ofNat k) : ((c.toNat : Int) == (k : Int)) = false := by
 rw [beq_eq_false_iff_ne]
 intro e
 apply h
 have e : c.toNat = k := by omega
 rw [← e]; simp

set_option maxHeartbeats 1000000 in
theorem escape_c (r : Nat) (s : Bs) (bad : Bool) (d : Int) (w : World) (h : Rd r s bad d w) :
 Calls Tryz.prog 287 #[.pointer (some ⟨r, 0, none⟩)] w fun e w' => e = .returned (.int .i32 (sEscape ⟨s, bad⟩).1) ∧ Rd r (sEscape ⟨s, bad⟩).2.s (sEscape ⟨s, bad⟩).2.bad d w' ∧ Fr (MR r) w w' := by
 obtain ⟨c0, c1, c2, f1, hr1⟩ := h.cells
 cases s with
 | nil =>
   simp only [sEscape]
   go_enter Tryz.func287, Tryz.ntmps287
   go_wp2_with fail
   refine (fail_c r _ _ d _ h).mono ?_
   rintro e w1 ⟨rfl, hR1, hF1⟩
   go_wp2_with fail
   go_ret
   exact ⟨rfl, hR1, hF1⟩
 | cons c l =>
   have hx := Lib.hid (extract_drop (c :: l) 1 (l.length + 1) (by simp))
   have hset : Hid (Rd r l bad d (w.setCell ⟨r, 0, none⟩ (.string ⟨(List.drop 1 (c :: l)).toArray⟩))) := h.set0 l
   have hF : Fr (MR r) w (w.setCell ⟨r, 0, none⟩ (.string ⟨(List.drop 1 (c :: l)).toArray⟩)) := Fr.refl.setCell _ _ h.one
   by_cases hp : c = 34 ∨ c = 92 ∨ c = 47 ∨ c = 98 ∨ c = 102 ∨ c = 110 ∨ c = 114 ∨ c = 116
   ·rcases hp with rfl | rfl | rfl | rfl | rfl | rfl | rfl | rfl
    all_goals
     simp only [sEscape, plainEsc]
     go_enter Tryz.func287, Tryz.ntmps287
     go_wp2_with fail
     go_ret
     rw [hx.out]
     exact ⟨by simp, hset.out, hF⟩
   ·have h34 : c ≠ 34 := fun e => hp (by simp [e])
    have h92 : c ≠ 92 := fun e => hp (by simp [e])
    have h47 : c ≠ 47 := fun e => hp (by simp [e])
    have h98 : c ≠ 98 := fun e => hp (by simp [e])
    have h102 : c ≠ 102 := fun e => hp (by simp [e])
    have h110 : c ≠ 110 := fun e => hp (by simp [e])
    have h114 : c ≠ 114 := fun e => hp (by simp [e])
    have h116 : c ≠ 116 := fun e => hp (by simp [e])
    by_cases h117 : c = 117
    ·subst h117
     have hs : sEscape ⟨117 :: l, bad⟩ = sSign ⟨l, bad⟩ := by simp [sEscape, plainEsc]
     rw [hs]
     clear hs hp h34 h92 h47 h98 h102 h110 h114 h116
     go_enter Tryz.func287, Tryz.ntmps287
     go_wp2_with fail
     rw [hx.out]
     refine (sign_c r l bad d _ hset.out).mono ?_
     rintro e w1 ⟨rfl, hR1, hF1⟩
     go_wp2_with fail
     go_ret
     exact ⟨rfl, hR1, hF.trans' hF1⟩
    ·have hs : sEscape ⟨c :: l, bad⟩ = (0, ⟨l, true⟩) := by simp [sEscape, plainEsc, *]
     rw [hs]
     have e34 : ((c.toNat : Int) == 34) = false := ne_int h34
     have e92 : ((c.toNat : Int) == 92) = false := ne_int h92
     have e47 : ((c.toNat : Int) == 47) = false := ne_int h47
     have e98 : ((c.toNat : Int) == 98) = false := ne_int h98
     have e102 : ((c.toNat : Int) == 102) = false := ne_int h102
     have e110 : ((c.toNat : Int) == 110) = false := ne_int h110
     have e114 : ((c.toNat : Int) == 114) = false := ne_int h114
     have e116 : ((c.toNat : Int) == 116) = false := ne_int h116
     have e117 : ((c.toNat : Int) == 117) = false := ne_int h117
     clear hs hp h34 h92 h47 h98 h102 h110 h114 h116 h117
     go_enter Tryz.func287, Tryz.ntmps287
     go_wp2_with fail
     rw [hx.out]
     refine (fail_c r l bad d _ hset.out).mono ?_
     rintro e w1 ⟨rfl, hR1, hF1⟩
     go_wp2_with fail
     go_ret
     exact ⟨rfl, hR1, hF.trans' hF1⟩
end Go.Proofs.YtcddlemkimbkcaaGreatDoor
namespace Go.Proofs.YtcddlemkimbkcaaGreatDoor
set_option linter.unusedVariables false
set_option linter.unusedSimpArgs false
set_option linter.unusedSectionVars false
open Go.RowKit
variable [OldK]

theorem zeroBuilder (w : World) : (zeroValue 262).run Tryz.prog w = .ok (.agg #[.pointer none, .slice none 0 0]) w := by kernel_rfl
theorem MB_old {B b r : Nat} {w : World} (hB : w.heap.size ≤ B) : ∀ k o, MB B b k o → MR r k o ∨ w.heap.size ≤ k := fun _ _ h => .inr (Nat.le_trans hB h.1)
theorem Bld.rd {b r : Nat} {l : Bs} {w w' : World} (h : Bld b b l w) (hF : Fr (MR r) w w') (hr : r < b) : Bld b b l w' :=
 h.fr hF (fun k o _ hk _ hm => by have := hm.1; omega)
theorem Rd.bld {b r : Nat} {s : Bs} {bad : Bool} {d : Int} {w w' : World} (h : Rd r s bad d w) (hF : Fr (MB b b) w w') (hr : r < b) : Rd r s bad d w' :=
 h.fr hF (fun o _ hm => by have := hm.1; omega)
theorem Gl.bld {b : Nat} {w w' : World} (h : Gl w) (hF : Fr (MB b b) w w') (hb : 3 ≤ b) : Gl w' :=
 h.fr hF (fun _ _ _ hm => Nat.le_trans hb hm.1)
theorem Gl.below {w w' : World} (h : Gl w) (hb : Below w.heap.size w w') : Gl w' := h.fr (Fr.ofBelow hb) (fun _ _ _ x => x.elim)
theorem Bld.below {b B : Nat} {l : Bs} {w w' : World} (h : Bld B b l w) (hb : Below w.heap.size w w') : Bld B b l w' := h.fr (Fr.ofBelow hb) (fun _ _ _ _ _ x => x.elim)

theorem sign_val (st : St) : (sSign st).1 ≤ 1114111 := by
 unfold sSign
 have h1 := sHex_lt 4 0 0 st (by decide)
 generalize sHex 4 0 st = G at *
 obtain ⟨n, st1⟩ := G
 simp only at h1 ⊢
 have h1 : n < 65536 := h1
 split
 ·simp only; omega
 ·split
  ·simp
  ·have h2 := sHex_lt 4 0 0 (sMust [92, 117] st1) (by decide)
   generalize sHex 4 0 (sMust [92, 117] st1) = G2 at *
   obtain ⟨low, st2⟩ := G2
   simp only at h2 ⊢
   split
   ·simp
   ·rename_i hx hy hz
    have h3 : ¬ (low < 56320 ∨ 57344 ≤ low) := fun e => hz (.inr e)
    simp only; omega
theorem escape_val (st : St) : (sEscape st).1 ≤ 1114111 := by
 unfold sEscape
 split
 ·simp
 ·split
  ·rename_i v hv
   unfold plainEsc at hv
   repeat' split at hv
   all_goals simp at hv
   all_goals (simp only; omega)
  ·split
   ·exact sign_val _
   ·simp
/-- 'text' stops after a loop's round -/
def TextInv (r b : Nat) (d : Int) (N : Nat) (w : World) (G : Bs × St) (g : Nat) (wx : World) : Prop :=
 ∃ (out : Bs) (st : St), sTextLoop g out st = G ∧ Rd r st.s st.bad d wx ∧ Bld b b out wx ∧ Gl wx ∧ Fr (MR r) w wx ∧ 1 ≤ g ∧ (st.bad = false → st.s.length + 2 ≤ g) ∧ out.length + 4 * st.s.length ≤ 4 * N

set_option maxRecDepth 100000 in
set_option maxHeartbeats 4000000 in
theorem text_c (r : Nat) (s : Bs) (bad : Bool) (d : Int) (w : World) (h : Rd r s bad d w) (hg : Gl w) (hlen : s.length ≤ 1073741824) :
 Calls Tryz.prog 261 #[.pointer (some ⟨r, 0, none⟩)] w fun e w' => e = .returned (.string ⟨(sText ⟨s, bad⟩).1.toArray⟩) ∧ Rd r (sText ⟨s, bad⟩).2.s (sText ⟨s, bad⟩).2.bad d w' ∧ Fr (MR r) w w' := by
 generalize hG : sText ⟨s, bad⟩ = G
 have HG := Lib.hid hG
 clear hG
 have hml := must_len [34] ⟨s, bad⟩
 simp only at hml
 go_enter Tryz.func261, Tryz.ntmps261
 go_wp2_with fail
 refine (must_c r s [34] bad d w h).mono ?_
 rintro e w1 ⟨rfl, hR1, hF1⟩
 have hrlt : r < w1.heap.size := hR1.lt
 have hw1 : w.heap.size ≤ w1.heap.size := hF1.size
 have hg1 : Gl w1 := hg.rd h hF1
 have hng : 3 ≤ w1.heap.size := hg1.size
 have hstart : TextInv r w1.heap.size d s.length w G (s.length + 2) (w1.alloc (.cells #[.pointer none, .slice none 0 0] 262)) :=
  ⟨[], _, HG.out, hR1.alloc _, Bld.fresh w1, hg1.alloc _, hF1.alloc _, by omega, fun _ => by omega, by simp; omega⟩
 clear hR1 hF1 hg1
 go_wp2_with fail
 go_loopg [] (s.length + 2) (fun g wx => TextInv r w1.heap.size d s.length w G g wx)
 case atStart => exact hstart
 case round =>
  clear hstart
  generalize hb : w1.heap.size = b at *
  have Hb := Lib.hid hb
  clear hb
  obtain ⟨out, st, hS, hR, hB, hgl, hF, hg1, hfu, hol⟩ := hrel
  obtain ⟨s1, b1⟩ := st
  simp only at hfu hol hR
  obtain ⟨c0, c1, c2, f1, hr1⟩ := hR.cells
  obtain ⟨g', rfl⟩ : ∃ g', gk = g' + 1 := ⟨gk - 1, by omega⟩
  cases b1 with
  | true =>
    go_wp2_with fail
    go_ret
    have hS := hS
    simp only [sTextLoop, if_true] at hS
    subst hS
    exact ⟨rfl, hR, hF⟩
  | false =>
    have hfu' := hfu rfl
    clear hfu
    have HS := Lib.hid hS
    clear hS
    go_wp2_with fail
    refine (Go.Proofs.Tryz.utf8_DecodeRuneInString ⟨s1.toArray⟩ _ hgl.utf8).mono ?_
    rintro e w2 ⟨rfl, hb2⟩
    have hR2 := hR.below hb2
    have hB2 := hB.below hb2
    have hg2 := hgl.below hb2
    have hF2 : Fr (MR r) w w2 := hF.trans (Fr.ofBelow hb2) (fun _ _ x => x.elim)
    have hdf := dec_facts s1
    have hstep : Hid (sTextLoop (g' + 1) out ⟨s1, false⟩ = G) := HS.out
    unfold Hid at hstep
    simp only [sTextLoop, sTextStep, Bool.false_eq_true, if_false] at hstep
    generalize (Lib.decodeGo ⟨s1.toArray⟩).1 = c at *
    generalize (Lib.decodeGo ⟨s1.toArray⟩).2 = size at *
    obtain ⟨hd1, hd2, hd3, hd4⟩ := hdf
    have Hd4 := Lib.hid hd4
    clear hd4 hR hB hgl hF c0 c1 c2 f1 hr1 hb2
    obtain ⟨c0, c1, c2, f1, hr1⟩ := hR2.cells
    have hx := Lib.hid (extract_drop s1 size s1.length (Nat.le_refl _))
    have hst := Lib.hid hstep
    clear hstep
    have hset : Hid (Rd r (s1.drop size) false d (w2.setCell ⟨r, 0, none⟩ (.string ⟨(s1.drop size).toArray⟩))) := hR2.set0 _
    have hFs : Fr (MR r) w2 (w2.setCell ⟨r, 0, none⟩ (.string ⟨(s1.drop size).toArray⟩)) := Fr.refl.setCell _ _ hR2.one
    have hB3 := hB2.rd hFs hrlt
    have hg3 := hg2.rd hR2 hFs
    have hF3 := hF2.trans' hFs
    have hdl : (s1.drop size).length = s1.length - size := List.length_drop
    have Hdl := Lib.hid hdl
    clear hdl hB2 hg2 hFs hR2
    by_cases hA : size = 0 ∨ c < 32 ∨ (c = 65533 ∧ size = 1)
    ·have Hst : Hid (sTextLoop g' out ⟨s1.drop size, true⟩ = G) := by
      have := hst.out
      rw [if_pos hA] at this
      exact this
     clear hst
     have hA' : ((size : Int) == 0) = true ∨ (((size : Int) == 0) = false ∧ decide ((c : Int) < 32) = true) ∨ (((size : Int) == 0) = false ∧ decide ((c : Int) < 32) = false ∧ ((c : Int) == 65533) = true ∧ ((size : Int) == 1) = true) := by
      simp only [beq_iff_eq, beq_eq_false_iff_ne, decide_eq_true_eq, decide_eq_false_iff_not]; omega
     clear hA
     rcases hA' with e0 | ⟨e0, e1⟩ | ⟨e0, e1, e2, e3⟩
     all_goals
      go_wp2_with fail
      rw [hx.out]
      refine (fail_c r _ _ d _ hset.out).mono ?_
      rintro e w3 ⟨rfl, hR4, hF4⟩
      go_wp2_with fail
      go_roundg g'
      case measure => omega
      case rel => exact ⟨out, ⟨s1.drop size, true⟩, Hst.out, hR4, hB3.rd hF4 hrlt, hg3.rd hset.out hF4, hF3.trans' hF4, by omega, by simp, by simp only [Hdl.out]; omega⟩
    ·have e0 : ((size : Int) == 0) = false := by simp only [beq_eq_false_iff_ne]; omega
     have e1 : decide ((c : Int) < 32) = false := by simp only [decide_eq_false_iff_not]; omega
     have e2 : (((c : Int) == 65533) = false) ∨ (((c : Int) == 65533) = true ∧ ((size : Int) == 1) = false) := by
      simp only [beq_iff_eq, beq_eq_false_iff_ne]; omega
     have hsz : 1 ≤ size := by omega
     by_cases h34 : c = 34
     ·have Hst : Hid ((out, ⟨s1.drop size, false⟩) = G) := by
       have := hst.out
       rw [if_neg hA, if_pos h34] at this
       exact this
      clear hst hA e2
      subst h34
      go_wp2_with fail
      refine (string_c b b out _ (by rw [hx.out]; exact hB3)).mono ?_
      rintro e w3 ⟨rfl, hF4⟩
      go_wp2_with fail
      go_ret
      have hG := Hst.out
      subst hG
      rw [hx.out] at hF4
      exact ⟨rfl, hset.out.bld hF4 hrlt, hF3.trans hF4 (MB_old (by omega))⟩
     ·by_cases h92 : c = 92
      ·have Hst : Hid (sTextLoop g' (out ++ Lib.encodeRune (sEscape ⟨s1.drop size, false⟩).1) (sEscape ⟨s1.drop size, false⟩).2 = G) := by
        have := hst.out
        rw [if_neg hA, if_neg h34, if_pos h92] at this
        exact this
       have hel : (sEscape ⟨s1.drop size, false⟩).2.s.length ≤ (s1.drop size).length := escape_len ⟨s1.drop size, false⟩
       have herl := encode_len (sEscape ⟨s1.drop size, false⟩).1
       have heb : (-2147483648 : Int) ≤ (sEscape ⟨s1.drop size, false⟩).1 ∧ ((sEscape ⟨s1.drop size, false⟩).1 : Int) ≤ 2147483647 := by have := escape_val ⟨s1.drop size, false⟩; omega
       have HE := Lib.hid (And.intro hel (And.intro herl heb))
       clear hst hA e2 h34 hel herl heb
       subst h92
       go_wp2_with fail
       rw [hx.out]
       refine (escape_c r _ _ d _ hset.out).mono ?_
       rintro e w3 ⟨rfl, hR4, hF4⟩
       go_wp2_with fail
       refine (writeRune_c b b out _ HE.out.2.2.1 HE.out.2.2.2 _ (hB3.rd hF4 hrlt) (by omega)).mono ?_
       rintro e w4 ⟨rfl, hB5, hF5⟩
       go_wp2_with fail
       go_roundg g'
       case measure => omega
       case rel =>
        obtain ⟨hel, herl, _⟩ := HE.out
        have hg4 := hg3.rd hset.out hF4
        refine ⟨_, _, Hst.out, hR4.bld hF5 hrlt, hB5, hg4.bld hF5 hng, (hF3.trans' hF4).trans hF5 (MB_old (by omega)), by omega, fun _ => ?_, ?_⟩
        ·have := Hdl.out; omega
        ·have := Hdl.out; rw [List.length_append]; omega
      ·have Hst : Hid (sTextLoop g' (out ++ Lib.encodeRune c) ⟨s1.drop size, false⟩ = G) := by
        have := hst.out
        rw [if_neg hA, if_neg h34, if_neg h92] at this
        exact this
       have herl := encode_len c
       have HE := Lib.hid herl
       have e34 : ((c : Int) == 34) = false := by simp only [beq_eq_false_iff_ne]; omega
       have e92 : ((c : Int) == 92) = false := by simp only [beq_eq_false_iff_ne]; omega
       clear hst hA h34 h92 herl
       rcases e2 with e2 | ⟨e2, e3⟩
       all_goals
        go_wp2_with fail
        refine (writeRune_c b b out _ (by omega) (by omega) _ (by rw [hx.out]; exact hB3) (by omega)).mono ?_
        rintro e w4 ⟨rfl, hB5, hF5⟩
        rw [hx.out] at hF5
        go_wp2_with fail
        go_roundg g'
        case measure => omega
        case rel =>
         have herl := HE.out
         refine ⟨_, ⟨s1.drop size, false⟩, Hst.out, hset.out.bld hF5 hrlt, hB5, hg3.bld hF5 hng, hF3.trans hF5 (MB_old (by omega)), by omega, fun _ => ?_, ?_⟩
         ·have := Hdl.out; show (s1.drop size).length + 2 ≤ g'; omega
         ·have := Hdl.out; rw [List.length_append]; show _ + 4 * (s1.drop size).length ≤ _; omega
end Go.Proofs.YtcddlemkimbkcaaGreatDoor
