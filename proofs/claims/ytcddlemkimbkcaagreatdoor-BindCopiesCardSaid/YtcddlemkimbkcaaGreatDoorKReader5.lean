/-
 The walks of json's reader, further: what stands between two signs, one behind the other.
-/
import Derived.Test.YtcddlemkimbkcaaGreatDoorKReader4
import Derived.Defers
namespace Go.Proofs.YtcddlemkimbkcaaGreatDoor
set_option linter.unusedVariables false
set_option linter.unusedSimpArgs false
set_option linter.unusedSectionVars false
open Go.RowKit
attribute [local instance] oldZero

theorem blanks_len (s : Bs) : (sBlanks s).length ≤ s.length := by
 unfold sBlanks Lib.trimLeftS
 exact List.Sublist.length_le (List.dropWhile_sublist _)
theorem eat_len {c : UInt8} {s l : Bs} (h : sEat c s = some l) : l.length + 1 ≤ s.length := by
 unfold sEat at h
 have hb := blanks_len s
 split at h
 ·simp at h
 ·rename_i x l' hx
  rw [hx] at hb
  split at h
  ·simp at h; subst h; simpa using hb
  ·simp at h

/-- what the closure of a list or an object may turn -/
def ML (r B : Nat) : Nat → Obj → Prop := fun k o => MR r k o ∨ (B ≤ k ∧ ¬ OfTy 280 o)
/-- block q holds the reader's address -/
def Bx (q r : Nat) (w : World) : Prop := w.heap[q]? = some (.cells #[.pointer (some ⟨r, 0, none⟩)] 280 (0, 0))
theorem Bx.cell {q r : Nat} {w : World} (h : Bx q r w) : w.cell? ⟨q, 0, none⟩ = some (.pointer (some ⟨r, 0, none⟩)) := by unfold Bx at h; simp [World.cell?, h]
theorem Bx.rd {q r : Nat} {w w' : World} (h : Bx q r w) (hF : Fr (MR r) w w') : Bx q r w' :=
 hF.block _ _ h (fun hm => by
  obtain ⟨_, c, f, h1⟩ := hm
  simp at h1)
theorem Bx.ml {q r B : Nat} {w w' : World} (h : Bx q r w) (hF : Fr (ML r B) w w') : Bx q r w' :=
 hF.block _ _ h (fun hm => by
  rcases hm with ⟨_, c, f, h1⟩ | ⟨_, h1⟩
  ·simp at h1
  ·exact h1 ⟨_, _, rfl⟩)
theorem Gl.ml {r B : Nat} {w w' : World} (h : Gl w) (hr : 3 ≤ r) (hB : 3 ≤ B) (hF : Fr (ML r B) w w') : Gl w' :=
 h.fr hF (fun k o _ hm => by
  rcases hm with ⟨rfl, _⟩ | ⟨h1, _⟩
  ·exact hr
  ·exact Nat.le_trans hB h1)

set_option maxHeartbeats 400000 in
theorem depth_back (u : FrameMode) (q r : Nat) (s : Bs) (bad : Bool) (d : Int) (w : World) (hq : Bx q r w) (h : Rd r s bad d w) (h0 : -1000 ≤ d) (h1 : d ≤ 1000) :
 CallsD Tryz.prog 299 #[.pointer (some ⟨q, 0, none⟩)] u w fun e u' w' => u' = u ∧ e = .returned (.tuple #[]) ∧ Rd r s bad (d - 1) w' ∧ Fr (MR r) w w' := by
 have cq := hq.cell
 obtain ⟨c0, c1, c2, f1, hr1⟩ := h.cells
 go_enter_d Tryz.func299, Tryz.ntmps299
 go_wp2
 go_end0
 exact ⟨rfl, h.set2 _, Fr.refl.setCell _ _ h.one⟩

section
variable {α : Type} (g : FuncId) (lb : Array Value) (one : St → α → St × α) (I : α → World → Prop) (sz : α → Nat) (r B N : Nat) (d : Int)
/-- what a closure must do for 'each' -/
structure OneOk : Prop where
 enters : ∀ args w, (callFunc g args).run Tryz.prog w = .ok (.enter g args) w
 keeps : ∀ a w w', I a w → Fr (MR r) w w' → I a w'
 boxes : ∀ a w o, I a w → I a (w.alloc o)
 shrinks : ∀ (st : St) (a : α), st.bad = false → (one st a).1.s.length ≤ st.s.length ∧ sz (one st a).2 = sz a + 1
 does : ∀ (s : Bs) (a : α) (w : World), Rd r s false (d + 1) w → d + 1 ≤ 8 → I a w → Gl w → B ≤ w.heap.size → sz a + s.length ≤ N →
  Calls Tryz.prog g lb w fun e w' => e = .returned (.tuple #[]) ∧ Rd r (one ⟨s, false⟩ a).1.s (one ⟨s, false⟩ a).1.bad (d + 1) w' ∧ I (one ⟨s, false⟩ a).2 w' ∧ Fr (ML r B) w w'

def EachInv (q : Nat) (w : World) (G : St × α) (shut : UInt8) (k : Nat) (wr : World) : Prop :=
 ∃ (st : St) (a : α), sLoop one shut k st a = G ∧ Rd r st.s st.bad (d + 1) wr ∧ I a wr ∧ Gl wr ∧ Bx q r wr ∧ Fr (ML r B) w wr ∧ 1 ≤ k ∧ (st.bad = false → st.s.length + 2 ≤ k ∧ d + 1 ≤ 8 ∧ sz a + st.s.length ≤ N)

variable {g lb one I sz r B N d}
theorem MR_ML : ∀ k o, MR r k o → ML r B k o := fun _ _ h => .inl h

set_option maxRecDepth 100000 in
set_option maxHeartbeats 4000000 in
theorem each_c (ok : OneOk g lb one I sz r B N d) (op shut : UInt8) (s : Bs) (bad : Bool) (a : α) (w : World) (h : Rd r s bad d w) (ha : I a w) (hg : Gl w) (hB : B ≤ w.heap.size) (hBn : 3 ≤ B)
 (hd0 : 0 ≤ d) (hd1 : d ≤ 100) (hsz : sz a + s.length ≤ N) :
 Calls Tryz.prog 288 #[.pointer (some ⟨r, 0, none⟩), .int .u8 op.toNat, .int .u8 shut.toNat, .func (.func g) #[] lb] w fun e w' =>
  e = .returned (.tuple #[]) ∧ Rd r (sEach one op shut (d + 1) ⟨s, bad⟩ a).1.s (sEach one op shut (d + 1) ⟨s, bad⟩ a).1.bad d w' ∧ I (sEach one op shut (d + 1) ⟨s, bad⟩ a).2 w' ∧ Fr (ML r B) w w' := by
 obtain ⟨c0, c1, c2, f1, hr1⟩ := h.cells
 have hrn := h.1
 -- what holds when the box is made and the depth raised
 have hW : ∀ W, W = (w.setCell ⟨r, 2, none⟩ (.int .i64 (d + 1))).alloc (.cells #[.pointer (some ⟨r, 0, none⟩)] 280) →
  Rd r s bad (d + 1) W ∧ I a W ∧ Gl W ∧ Bx w.heap.size r W ∧ Fr (ML r B) w W := by
  rintro W rfl
  have hF : Fr (MR r) w (w.setCell ⟨r, 2, none⟩ (.int .i64 (d + 1))) := Fr.refl.setCell _ _ h.one
  refine ⟨(h.set2 _).alloc _, ok.boxes _ _ _ (ok.keeps _ _ _ ha hF), (hg.rd h hF).alloc _, ?_, (hF.alloc _).mono MR_ML⟩
  have := heap_alloc_new (w.setCell ⟨r, 2, none⟩ (.int .i64 (d + 1))) (.cells #[.pointer (some ⟨r, 0, none⟩)] 280)
  rw [World.size_setCell] at this
  exact this
 obtain ⟨hR1, hI1, hg1, hq1, hF1⟩ := hW _ rfl
 clear hW
 generalize hG : sEach one op shut (d + 1) ⟨s, bad⟩ a = G
 have HG := Lib.hid hG
 clear hG
 -- the door: the depth is taken back
 have door : ∀ (u : FrameMode) (w' : World), Rd r G.1.s G.1.bad (d + 1) w' → Bx w.heap.size r w' → I G.2 w' → Fr (ML r B) w w' →
  CallsD Tryz.prog 299 #[.pointer (some ⟨w.heap.size, 0, none⟩)] u w' fun e u' w'' => u' = u ∧ e = .returned (.tuple #[]) ∧ Rd r G.1.s G.1.bad d w'' ∧ I G.2 w'' ∧ Fr (ML r B) w w'' := by
  intro u w' hR hq hI hF
  refine (depth_back u _ r _ _ (d + 1) w' hq hR (by omega) (by omega)).mono ?_
  rintro e u' w'' ⟨rfl, rfl, hR', hF'⟩
  rw [show d + 1 - 1 = d by omega] at hR'
  exact ⟨rfl, rfl, hR', ok.keeps _ _ _ hI hF', hF.trans' (hF'.mono MR_ML)⟩
 have Door := Lib.hid door
 clear door
 have hol : (sOpen op (d + 1) ⟨s, bad⟩).s.length ≤ s.length ∧ ((sOpen op (d + 1) ⟨s, bad⟩).bad = false → d + 1 ≤ 8) := by
  unfold sOpen
  cases he : sEat op s with
  | none => exact ⟨blanks_len s, by simp⟩
  | some l => exact ⟨by have := eat_len he; simp only; omega, by simp⟩
 have hE := HG.out
 unfold sEach at hE
 have HE := Lib.hid hE
 clear hE HG
 have hcase : (∃ l, sEat op s = some l ∧ d + 1 ≤ 8) ∨ (∃ l, sEat op s = some l ∧ 8 < d + 1) ∨ sEat op s = none := by
  cases sEat op s with
  | none => exact .inr (.inr rfl)
  | some l =>
    by_cases h1 : d + 1 ≤ 8
    ·exact .inl ⟨l, rfl, h1⟩
    ·exact .inr (.inl ⟨l, rfl, by omega⟩)
 have cq := hq1.cell
 obtain ⟨o2, ho2⟩ : ∃ o2, sOpen op (d + 1) ⟨s, bad⟩ = o2 := ⟨_, rfl⟩
 obtain ⟨s2, b2⟩ := o2
 have Ho2 := Lib.hid ho2
 rw [ho2] at hol
 clear ho2
 simp only at hol
 obtain ⟨hol1, hol2⟩ := hol
 rcases hcase with ⟨l, he, h8⟩ | hcase
 ·have hob : sOpen op (d + 1) ⟨s, bad⟩ = ⟨l, bad⟩ := by simp only [sOpen, he]; congr 1; simp; omega
  obtain ⟨e1, e2⟩ : l = s2 ∧ bad = b2 := by have := Ho2.out; rw [hob] at this; simpa using this
  have h8' : decide ((8 : Int) < d + 1) = false := by simp only [decide_eq_false_iff_not]; omega
  have He := Lib.hid he
  have E := Lib.hid (And.intro e1 e2)
  clear hob he e1 e2
  go_enter_defers Tryz.func288, Tryz.ntmps288
  go_wp2_with fail
  refine (eat_yes r s l bad (d + 1) op _ hR1 He.out).mono ?_
  rintro e w2 ⟨rfl, hR2, hF2⟩
  have hI2 := ok.keeps _ _ _ hI1 hF2
  have hg2 := hg1.rd hR1 hF2
  have hq2 := hq1.rd hF2
  have hF2' := hF1.trans' (hF2.mono MR_ML)
  rw [E.out.1, E.out.2] at hR2
  clear hR1 hI1 hg1 hq1 hF1 hF2 c0 c1 c2 f1 hr1 cq
  obtain ⟨c0, c1, c2, f1, hr1⟩ := hR2.cells
  have cq := hq2.cell
  cases hsh : sEat shut s2 with
  | some l2 =>
    have hG : G = (⟨l2, b2⟩, a) := by have := HE.out; rw [Ho2.out] at this; simp only [hsh] at this; exact this.symm
    have Hsh := Lib.hid hsh
    have HG := Lib.hid hG
    clear hsh hG
    go_wp2_with fail
    refine (eat_yes r s2 l2 b2 (d + 1) shut _ hR2 Hsh.out).mono ?_
    rintro e w3 ⟨rfl, hR3, hF3⟩
    go_wp2_with fail
    have hG := HG.out
    refine leaves_cons (f := 299) (args := #[.pointer (some ⟨w.heap.size, 0, none⟩)]) (by simp) (by simp [go_sem]) ?_
    refine (Door.out _ _ (by rw [hG]; exact hR3) (hq2.rd hF3) (by rw [hG]; exact ok.keeps _ _ _ hI2 hF3) (hF2'.trans' (hF3.mono MR_ML))).mono ?_
    rintro e u' w'' ⟨rfl, rfl, hR9, hI9, hF9⟩
    exact ⟨_, results_none rfl _ _ _, rfl, hR9, hI9, hF9⟩
  | none =>
    have hl : Hid (sLoop one shut (s2.length + 2) ⟨sBlanks s2, b2⟩ a = G) := by
     have := HE.out; rw [Ho2.out] at this; simp only [hsh] at this; exact this
    have Hsh := Lib.hid hsh
    clear hsh
    go_wp2_with fail
    refine (eat_no r s2 b2 (d + 1) shut _ hR2 Hsh.out).mono ?_
    rintro e w3 ⟨rfl, hR3, hF3⟩
    have hbl := blanks_len s2
    have hst : EachInv one I sz r B N d w.heap.size w G shut (s2.length + 2) w3 :=
     ⟨⟨sBlanks s2, b2⟩, a, hl.out, hR3, ok.keeps _ _ _ hI2 hF3, hg2.rd hR2 hF3, hq2.rd hF3, hF2'.trans' (hF3.mono MR_ML), by omega, fun hb => ⟨by simp only; omega, hol2 hb, by simp only; omega⟩⟩
    clear hR2 hI2 hg2 hq2 hF2' hR3 hF3 c0 c1 c2 f1 hr1 cq hbl hl hol2
    have henters := ok.enters
    go_wp2_with fail
    go_loopg [] (s2.length + 2) (fun k wr => EachInv one I sz r B N d w.heap.size w G shut k wr)
    case atStart => exact hst
    case round =>
     clear hst
     obtain ⟨⟨s3, b3⟩, a3, hS, hR3, hI3, hg3, hq3, hF3, hk1, hk2⟩ := hrel
     simp only at hk2 hR3
     obtain ⟨k', rfl⟩ : ∃ k', gk = k' + 1 := ⟨gk - 1, by omega⟩
     obtain ⟨c0, c1, c2, f1, hr1⟩ := hR3.cells
     have cq := hq3.cell
     simp only [sLoop] at hS
     cases b3 with
     | true =>
       simp only [if_true] at hS
       have HS := Lib.hid hS
       clear hS hk2
       go_wp2_with fail
       have hS := HS.out
       subst hS
       refine leaves_cons (f := 299) (args := #[.pointer (some ⟨w.heap.size, 0, none⟩)]) (by simp) (by simp [go_sem]) ?_
       refine (Door.out _ _ hR3 hq3 hI3 hF3).mono ?_
       rintro e u' w'' ⟨rfl, rfl, hR9, hI9, hF9⟩
       exact ⟨_, results_none rfl _ _ _, rfl, hR9, hI9, hF9⟩
     | false =>
       simp only [Bool.false_eq_true, if_false] at hS
       obtain ⟨hk2, h8, hN3⟩ := hk2 rfl
       have hsh := ok.shrinks ⟨s3, false⟩ a3 rfl
       have hdo := ok.does s3 a3 wr hR3 h8 hI3 hg3 (Nat.le_trans hB hF3.size) hN3
       generalize one ⟨s3, false⟩ a3 = O at *
       obtain ⟨⟨s4, b4⟩, a4⟩ := O
       simp only at hsh hdo hS
       have HS := Lib.hid hS
       have Hdo := Lib.hid hdo
       clear hS hdo
       go_wp2_with fail
       refine Hdo.out.mono ?_
       rintro e w4 ⟨rfl, hR4, hI4, hF4⟩
       have hg4 := hg3.ml hrn hBn hF4
       have hq4 := hq3.ml hF4
       have hF4' := hF3.trans' hF4
       clear hR3 hI3 hg3 hq3 hF3 c0 c1 c2 f1 hr1 cq
       obtain ⟨c0, c1, c2, f1, hr1⟩ := hR4.cells
       have cq := hq4.cell
       cases b4 with
       | true =>
         go_wp2_with fail
         have hS := HS.out
         simp only [if_true] at hS
         subst hS
         refine leaves_cons (f := 299) (args := #[.pointer (some ⟨w.heap.size, 0, none⟩)]) (by simp) (by simp [go_sem]) ?_
         refine (Door.out _ _ hR4 hq4 hI4 hF4').mono ?_
         rintro e u' w'' ⟨rfl, rfl, hR9, hI9, hF9⟩
         exact ⟨_, results_none rfl _ _ _, rfl, hR9, hI9, hF9⟩
       | false =>
         have hS := HS.out
         simp only [Bool.false_eq_true, if_false] at hS
         cases hs4 : sEat shut s4 with
         | some l5 =>
           simp only [hs4] at hS
           have HS5 := Lib.hid hS
           have H4 := Lib.hid hs4
           clear hS HS hs4
           go_wp2_with fail
           refine (eat_yes r s4 l5 false (d + 1) shut _ hR4 H4.out).mono ?_
           rintro e w5 ⟨rfl, hR5, hF5⟩
           go_wp2_with fail
           have hS := HS5.out
           subst hS
           refine leaves_cons (f := 299) (args := #[.pointer (some ⟨w.heap.size, 0, none⟩)]) (by simp) (by simp [go_sem]) ?_
           refine (Door.out _ _ hR5 (hq4.rd hF5) (ok.keeps _ _ _ hI4 hF5) (hF4'.trans' (hF5.mono MR_ML))).mono ?_
           rintro e u' w'' ⟨rfl, rfl, hR9, hI9, hF9⟩
           exact ⟨_, results_none rfl _ _ _, rfl, hR9, hI9, hF9⟩
         | none =>
           simp only [hs4] at hS
           have H4 := Lib.hid hs4
           have HS5 := Lib.hid hS
           clear hS HS hs4
           have hb4 := blanks_len s4
           have hb5 := blanks_len (sBlanks s4)
           cases hs5 : sEat 44 (sBlanks s4) with
           | some l6 =>
             have hS := HS5.out
             simp only [hs5] at hS
             have HS6 := Lib.hid hS
             have H5 := Lib.hid hs5
             have hel := eat_len hs5
             clear hS hs5 HS5
             go_wp2_with fail
             refine (eat_no r s4 false (d + 1) shut _ hR4 H4.out).mono ?_
             rintro e w5 ⟨rfl, hR5, hF5⟩
             have cq5 := (hq4.rd hF5).cell
             go_wp2_with fail
             refine (eat_yes r (sBlanks s4) l6 false (d + 1) 44 _ hR5 H5.out).mono ?_
             rintro e w6 ⟨rfl, hR6, hF6⟩
             go_wp2_with fail
             go_roundg k'
             case measure => omega
             case rel => exact ⟨⟨l6, false⟩, a4, HS6.out, hR6, ok.keeps _ _ _ (ok.keeps _ _ _ hI4 hF5) hF6, (hg4.rd hR4 hF5).rd hR5 hF6, (hq4.rd hF5).rd hF6, (hF4'.trans' (hF5.mono MR_ML)).trans' (hF6.mono MR_ML), by omega, fun _ => ⟨by simp only; omega, h8, by simp only; omega⟩⟩
           | none =>
             have hS := HS5.out
             simp only [hs5] at hS
             have HS6 := Lib.hid hS
             have H5 := Lib.hid hs5
             clear hS hs5 HS5
             go_wp2_with fail
             refine (eat_no r s4 false (d + 1) shut _ hR4 H4.out).mono ?_
             rintro e w5 ⟨rfl, hR5, hF5⟩
             have cq5 := (hq4.rd hF5).cell
             go_wp2_with fail
             refine (eat_no r (sBlanks s4) false (d + 1) 44 _ hR5 H5.out).mono ?_
             rintro e w6 ⟨rfl, hR6, hF6⟩
             have cq6 := ((hq4.rd hF5).rd hF6).cell
             go_wp2_with fail
             refine (fail_c r _ _ (d + 1) _ hR6).mono ?_
             rintro e w7 ⟨rfl, hR7, hF7⟩
             go_wp2_with fail
             go_roundg k'
             case measure => omega
             case rel => exact ⟨⟨_, true⟩, a4, HS6.out, hR7, ok.keeps _ _ _ (ok.keeps _ _ _ (ok.keeps _ _ _ hI4 hF5) hF6) hF7, ((hg4.rd hR4 hF5).rd hR5 hF6).rd hR6 hF7, ((hq4.rd hF5).rd hF6).rd hF7, ((hF4'.trans' (hF5.mono MR_ML)).trans' (hF6.mono MR_ML)).trans' (hF7.mono MR_ML), by omega, by simp⟩
 ·rcases hcase with ⟨l, he, h8⟩ | he
  ·have hob : sOpen op (d + 1) ⟨s, bad⟩ = ⟨l, true⟩ := by simp only [sOpen, he]; congr 1; simp; omega
   obtain ⟨e1, rfl⟩ : l = s2 ∧ b2 = true := by have := Ho2.out; rw [hob] at this; simp at this; exact this
   have h8' : decide ((8 : Int) < d + 1) = true := by simp only [decide_eq_true_eq]; omega
   have He := Lib.hid he
   have E := Lib.hid e1
   clear hob he e1 h8
   go_enter_defers Tryz.func288, Tryz.ntmps288
   go_wp2_with fail
   refine (eat_yes r s l bad (d + 1) op _ hR1 He.out).mono ?_
   rintro e w2 ⟨rfl, hR2, hF2⟩
   have hI2 := ok.keeps _ _ _ hI1 hF2
   have hg2 := hg1.rd hR1 hF2
   have hq2 := hq1.rd hF2
   have hF2' := hF1.trans' (hF2.mono MR_ML)
   rw [E.out] at hR2
   clear hR1 hI1 hg1 hq1 hF1 hF2 c0 c1 c2 f1 hr1 cq
   obtain ⟨c0, c1, c2, f1, hr1⟩ := hR2.cells
   have cq := hq2.cell
   go_wp2_with fail
   refine (fail_c r _ _ (d + 1) _ hR2).mono ?_
   rintro e w3 ⟨rfl, hR3, hF3⟩
   have hI3 := ok.keeps _ _ _ hI2 hF3
   have hg3 := hg2.rd hR2 hF3
   have hq3 := hq2.rd hF3
   have hF3' := hF2'.trans' (hF3.mono MR_ML)
   clear hR2 hI2 hg2 hq2 hF2' hF3 c0 c1 c2 f1 hr1 cq
   have cq := hq3.cell
   cases hsh : sEat shut s2 with
   | some l2 =>
     have hG : G = (⟨l2, true⟩, a) := by have := HE.out; rw [Ho2.out] at this; simp only [hsh] at this; exact this.symm
     have Hsh := Lib.hid hsh
     have HG := Lib.hid hG
     clear hsh hG
     go_wp2_with fail
     refine (eat_yes r s2 l2 true (d + 1) shut _ hR3 Hsh.out).mono ?_
     rintro e w4 ⟨rfl, hR4, hF4⟩
     go_wp2_with fail
     have hG := HG.out
     refine leaves_cons (f := 299) (args := #[.pointer (some ⟨w.heap.size, 0, none⟩)]) (by simp) (by simp [go_sem]) ?_
     refine (Door.out _ _ (by rw [hG]; exact hR4) (hq3.rd hF4) (by rw [hG]; exact ok.keeps _ _ _ hI3 hF4) (hF3'.trans' (hF4.mono MR_ML))).mono ?_
     rintro e u' w'' ⟨rfl, rfl, hR9, hI9, hF9⟩
     exact ⟨_, results_none rfl _ _ _, rfl, hR9, hI9, hF9⟩
   | none =>
     have hG : G = (⟨sBlanks s2, true⟩, a) := by have := HE.out; rw [Ho2.out] at this; simp only [hsh, sLoop, if_true] at this; exact this.symm
     have Hsh := Lib.hid hsh
     have HG := Lib.hid hG
     clear hsh hG
     go_wp2_with fail
     refine (eat_no r s2 true (d + 1) shut _ hR3 Hsh.out).mono ?_
     rintro e w4 ⟨rfl, hR4, hF4⟩
     have hq4 := hq3.rd hF4
     obtain ⟨c0, c1, c2, f1, hr1⟩ := hR4.cells
     have cq4 := hq4.cell
     go_wp2_with fail
     refine wp_loop_rounds 1 ?_
     rw [rounds_succ]
     go_wp2_with fail
     have hG := HG.out
     refine leaves_cons (f := 299) (args := #[.pointer (some ⟨w.heap.size, 0, none⟩)]) (by simp) (by simp [go_sem]) ?_
     refine (Door.out _ _ (by rw [hG]; exact hR4) hq4 (by rw [hG]; exact ok.keeps _ _ _ hI3 hF4) (hF3'.trans' (hF4.mono MR_ML))).mono ?_
     rintro e u' w'' ⟨rfl, rfl, hR9, hI9, hF9⟩
     exact ⟨_, results_none rfl _ _ _, rfl, hR9, hI9, hF9⟩
  ·have hob : sOpen op (d + 1) ⟨s, bad⟩ = ⟨sBlanks s, true⟩ := by simp only [sOpen, he]
   obtain ⟨e1, rfl⟩ : sBlanks s = s2 ∧ b2 = true := by have := Ho2.out; rw [hob] at this; simp at this; exact this
   have He := Lib.hid he
   have E := Lib.hid e1
   clear hob he e1
   go_enter_defers Tryz.func288, Tryz.ntmps288
   go_wp2_with fail
   refine (eat_no r s bad (d + 1) op _ hR1 He.out).mono ?_
   rintro e w2 ⟨rfl, hR2, hF2⟩
   have hI2 := ok.keeps _ _ _ hI1 hF2
   have hg2 := hg1.rd hR1 hF2
   have hq2 := hq1.rd hF2
   have hF2' := hF1.trans' (hF2.mono MR_ML)
   rw [E.out] at hR2
   clear hR1 hI1 hg1 hq1 hF1 hF2 c0 c1 c2 f1 hr1 cq
   obtain ⟨c0, c1, c2, f1, hr1⟩ := hR2.cells
   have cq := hq2.cell
   go_wp2_with fail
   refine (fail_c r _ _ (d + 1) _ hR2).mono ?_
   rintro e w3 ⟨rfl, hR3, hF3⟩
   have hI3 := ok.keeps _ _ _ hI2 hF3
   have hg3 := hg2.rd hR2 hF3
   have hq3 := hq2.rd hF3
   have hF3' := hF2'.trans' (hF3.mono MR_ML)
   clear hR2 hI2 hg2 hq2 hF2' hF3 c0 c1 c2 f1 hr1 cq
   have cq := hq3.cell
   cases hsh : sEat shut s2 with
   | some l2 =>
     have hG : G = (⟨l2, true⟩, a) := by have := HE.out; rw [Ho2.out] at this; simp only [hsh] at this; exact this.symm
     have Hsh := Lib.hid hsh
     have HG := Lib.hid hG
     clear hsh hG
     go_wp2_with fail
     refine (eat_yes r s2 l2 true (d + 1) shut _ hR3 Hsh.out).mono ?_
     rintro e w4 ⟨rfl, hR4, hF4⟩
     go_wp2_with fail
     have hG := HG.out
     refine leaves_cons (f := 299) (args := #[.pointer (some ⟨w.heap.size, 0, none⟩)]) (by simp) (by simp [go_sem]) ?_
     refine (Door.out _ _ (by rw [hG]; exact hR4) (hq3.rd hF4) (by rw [hG]; exact ok.keeps _ _ _ hI3 hF4) (hF3'.trans' (hF4.mono MR_ML))).mono ?_
     rintro e u' w'' ⟨rfl, rfl, hR9, hI9, hF9⟩
     exact ⟨_, results_none rfl _ _ _, rfl, hR9, hI9, hF9⟩
   | none =>
     have hG : G = (⟨sBlanks s2, true⟩, a) := by have := HE.out; rw [Ho2.out] at this; simp only [hsh, sLoop, if_true] at this; exact this.symm
     have Hsh := Lib.hid hsh
     have HG := Lib.hid hG
     clear hsh hG
     go_wp2_with fail
     refine (eat_no r s2 true (d + 1) shut _ hR3 Hsh.out).mono ?_
     rintro e w4 ⟨rfl, hR4, hF4⟩
     have hq4 := hq3.rd hF4
     obtain ⟨c0, c1, c2, f1, hr1⟩ := hR4.cells
     have cq4 := hq4.cell
     go_wp2_with fail
     refine wp_loop_rounds 1 ?_
     rw [rounds_succ]
     go_wp2_with fail
     have hG := HG.out
     refine leaves_cons (f := 299) (args := #[.pointer (some ⟨w.heap.size, 0, none⟩)]) (by simp) (by simp [go_sem]) ?_
     refine (Door.out _ _ (by rw [hG]; exact hR4) hq4 (by rw [hG]; exact ok.keeps _ _ _ hI3 hF4) (hF3'.trans' (hF4.mono MR_ML))).mono ?_
     rintro e u' w'' ⟨rfl, rfl, hR9, hI9, hF9⟩
     exact ⟨_, results_none rfl _ _ _, rfl, hR9, hI9, hF9⟩
end
end Go.Proofs.YtcddlemkimbkcaaGreatDoor
