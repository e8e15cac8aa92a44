/-
  The walk of json's sound.
-/
import Derived.Test.YtbfmpbhikipipaaGreatDoorKCellRows
import Derived.Test.YtbfmpbhikipipaaGreatDoorKParse
import Derived.Test.YtbfmpbhikipipaaGreatDoorKSpecSound
import Derived.Test.YtbfmpbhikipipaaGreatDoorKSeen
import Derived.Test.YtbfmpbhikipipaaGreatDoorKReader7
namespace Go.Proofs.YtbfmpbhikipipaaGreatDoor
set_option linter.unusedVariables false
set_option linter.unusedSimpArgs false
set_option linter.unusedSectionVars false
open Go.RowKit
variable [OldK]

/-- what 'sound' does, at most f deeper -/
def SoundOk (f : Nat) : Prop := ∀ (d : Int) (S : Nat → Prop) (j : J) (v : Value) (w : World), RJ S w j v → fits 67108864 j = true → Gl w → 0 ≤ d → d + f = 8 →
  Calls Tryz.prog 32 #[v, .int .i64 d] w fun e w' => e = .returned (.bool (pSound d j)) ∧ Fr NoB w w'

theorem len_zero {α : Type} (p : List α) : ((p.length : Int) == 0) = p.isEmpty := by
  cases p with
  | nil => rfl
  | cons x l => simp; omega
theorem eq_false {a b : Int} (h : ¬ a = b) : (a == b) = false := by simpa using h

set_option maxRecDepth 100000 in
set_option maxHeartbeats 1000000 in
theorem sound_flat (f : Nat) (d : Int) (S : Nat → Prop) (k n : Int) (t : Bs) (l : List J) (p : List (Bs × J)) (v : Value) (w : World) (h : RJ S w (.mk k n t l p) v) (htl : t.length ≤ 67108864) (hg : Gl w) (hd : 0 ≤ d) (hdf : d + f = 8) (hk : k = 0 ∨ k = 1 ∨ k = 2 ∨ k = 3) :
    Calls Tryz.prog 32 #[v, .int .i64 d] w fun e w' => e = .returned (.bool (pSound d (.mk k n t l p))) ∧ Fr NoB w w' := by
  obtain ⟨a1, c1, a2, c2, rfl, hl, hp⟩ := h.open
  obtain ⟨a0, a1', a2', a3, a4, fz, hlt1⟩ := VB.at (heap_alloc_new w (.cells #[.int .i64 k, .int .i64 n, .string ⟨t.toArray⟩, .slice a1 l.length c1, .slice a2 p.length c2] 25))
  have z1 := len_zero l
  have z2 := len_zero p
  clear h hl hp
  rcases hk with rfl | rfl | rfl | rfl
  · unfold pSound
    simp only [if_true]
    go_enter Tryz.func32, Tryz.ntmps32
    go_wp2_with fail
    all_goals
      go_ret
      refine ⟨ret_bool ?_, Fr.refl.alloc _⟩
      simp_all
      try (intros; omega)
  · unfold pSound
    simp only [show ¬ (1 : Int) = 0 by decide, if_false, if_true]
    go_enter Tryz.func32, Tryz.ntmps32
    go_wp2_with fail
    all_goals
      go_ret
      refine ⟨ret_bool ?_, Fr.refl.alloc _⟩
      simp_all
      try (intros; omega)
  · unfold pSound
    simp only [show ¬ (2 : Int) = 0 by decide, show ¬ (2 : Int) = 1 by decide, if_false, if_true]
    go_enter Tryz.func32, Tryz.ntmps32
    go_wp2_with fail
    all_goals
      go_ret
      refine ⟨ret_bool ?_, Fr.refl.alloc _⟩
      simp_all
      try (intros; omega)
  · unfold pSound
    simp only [show ¬ (3 : Int) = 0 by decide, show ¬ (3 : Int) = 1 by decide, show ¬ (3 : Int) = 2 by decide, if_false, if_true]
    go_enter Tryz.func32, Tryz.ntmps32
    go_wp2_with fail
    all_goals first
      | (refine (Go.Proofs.Tryz.utf8_ValidString ⟨t.toArray⟩ _ (Nat.le_trans htl (by decide)) (hg.alloc _).utf8).mono ?_
         rintro e w1 ⟨rfl, hb1⟩
         have hFw := (Fr.refl (M := NoB)).alloc _ |>.trans' (Fr.ofBelow hb1)
         have Hb := Lib.hid hFw
         clear hFw hb1
         go_wp2_with fail
         all_goals
           go_ret
           refine ⟨ret_bool ?_, Hb.out⟩
           simp_all
           try (intros; omega))
      | (go_ret
         refine ⟨ret_bool ?_, Fr.refl.alloc _⟩
         simp_all
         try (intros; omega))
end Go.Proofs.YtbfmpbhikipipaaGreatDoor
namespace Go.Proofs.YtbfmpbhikipipaaGreatDoor
set_option linter.unusedVariables false
set_option linter.unusedSimpArgs false
set_option linter.unusedSectionVars false
open Go.RowKit
variable [OldK]

theorem drop_at {α : Type} {l : List α} {i : Nat} {x : α} (h : l[i]? = some x) : l.drop i = x :: l.drop (i + 1) := by
  obtain ⟨hi, rfl⟩ := List.getElem?_eq_some_iff.1 h
  exact List.drop_eq_getElem_cons hi
set_option maxRecDepth 100000 in
set_option maxHeartbeats 1000000 in
theorem sound_none (d : Int) (S : Nat → Prop) (k n : Int) (t : Bs) (l : List J) (p : List (Bs × J)) (v : Value) (w : World) (h : RJ S w (.mk k n t l p) v) (hg : Gl w)
    (k0 : (k == 0) = false) (k1 : (k == 1) = false) (k2 : (k == 2) = false) (k3 : (k == 3) = false) (hc : (n != 0) = true ∨ (∃ x m, t = x :: m) ∨ decide (d ≥ 8) = true ∨ ((k == 4) = false ∧ (k == 5) = false)) :
    Calls Tryz.prog 32 #[v, .int .i64 d] w fun e w' => e = .returned (.bool false) ∧ Fr NoB w w' := by
  obtain ⟨a1, c1, a2, c2, rfl, hl, hp⟩ := h.open
  obtain ⟨a0, a1', a2', a3, a4, fz, hlt1⟩ := VB.at (heap_alloc_new w (.cells #[.int .i64 k, .int .i64 n, .string ⟨t.toArray⟩, .slice a1 l.length c1, .slice a2 p.length c2] 25))
  have z1 := len_zero l
  have z2 := len_zero p
  generalize l.isEmpty = le at *
  generalize p.isEmpty = pe at *
  clear h hl hp
  rcases hc with hn | ⟨x, m, rfl⟩ | hd | ⟨k4, k5⟩
  all_goals
    go_enter Tryz.func32, Tryz.ntmps32
    go_wp2_with fail
    all_goals
      go_ret
      exact ⟨rfl, Fr.refl.alloc _⟩

set_option maxRecDepth 100000 in
set_option maxHeartbeats 2000000 in
theorem sound_list (f : Nat) (ih : SoundOk f) (d : Int) (S : Nat → Prop) (l : List J) (p : List (Bs × J)) (v : Value) (w : World) (h : RJ S w (.mk 4 0 [] l p) v) (hfit : fitsl 67108864 l = true) (hll : l.length ≤ 67108864) (hg : Gl w) (hd : 0 ≤ d) (hd8 : d + 1 + f = 8) :
    Calls Tryz.prog 32 #[v, .int .i64 d] w fun e w' => e = .returned (.bool (pSounds (d + 1) l && p.isEmpty)) ∧ Fr NoB w w' := by
  obtain ⟨a1, c1, a2, c2, rfl, hl, hp⟩ := h.open
  obtain ⟨a0, a1', a2', a3, a4, fz, hlt1⟩ := VB.at (heap_alloc_new w (.cells #[.int .i64 4, .int .i64 0, .string ⟨#[]⟩, .slice a1 l.length c1, .slice a2 p.length c2] 25))
  have hbx := heap_alloc_new w (.cells #[.int .i64 4, .int .i64 0, .string ⟨#[]⟩, .slice a1 l.length c1, .slice a2 p.length c2] 25)
  have z1 := len_zero l
  have z2 := len_zero p
  have hdd : decide (d ≥ 8) = false := by rw [decide_eq_false_iff_not]; omega
  generalize l.isEmpty = le at *
  generalize p.isEmpty = pe at *
  generalize hR : pSounds (d + 1) l = R
  have HR := Lib.hid hR
  clear h hp hR
  have Hl := Lib.hid hl
  clear hl
  have hf0 := (Fr.refl (M := NoB)).alloc (w := w) (.cells #[.int .i64 4, .int .i64 0, .string ⟨#[]⟩, .slice a1 l.length c1, .slice a2 p.length c2] 25)
  have hg0 := hg.alloc (.cells #[.int .i64 4, .int .i64 0, .string ⟨#[]⟩, .slice a1 l.length c1, .slice a2 p.length c2] 25)
  have Hbx := Lib.hid hbx
  clear hbx
  cases le
  all_goals
    go_enter Tryz.func32, Tryz.ntmps32
    go_wp2_with fail
    go_loopg [104] (l.length + 1) (fun g vi wr => ∃ i : Nat, vi = .int .i64 i ∧ i ≤ l.length ∧ i + g = l.length + 1 ∧ Gl wr ∧ Fr NoB (w.alloc (.cells #[.int .i64 4, .int .i64 0, .string ⟨#[]⟩, .slice a1 l.length c1, .slice a2 p.length c2] 25)) wr ∧ Hid (pSounds (d + 1) (l.drop i) = R))
    case atStart => exact ⟨0, rfl, by omega, by omega, hg0, Fr.refl, HR⟩
    case round =>
      obtain ⟨i, rfl, hi, hgk, hgw, hF, hS⟩ := hrel
      rcases Nat.lt_or_ge i l.length with hlt | hge
      · obtain ⟨j, hj⟩ : ∃ j, l[i]? = some j := ⟨_, List.getElem?_eq_getElem hlt⟩
        obtain ⟨b, o, x0, x1, x2, x3, x4, rfl, hbl, e0, e1, e2, e3, e4, hrj⟩ := (Hl.out.kp (Kp.ofFr (hf0.trans' hF))).at hj
        obtain ⟨jk, jn, jt, jl, jp⟩ := j
        have hj2 := hrj.open
        obtain ⟨y1, n1, y2, n2, hval, _, _⟩ := hj2
        obtain ⟨rfl, rfl, rfl, rfl, rfl⟩ : x0 = .int .i64 jk ∧ x1 = .int .i64 jn ∧ x2 = .string ⟨jt.toArray⟩ ∧ x3 = .slice y1 jl.length n1 ∧ x4 = .slice y2 jp.length n2 := by simpa using hval
        have hx := VB.at (heap_alloc_new wr (.cells #[.int .i64 jk, .int .i64 jn, .string ⟨jt.toArray⟩, .slice y1 jl.length n1, .slice y2 jp.length n2] 25))
        obtain ⟨d0, d1, d2, d3, d4, dz, dlt⟩ := hx
        have Hrj := Lib.hid (RJ.kp (Kp.ofFr ((Fr.refl (M := NoB)).alloc (.cells #[.int .i64 jk, .int .i64 jn, .string ⟨jt.toArray⟩, .slice y1 jl.length n1, .slice y2 jp.length n2] 25))) _ _ hrj)
        clear hrj hval
        have hS2 := hS.out
        rw [drop_at hj, pSounds] at hS2
        obtain ⟨bv, hbv⟩ : ∃ bv, pSound (d + 1) (.mk jk jn jt jl jp) = bv := ⟨_, rfl⟩
        rw [hbv] at hS2
        have HS2 := Lib.hid hS2
        have Hbv := Lib.hid hbv
        clear hS2 hbv hS
        have hfj := fitsl.at l hfit i _ hj
        cases bv
        · go_wp2_with fail
          refine (ih (d + 1) S _ _ _ Hrj.out hfj (hgw.alloc _) (by omega) hd8).mono ?_
          rintro e w1 ⟨rfl, hF1⟩
          rw [Hbv.out]
          have HF := Lib.hid (((hf0.trans' hF).alloc (.cells #[.int .i64 jk, .int .i64 jn, .string ⟨jt.toArray⟩, .slice y1 jl.length n1, .slice y2 jp.length n2] 25)).trans' hF1)
          go_wp2_with fail
          go_ret
          have hR := HS2.out
          simp at hR
          subst hR
          exact ⟨rfl, HF.out⟩
        · go_wp2_with fail
          refine (ih (d + 1) S _ _ _ Hrj.out hfj (hgw.alloc _) (by omega) hd8).mono ?_
          rintro e w1 ⟨rfl, hF1⟩
          rw [Hbv.out]
          have HF := Lib.hid ((hF.alloc (.cells #[.int .i64 jk, .int .i64 jn, .string ⟨jt.toArray⟩, .slice y1 jl.length n1, .slice y2 jp.length n2] 25)).trans' hF1)
          have hg1 := (hgw.alloc (.cells #[.int .i64 jk, .int .i64 jn, .string ⟨jt.toArray⟩, .slice y1 jl.length n1, .slice y2 jp.length n2] 25)).fr hF1 (fun _ _ _ h => h.elim)
          go_wp2_with fail
          go_roundg (gk - 1)
          case measure => omega
          case rel => exact ⟨i + 1, by simp, by omega, by omega, hg1, HF.out, by have := HS2.out; simp at this; exact this⟩
      · obtain rfl : i = l.length := by omega
        have hR := hS.out
        simp [pSounds] at hR
        subst hR
        have hbw := hF.block _ _ Hbx.out (fun h => h)
        obtain ⟨a0, a1', a2', a3, a4, fz, hlt1⟩ := VB.at hbw
        have HF := Lib.hid (hf0.trans' hF)
        go_wp2_with fail
        go_ret
        exact ⟨by simp, HF.out⟩
end Go.Proofs.YtbfmpbhikipipaaGreatDoor
namespace Go.Proofs.YtbfmpbhikipipaaGreatDoor
set_option linter.unusedVariables false
set_option linter.unusedSimpArgs false
set_option linter.unusedSectionVars false
open Go.RowKit
variable [OldK]

theorem gl_grownK {mb : Nat} {w w' : World} (h : Gl w) (hB : 6 ≤ mb) (hF : w.grownBy w' (some mb)) : Gl w' :=
  h.fr (Fr.ofGrown hF) (fun k _ _ e => by
    obtain rfl : k = mb := by simpa using e
    exact hB)

theorem PB.at {b : Nat} {w : World} {q q0 q1 q2 q3 q4 : Value} (h : w.heap[b]? = some (.cells #[q, q0, q1, q2, q3, q4] 62 (0, 0))) :
    w.cell? ⟨b, 0, none⟩ = some q ∧ w.cell? ⟨b, 1, none⟩ = some q0 ∧ w.cell? ⟨b, 2, none⟩ = some q1 ∧ w.cell? ⟨b, 3, none⟩ = some q2 ∧ w.cell? ⟨b, 4, none⟩ = some q3 ∧ w.cell? ⟨b, 5, none⟩ = some q4 ∧ (∀ o, w.frozen? ⟨b, o, none⟩ = false) ∧ b < w.heap.size :=
  ⟨by simp [World.cell?, h], by simp [World.cell?, h], by simp [World.cell?, h], by simp [World.cell?, h], by simp [World.cell?, h], by simp [World.cell?, h], by simp [World.frozen?, h], get_lt h⟩
theorem take_names {p : List (Bs × J)} {i : Nat} {nm : Bs} {j : J} (h : p[i]? = some (nm, j)) : (p.take (i + 1)).map (·.1) = (p.take i).map (·.1) ++ [nm] := by
  obtain ⟨hi, he⟩ := List.getElem?_eq_some_iff.1 h
  rw [List.take_succ_eq_append_getElem hi, List.map_append, he]
  rfl
set_option maxRecDepth 100000 in
set_option maxHeartbeats 4000000 in
theorem sound_object (f : Nat) (ih : SoundOk f) (d : Int) (S : Nat → Prop) (l : List J) (p : List (Bs × J)) (v : Value) (w : World) (h : RJ S w (.mk 5 0 [] l p) v) (hfit : fitsp 67108864 p = true) (hll : p.length ≤ 67108864) (hg : Gl w) (hd : 0 ≤ d) (hd8 : d + 1 + f = 8) :
    Calls Tryz.prog 32 #[v, .int .i64 d] w fun e w' => e = .returned (.bool (pSoundp (d + 1) [] p && l.isEmpty)) ∧ Fr NoB w w' := by
  obtain ⟨a1, c1, a2, c2, rfl, hl, hp⟩ := h.open
  obtain ⟨a0, a1', a2', a3, a4, fz, hlt1⟩ := VB.at (heap_alloc_new w (.cells #[.int .i64 5, .int .i64 0, .string ⟨#[]⟩, .slice a1 l.length c1, .slice a2 p.length c2] 25))
  have hbx := heap_alloc_new w (.cells #[.int .i64 5, .int .i64 0, .string ⟨#[]⟩, .slice a1 l.length c1, .slice a2 p.length c2] 25)
  have z1 := len_zero l
  have z2 := len_zero p
  have hgs := hg.size
  have hdd : decide (d ≥ 8) = false := by rw [decide_eq_false_iff_not]; omega
  generalize l.isEmpty = le at *
  generalize p.isEmpty = pe at *
  generalize hR : pSoundp (d + 1) [] p = R
  have HR := Lib.hid hR
  clear h hl hR
  have Hp := Lib.hid hp
  clear hp
  have hf0 := (Fr.refl (M := NoB)).alloc (w := w) (.cells #[.int .i64 5, .int .i64 0, .string ⟨#[]⟩, .slice a1 l.length c1, .slice a2 p.length c2] 25)
  have hg0 := hg.alloc (.cells #[.int .i64 5, .int .i64 0, .string ⟨#[]⟩, .slice a1 l.length c1, .slice a2 p.length c2] 25)
  have hs0 : (w.alloc (.cells #[.int .i64 5, .int .i64 0, .string ⟨#[]⟩, .slice a1 l.length c1, .slice a2 p.length c2] 25)).heap.size = w.heap.size + 1 := World.size_alloc _ _
  have hsm := Seen.made (w.alloc (.cells #[.int .i64 5, .int .i64 0, .string ⟨#[]⟩, .slice a1 l.length c1, .slice a2 p.length c2] 25))
  rw [hs0] at hsm
  have Hsm := Lib.hid hsm
  have Hbx := Lib.hid hbx
  clear hbx hsm hs0
  have hbx := (Fr.refl (M := NoB)).alloc (.map #[] 0) |>.block _ _ Hbx.out (fun h => h)
  obtain ⟨m0, m1', m2', m3, m4, mz, mlt1⟩ := VB.at hbx
  clear hbx
  have hmm := @run_makeMap Tryz.prog
  cases le
  all_goals
    go_enter Tryz.func32, Tryz.ntmps32
    go_wp2_with fail
    go_loopg [124] (p.length + 1) (fun g vi wr => ∃ i : Nat, vi = .int .i64 i ∧ i ≤ p.length ∧ i + g = p.length + 1 ∧ Gl wr ∧ Fr NoB (w.alloc (.cells #[.int .i64 5, .int .i64 0, .string ⟨#[]⟩, .slice a1 l.length c1, .slice a2 p.length c2] 25)) wr ∧ Seen (w.heap.size + 1) i ((p.take i).map (·.1)) wr ∧ Hid (pSoundp (d + 1) ((p.take i).map (·.1)) (p.drop i) = R))
    case atStart => exact ⟨0, rfl, by omega, by omega, hg0.alloc _, Fr.refl.alloc _, Hsm.out, HR⟩
    case round =>
      obtain ⟨i, rfl, hi, hgk, hgw, hF, hse, hS⟩ := hrel
      rcases Nat.lt_or_ge i p.length with hlt | hge
      · obtain ⟨⟨nm, j⟩, hj⟩ : ∃ j, p[i]? = some j := ⟨_, List.getElem?_eq_getElem hlt⟩
        obtain ⟨b, o, x0, x1, x2, x3, x4, rfl, hbl, e0, e1, e2, e3, e4, e5, hrj⟩ := (Hp.out.kp (Kp.ofFr (hf0.trans' hF))).at hj
        obtain ⟨jk, jn, jt, jl, jp⟩ := j
        have hj2 := hrj.open
        obtain ⟨y1, n1, y2, n2, hval, _, _⟩ := hj2
        obtain ⟨rfl, rfl, rfl, rfl, rfl⟩ : x0 = .int .i64 jk ∧ x1 = .int .i64 jn ∧ x2 = .string ⟨jt.toArray⟩ ∧ x3 = .slice y1 jl.length n1 ∧ x4 = .slice y2 jp.length n2 := by simpa using hval
        have hx := PB.at (heap_alloc_new wr (.cells #[.string ⟨nm.toArray⟩, .int .i64 jk, .int .i64 jn, .string ⟨jt.toArray⟩, .slice y1 jl.length n1, .slice y2 jp.length n2] 62))
        have hxb := Lib.hid (heap_alloc_new wr (.cells #[.string ⟨nm.toArray⟩, .int .i64 jk, .int .i64 jn, .string ⟨jt.toArray⟩, .slice y1 jl.length n1, .slice y2 jp.length n2] 62))
        obtain ⟨d', d0, d1, d2, d3, d4, dz, dlt⟩ := hx
        have hf1 := (Fr.refl (M := NoB)).alloc (w := wr) (.cells #[.string ⟨nm.toArray⟩, .int .i64 jk, .int .i64 jn, .string ⟨jt.toArray⟩, .slice y1 jl.length n1, .slice y2 jp.length n2] 62)
        have hg1 := hgw.alloc (.cells #[.string ⟨nm.toArray⟩, .int .i64 jk, .int .i64 jn, .string ⟨jt.toArray⟩, .slice y1 jl.length n1, .slice y2 jp.length n2] 62)
        have Hrj := Lib.hid (RJ.kp (Kp.ofFr hf1) _ _ hrj)
        have hse1 := hse.fr hf1 (fun _ _ h => h)
        clear hrj hval
        obtain ⟨hnl, hfj⟩ := fitsp.at p hfit i _ _ hj
        have hnm : nm.length ≤ maxLen := Nat.le_trans hnl (by decide)
        have hlk := hse1.look nm hnm
        have hS2 := hS.out
        rw [drop_at hj, pSoundp] at hS2
        obtain ⟨b1, hb1⟩ : ∃ b1, ((p.take i).map (·.1)).contains nm = b1 := ⟨_, rfl⟩
        obtain ⟨b2, hb2⟩ : ∃ b2, Lib.validD nm = b2 := ⟨_, rfl⟩
        obtain ⟨b3, hb3⟩ : ∃ b3, pSound (d + 1) (.mk jk jn jt jl jp) = b3 := ⟨_, rfl⟩
        rw [hb1, hb2, hb3, ← take_names hj] at hS2
        rw [hb1] at hlk
        have HS2 := Lib.hid hS2
        have Hb2 := Lib.hid hb2
        have Hb3 := Lib.hid hb3
        have Hnm := Lib.hid hnm
        have Hnl := Lib.hid hnl
        have HF1 := Lib.hid (hF.trans' hf1)
        have Hse1 := Lib.hid hse1
        clear hS2 hb1 hb2 hb3 hS hnm hnl hf1 hse hse1
        cases b1
        · cases b2
          · go_wp2_with fail
            refine (Go.Proofs.Tryz.utf8_ValidString ⟨nm.toArray⟩ _ (Nat.le_trans Hnl.out (by decide)) hg1.utf8).mono ?_
            rintro e w1 ⟨rfl, hbe1⟩
            have HF := Lib.hid (hf0.trans' (HF1.out.trans' (Fr.ofBelow hbe1)))
            rw [Hb2.out]
            go_wp2_with fail
            go_ret
            have hR := HS2.out
            simp at hR
            subst hR
            exact ⟨rfl, HF.out⟩
          · cases b3
            · go_wp2_with fail
              refine (Go.Proofs.Tryz.utf8_ValidString ⟨nm.toArray⟩ _ (Nat.le_trans Hnl.out (by decide)) hg1.utf8).mono ?_
              rintro e w1 ⟨rfl, hbe1⟩
              rw [Hb2.out]
              obtain ⟨d', d0, d1, d2, d3, d4, dz, dlt⟩ := PB.at ((Fr.ofBelow hbe1).block _ _ hxb.out (fun h => h))
              have hg2 := hg1.fr (Fr.ofBelow hbe1) (fun _ _ _ h => h.elim)
              go_wp2_with fail
              refine (ih (d + 1) S _ _ _ (RJ.kp (Kp.ofFr (Fr.ofBelow hbe1)) _ _ Hrj.out) hfj hg2 (by omega) hd8).mono ?_
              rintro e w2 ⟨rfl, hF2⟩
              rw [Hb3.out]
              have HF := Lib.hid (hf0.trans' ((HF1.out.trans' (Fr.ofBelow hbe1)).trans' hF2))
              go_wp2_with fail
              go_ret
              have hR := HS2.out
              simp at hR
              subst hR
              exact ⟨rfl, HF.out⟩
            · go_wp2_with fail
              refine (Go.Proofs.Tryz.utf8_ValidString ⟨nm.toArray⟩ _ (Nat.le_trans Hnl.out (by decide)) hg1.utf8).mono ?_
              rintro e w1 ⟨rfl, hbe1⟩
              rw [Hb2.out]
              have hblk := (Fr.ofBelow hbe1).block _ _ hxb.out (fun h => h)
              obtain ⟨d', d0, d1, d2, d3, d4, dz, dlt⟩ := PB.at hblk
              have hg2 := hg1.fr (Fr.ofBelow hbe1) (fun _ _ _ h => h.elim)
              have hse2 := Hse1.out.fr (Fr.ofBelow hbe1) (fun _ _ h => h)
              go_wp2_with fail
              refine (ih (d + 1) S _ _ _ (RJ.kp (Kp.ofFr (Fr.ofBelow hbe1)) _ _ Hrj.out) hfj hg2 (by omega) hd8).mono ?_
              rintro e w2 ⟨rfl, hF2⟩
              rw [Hb3.out]
              have hse3 := hse2.fr hF2 (fun _ _ h => h)
              have hg3 := hg2.fr hF2 (fun _ _ _ h => h.elim)
              have hblk2 := hF2.block _ _ hblk (fun h => h)
              clear d' d0 d1 d2 d3 d4 dz dlt
              obtain ⟨d', d0, d1, d2, d3, d4, dz, dlt⟩ := PB.at hblk2
              obtain ⟨w3, hput, hse4, hgr, hmo⟩ := hse3.put nm Hnm.out (Nat.lt_of_lt_of_le hlt (Nat.le_trans hll (by decide)))
              have HF := Lib.hid ((HF1.out.trans' (Fr.ofBelow hbe1)).trans' hF2)
              have hg4 := gl_grownK hg3 (by omega) hgr
              have Hse4 := Lib.hid hse4
              have Hgr := Lib.hid hgr
              clear hse2 hse3 hse4 hblk hblk2 hmo
              go_wp2_with fail
              go_roundg (gk - 1)
              case measure => omega
              case rel =>
                refine ⟨i + 1, by simp, by omega, by omega, hg4, ?_, by rw [take_names hj]; exact Hse4.out, HS2.out⟩
                refine (HF.out).trans (Fr.ofGrown Hgr.out) (fun k o hm => .inr ?_)
                have hk : k = w.heap.size + 1 := by simpa using hm
                rw [hk, World.size_alloc]; omega
        · go_wp2_with fail
          go_ret
          have hR := HS2.out
          simp at hR
          subst hR
          exact ⟨rfl, hf0.trans' HF1.out⟩
      · obtain rfl : i = p.length := by omega
        have hR := hS.out
        simp [pSoundp] at hR
        subst hR
        have hbw := hF.block _ _ Hbx.out (fun h => h)
        obtain ⟨a0, a1', a2', a3, a4, fz, hlt1⟩ := VB.at hbw
        have HF := Lib.hid (hf0.trans' hF)
        go_wp2_with fail
        go_ret
        exact ⟨by simp, HF.out⟩

theorem sound_c : ∀ f, SoundOk f := by
  intro f
  induction f with
  | zero =>
    intro d S j v w h hfit hg hd hdf
    obtain ⟨k, n, t, l, p⟩ := j
    have hft := fits.open hfit
    by_cases hk : k = 0 ∨ k = 1 ∨ k = 2 ∨ k = 3
    · exact sound_flat 0 d S k n t l p v w h hft.1 hg hd hdf hk
    · have e : pSound d (.mk k n t l p) = false := by
        unfold pSound
        rw [if_neg (by omega), if_neg (by omega), if_neg (by omega), if_neg (by omega), if_pos (.inr (.inr (by simp at hdf; omega)))]
      rw [e]
      exact sound_none d S k n t l p v w h hg (eq_false (by omega)) (eq_false (by omega)) (eq_false (by omega)) (eq_false (by omega)) (.inr (.inr (.inl (by rw [decide_eq_true_eq]; simp at hdf; omega))))
  | succ f ih =>
    intro d S j v w h hfit hg hd hdf
    obtain ⟨k, n, t, l, p⟩ := j
    have hft := fits.open hfit
    have hd8 : d + 1 + (f : Int) = 8 := by simp at hdf; omega
    by_cases hk : k = 0 ∨ k = 1 ∨ k = 2 ∨ k = 3
    · exact sound_flat (f + 1) d S k n t l p v w h hft.1 hg hd hdf hk
    · have none := sound_none d S k n t l p v w h hg (eq_false (by omega)) (eq_false (by omega)) (eq_false (by omega)) (eq_false (by omega))
      have e : pSound d (.mk k n t l p) = (if n ≠ 0 ∨ t ≠ [] ∨ 8 ≤ d then false else if k = 4 then pSounds (d + 1) l && p.isEmpty else if k = 5 then pSoundp (d + 1) [] p && l.isEmpty else false) := by
        conv => lhs; unfold pSound
        rw [if_neg (by omega), if_neg (by omega), if_neg (by omega), if_neg (by omega)]
      rw [e]
      by_cases hn : n = 0
      · by_cases ht : t = []
        · rw [if_neg (by rintro (h | h | h); exact h hn; exact h ht; omega)]
          subst hn ht
          by_cases h4 : k = 4
          · subst h4
            rw [if_pos rfl]
            exact sound_list f ih d S l p v w h hft.2.2.2.1 hft.2.1 hg hd hd8
          · rw [if_neg h4]
            by_cases h5 : k = 5
            · subst h5
              rw [if_pos rfl]
              exact sound_object f ih d S l p v w h hft.2.2.2.2 hft.2.2.1 hg hd hd8
            · rw [if_neg h5]
              exact none (.inr (.inr (.inr ⟨eq_false h4, eq_false h5⟩)))
        · rw [if_pos (.inr (.inl ht))]
          refine none (.inr (.inl ?_))
          cases t with
          | nil => exact absurd rfl ht
          | cons x m => exact ⟨x, m, rfl⟩
      · rw [if_pos (.inl hn)]
        exact none (.inl (by simpa using hn))

/-- Check: an error's value -/
def pCheck (j : J) : Nat := if pSound 0 j then 0 else 1
set_option maxRecDepth 100000 in
set_option maxHeartbeats 400000 in
theorem check_c (S : Nat → Prop) (j : J) (v : Value) (w : World) (h : RJ S w j v) (hfit : fits 67108864 j = true) (hg : Gl w) :
    Calls Tryz.prog 21 #[v] w fun e w' => e = .returned (errV (pCheck j)) ∧ Fr NoB w w' := by
  unfold pCheck
  have hs := fun W hW hgW => sound_c 8 0 S j v W hW hfit hgW (by omega) (by omega)
  generalize pSound 0 j = B at *
  have Hs := Lib.hid hs
  clear hs
  have hform : ∃ a0 a1 a2 a3 a4, v = .agg #[a0, a1, a2, a3, a4] := by
    obtain ⟨k, n, t, l, p⟩ := j
    obtain ⟨y1, n1, y2, n2, hval, _, _⟩ := h.open
    exact ⟨_, _, _, _, _, hval⟩
  obtain ⟨a0, a1, a2, a3, a4, rfl⟩ := hform
  cases B
  all_goals
    go_enter Tryz.func21, Tryz.ntmps21
    go_wp2_with fail
    refine (Hs.out _ (RJ.kp (Kp.ofFr (Fr.refl.alloc _)) _ _ h) (hg.alloc _)).mono ?_
    rintro e w1 ⟨rfl, hF1⟩
    have HF := Lib.hid ((Fr.refl (M := NoB)).alloc (w := w) (.cells #[a0, a1, a2, a3, a4] 25) |>.trans' hF1)
    go_wp2_with fail
    go_ret
    exact ⟨rfl, HF.out⟩
end Go.Proofs.YtbfmpbhikipipaaGreatDoor
