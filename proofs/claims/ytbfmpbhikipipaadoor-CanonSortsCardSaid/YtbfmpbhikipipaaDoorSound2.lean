/-
  The walk of json's sound, further: lists and objects.
-/
import Derived.Test.YtbfmpbhikipipaaDoorSound
import Derived.Test.YtbfmpbhikipipaaDoorSeen
namespace Go.Proofs.YtbfmpbhikipipaaDoor
set_option linter.unusedVariables false
set_option linter.unusedSimpArgs false
set_option linter.unusedSectionVars false
open Go.RowKit
variable [OldK]

theorem drop_at {α : Type} {l : List α} {i : Nat} {x : α} (h : l[i]? = some x) : l.drop i = x :: l.drop (i + 1) := by
  obtain ⟨hi, rfl⟩ := List.getElem?_eq_some_iff.1 h
  exact List.drop_eq_getElem_cons hi
set_option maxRecDepth 100000 in
set_option maxHeartbeats 1000000 in
theorem sound_none (d : Int) (S : Nat → Prop) (k n : Int) (t : Bs) (l : List J) (p : List (Bs × J)) (v : Value) (w : World) (h : RJ S w (.mk k n t l p) v) (hg : Gl w)
    (k0 : (k == 0) = false) (k1 : (k == 1) = false) (k2 : (k == 2) = false) (k3 : (k == 3) = false) (hc : (n != 0) = true ∨ (∃ x m, t = x :: m) ∨ decide (d ≥ 8) = true ∨ ((k == 4) = false ∧ (k == 5) = false)) :
    Calls Tryd.prog 35 #[v, .int .i64 d] w fun e w' => e = .returned (.bool false) ∧ Fr NoB w w' := by
  obtain ⟨a1, c1, a2, c2, rfl, hl, hp⟩ := h.open
  obtain ⟨a0, a1', a2', a3, a4, fz, hlt1⟩ := VB.at (heap_alloc_new w (.cells #[.int .i64 k, .int .i64 n, .string ⟨t.toArray⟩, .slice a1 l.length c1, .slice a2 p.length c2] 25))
  have z1 := len_zero l
  have z2 := len_zero p
  generalize l.isEmpty = le at *
  generalize p.isEmpty = pe at *
  clear h hl hp
  rcases hc with hn | ⟨x, m, rfl⟩ | hd | ⟨k4, k5⟩
  all_goals
    go_enter Tryd.func35, Tryd.ntmps35
    go_wp2_with fail
    all_goals
      go_ret
      exact ⟨rfl, Fr.refl.alloc _⟩

set_option maxRecDepth 100000 in
set_option maxHeartbeats 2000000 in
theorem sound_list (f : Nat) (ih : SoundOk f) (d : Int) (S : Nat → Prop) (l : List J) (p : List (Bs × J)) (v : Value) (w : World) (h : RJ S w (.mk 4 0 [] l p) v) (hfit : fitsl 67108864 l = true) (hll : l.length ≤ 67108864) (hg : Gl w) (hd : 0 ≤ d) (hd8 : d + 1 + f = 8) :
    Calls Tryd.prog 35 #[v, .int .i64 d] w fun e w' => e = .returned (.bool (pSounds (d + 1) l && p.isEmpty)) ∧ Fr NoB w w' := by
  obtain ⟨a1, c1, a2, c2, rfl, hl, hp⟩ := h.open
  obtain ⟨a0, a1', a2', a3, a4, fz, hlt1⟩ := VB.at (heap_alloc_new w (.cells #[.int .i64 4, .int .i64 0, .string ⟨#[]⟩, .slice a1 l.length c1, .slice a2 p.length c2] 25))
  have hbx := heap_alloc_new w (.cells #[.int .i64 4, .int .i64 0, .string ⟨#[]⟩, .slice a1 l.length c1, .slice a2 p.length c2] 25)
  have z1 := len_zero l
  have z2 := len_zero p
  have hdd : decide (d ≥ 8) = false := by rw [decide_eq_false_iff_not]; omega
  generalize l.isEmpty = le at *
  generalize p.isEmpty = pe at *
  generalize hR : pSounds (d + 1) l = R
  have HR := Lib.hid hR
  clear h hp hR
  have Hl := Lib.hid hl
  clear hl
  have hf0 := (Fr.refl (M := NoB)).alloc (w := w) (.cells #[.int .i64 4, .int .i64 0, .string ⟨#[]⟩, .slice a1 l.length c1, .slice a2 p.length c2] 25)
  have hg0 := hg.alloc (.cells #[.int .i64 4, .int .i64 0, .string ⟨#[]⟩, .slice a1 l.length c1, .slice a2 p.length c2] 25)
  have Hbx := Lib.hid hbx
  clear hbx
  cases le
  all_goals
    go_enter Tryd.func35, Tryd.ntmps35
    go_wp2_with fail
    go_loopg [104] (l.length + 1) (fun g vi wr => ∃ i : Nat, vi = .int .i64 i ∧ i ≤ l.length ∧ i + g = l.length + 1 ∧ Gl wr ∧ Fr NoB (w.alloc (.cells #[.int .i64 4, .int .i64 0, .string ⟨#[]⟩, .slice a1 l.length c1, .slice a2 p.length c2] 25)) wr ∧ Hid (pSounds (d + 1) (l.drop i) = R))
    case atStart => exact ⟨0, rfl, by omega, by omega, hg0, Fr.refl, HR⟩
    case round =>
      obtain ⟨i, rfl, hi, hgk, hgw, hF, hS⟩ := hrel
      rcases Nat.lt_or_ge i l.length with hlt | hge
      · obtain ⟨j, hj⟩ : ∃ j, l[i]? = some j := ⟨_, List.getElem?_eq_getElem hlt⟩
        obtain ⟨b, o, x0, x1, x2, x3, x4, rfl, hbl, e0, e1, e2, e3, e4, hrj⟩ := (Hl.out.kp (Kp.ofFr (hf0.trans' hF))).at hj
        obtain ⟨jk, jn, jt, jl, jp⟩ := j
        have hj2 := hrj.open
        obtain ⟨y1, n1, y2, n2, hval, _, _⟩ := hj2
        obtain ⟨rfl, rfl, rfl, rfl, rfl⟩ : x0 = .int .i64 jk ∧ x1 = .int .i64 jn ∧ x2 = .string ⟨jt.toArray⟩ ∧ x3 = .slice y1 jl.length n1 ∧ x4 = .slice y2 jp.length n2 := by simpa using hval
        have hx := VB.at (heap_alloc_new wr (.cells #[.int .i64 jk, .int .i64 jn, .string ⟨jt.toArray⟩, .slice y1 jl.length n1, .slice y2 jp.length n2] 25))
        obtain ⟨d0, d1, d2, d3, d4, dz, dlt⟩ := hx
        have Hrj := Lib.hid (RJ.kp (Kp.ofFr ((Fr.refl (M := NoB)).alloc (.cells #[.int .i64 jk, .int .i64 jn, .string ⟨jt.toArray⟩, .slice y1 jl.length n1, .slice y2 jp.length n2] 25))) _ _ hrj)
        clear hrj hval
        have hS2 := hS.out
        rw [drop_at hj, pSounds] at hS2
        obtain ⟨bv, hbv⟩ : ∃ bv, pSound (d + 1) (.mk jk jn jt jl jp) = bv := ⟨_, rfl⟩
        rw [hbv] at hS2
        have HS2 := Lib.hid hS2
        have Hbv := Lib.hid hbv
        clear hS2 hbv hS
        have hfj := fitsl.at l hfit i _ hj
        cases bv
        · go_wp2_with fail
          refine (ih (d + 1) S _ _ _ Hrj.out hfj (hgw.alloc _) (by omega) hd8).mono ?_
          rintro e w1 ⟨rfl, hF1⟩
          rw [Hbv.out]
          have HF := Lib.hid (((hf0.trans' hF).alloc (.cells #[.int .i64 jk, .int .i64 jn, .string ⟨jt.toArray⟩, .slice y1 jl.length n1, .slice y2 jp.length n2] 25)).trans' hF1)
          go_wp2_with fail
          go_ret
          have hR := HS2.out
          simp at hR
          subst hR
          exact ⟨rfl, HF.out⟩
        · go_wp2_with fail
          refine (ih (d + 1) S _ _ _ Hrj.out hfj (hgw.alloc _) (by omega) hd8).mono ?_
          rintro e w1 ⟨rfl, hF1⟩
          rw [Hbv.out]
          have HF := Lib.hid ((hF.alloc (.cells #[.int .i64 jk, .int .i64 jn, .string ⟨jt.toArray⟩, .slice y1 jl.length n1, .slice y2 jp.length n2] 25)).trans' hF1)
          have hg1 := (hgw.alloc (.cells #[.int .i64 jk, .int .i64 jn, .string ⟨jt.toArray⟩, .slice y1 jl.length n1, .slice y2 jp.length n2] 25)).fr hF1 (fun _ _ _ h => h.elim)
          go_wp2_with fail
          go_roundg (gk - 1)
          case measure => omega
          case rel => exact ⟨i + 1, by simp, by omega, by omega, hg1, HF.out, by have := HS2.out; simp at this; exact this⟩
      · obtain rfl : i = l.length := by omega
        have hR := hS.out
        simp [pSounds] at hR
        subst hR
        have hbw := hF.block _ _ Hbx.out (fun h => h)
        obtain ⟨a0, a1', a2', a3, a4, fz, hlt1⟩ := VB.at hbw
        have HF := Lib.hid (hf0.trans' hF)
        go_wp2_with fail
        go_ret
        exact ⟨by simp, HF.out⟩
end Go.Proofs.YtbfmpbhikipipaaDoor
