/-
  In one: Heavy, Long, Heavy2, Exact.
-/
import Derived.Test.YtbfmpbhikipipaaGreatDoorKSpecHeavy
import Derived.Test.YtbfmpbhikipipaaGreatDoorKSound3
import Derived.StillTailTactics
import Derived.BigQuiet
namespace Go.Proofs.YtbfmpbhikipipaaGreatDoor
set_option linter.unusedVariables false
set_option linter.unusedSimpArgs false
set_option linter.unusedSectionVars false
open Go.RowKit
variable [OldK]

def ManyOk (N : Nat) : Prop := ∀ (j : J), SizeOf.sizeOf j < N → ∀ (S : Nat → Prop) (v : Value) (w : World) (last : Int), RJ S w j v → 0 ≤ last → last ≤ 1000 →
  Calls Tryz.prog 19 #[v, .int .i64 last] w fun e w' => e = .returned (.int .i64 (pMany j last)) ∧ Fr NoB w w'
theorem sz_mem {α : Type} [SizeOf α] {l : List α} {i : Nat} {x : α} (h : l[i]? = some x) : SizeOf.sizeOf x < SizeOf.sizeOf l :=
  List.sizeOf_lt_of_mem (List.mem_of_getElem? h)

set_option maxRecDepth 100000 in
set_option maxHeartbeats 2000000 in
theorem many_step (N : Nat) (ih : ManyOk N) (S : Nat → Prop) (k n0 : Int) (t : Bs) (l : List J) (p : List (Bs × J)) (v : Value) (w : World) (last : Int) (h : RJ S w (.mk k n0 t l p) v)
    (h0 : 0 ≤ last) (h1 : last ≤ 1000) (hs : SizeOf.sizeOf (J.mk k n0 t l p) ≤ N) :
    Calls Tryz.prog 19 #[v, .int .i64 last] w fun e w' => e = .returned (.int .i64 (pMany (.mk k n0 t l p) last)) ∧ Fr NoB w w' := by
  obtain ⟨a1, c1, a2, c2, rfl, hl, hp⟩ := h.open
  have hx := heap_alloc_new w (.cells #[.int .i64 k, .int .i64 n0, .string ⟨t.toArray⟩, .slice a1 l.length c1, .slice a2 p.length c2] 25)
  obtain ⟨d0, d1, d2, d3, d4, dz, dlt⟩ := VB.at hx
  have hF0 : Fr NoB w (w.alloc (.cells #[.int .i64 k, .int .i64 n0, .string ⟨t.toArray⟩, .slice a1 l.length c1, .slice a2 p.length c2] 25)) := Fr.refl.alloc _
  have e : pMany (.mk k n0 t l p) last = pManyp (pManyl 1 l last) p last := by unfold pMany; rfl
  rw [e]
  generalize hQ : pManyl 1 l last = Q
  generalize hR : pManyp Q p last = R
  have HQ := Lib.hid hQ
  have HR := Lib.hid hR
  have Hl := Lib.hid hl
  have Hp := Lib.hid hp
  have Hx := Lib.hid hx
  have Hs := Lib.hid hs
  clear hl hp hx h e hQ hR hs
  go_enter Tryz.func19, Tryz.ntmps19
  go_wp2_with fail
  go_loopg [5, 6] (l.length + 1) (fun g vn vi wr => ∃ (n : Int) (i : Nat), vn = .int .i64 n ∧ vi = .int .i64 i ∧ i ≤ l.length ∧ i + g = l.length + 1 ∧ (i : Int) + 1 ≤ n ∧ n ≤ last + 1 ∧ Fr NoB (w.alloc (.cells #[.int .i64 k, .int .i64 n0, .string ⟨t.toArray⟩, .slice a1 l.length c1, .slice a2 p.length c2] 25)) wr ∧ Hid (pManyl n (l.drop i) last = Q))
  case atStart => exact ⟨1, 0, rfl, rfl, by omega, by omega, by omega, by omega, Fr.refl, HQ⟩
  case round =>
    obtain ⟨n, i, rfl, rfl, hi, hgk, hin, hnl, hF, HS⟩ := hrel
    have hbw := hF.block _ _ Hx.out (fun h => h)
    obtain ⟨d0, d1, d2, d3, d4, dz, dlt⟩ := VB.at hbw
    by_cases hgo : i < l.length ∧ n ≤ last
    · obtain ⟨hlt, hle⟩ := hgo
      have hlt' : decide ((i : Int) < (l.length : Int)) = true := by rw [decide_eq_true_eq]; omega
      have hle' : decide (n ≤ last) = true := by rw [decide_eq_true_eq]; omega
      obtain ⟨j, hj⟩ : ∃ j, l[i]? = some j := ⟨_, List.getElem?_eq_getElem hlt⟩
      obtain ⟨b, o, x0, x1, x2, x3, x4, rfl, hbl, e0, e1, e2, e3, e4, hrj⟩ := (Hl.out.kp (Kp.ofFr (hF0.trans' hF))).at hj
      have hsj : SizeOf.sizeOf j < N := by
        have := sz_mem hj
        have := Hs.out
        simp only [J.mk.sizeOf_spec] at this
        omega
      have hS := HS.out
      rw [drop_at hj, pManyl, if_pos hle] at hS
      have hbd := many_bounds j (last - n)
      have HS2 := Lib.hid hS
      have Hrj := Lib.hid hrj
      have HF := Lib.hid hF
      clear hS HS hrj hF
      have hi' : i < 1000 := by omega
      go_wp2_with fail
      refine (ih j hsj S _ _ (last - n) Hrj.out (by omega) (by omega)).mono ?_
      rintro e w1 ⟨rfl, hF1⟩
      go_wp2_with fail
      go_roundg (gk - 1)
      case measure => omega
      case rel => exact ⟨_, i + 1, rfl, by simp, by omega, by omega, by omega, by omega, HF.out.trans' hF1, HS2.out⟩
    · have hQn : n = Q := by
        have h3 := HS.out
        rcases Nat.lt_or_ge i l.length with hlt | hge
        · obtain ⟨j, hj⟩ : ∃ j, l[i]? = some j := ⟨_, List.getElem?_eq_getElem hlt⟩
          rw [drop_at hj, pManyl, if_neg (by omega)] at h3
          exact h3
        · rw [List.drop_eq_nil_of_le hge, pManyl] at h3
          exact h3
      subst hQn
      have HF := Lib.hid (hF0.trans' hF)
      have hFx := hF
      clear hF
      have hcase : (¬ i < l.length) ∨ (i < l.length ∧ ¬ n ≤ last) := by omega
      rcases hcase with hc | ⟨hc, hc'⟩
      all_goals
        clear hgo
        go_wp2_with fail
        go_loopg [5, 7] (p.length + 1) (fun g vn vi wr => ∃ (n : Int) (i : Nat), vn = .int .i64 n ∧ vi = .int .i64 i ∧ i ≤ p.length ∧ i + g = p.length + 1 ∧ (i : Int) + 1 ≤ n ∧ n ≤ last + 1 ∧ Fr NoB (w.alloc (.cells #[.int .i64 k, .int .i64 n0, .string ⟨t.toArray⟩, .slice a1 l.length c1, .slice a2 p.length c2] 25)) wr ∧ Hid (pManyp n (p.drop i) last = R))
        case atStart => exact ⟨n, 0, rfl, rfl, by omega, by omega, by omega, by omega, hFx, HR⟩
        case round =>
          clear hFx HS
          obtain ⟨m, i', rfl, rfl, hi, hgk, hin, hnl, hF, HS⟩ := hrel
          have hbw := hF.block _ _ Hx.out (fun h => h)
          obtain ⟨d0, d1, d2, d3, d4, dz, dlt⟩ := VB.at hbw
          by_cases hgo : i' < p.length ∧ m ≤ last
          · obtain ⟨hlt, hle⟩ := hgo
            have hlt' : decide ((i' : Int) < (p.length : Int)) = true := by rw [decide_eq_true_eq]; omega
            have hle' : decide (m ≤ last) = true := by rw [decide_eq_true_eq]; omega
            obtain ⟨⟨nm, j⟩, hj⟩ : ∃ j, p[i']? = some j := ⟨_, List.getElem?_eq_getElem hlt⟩
            obtain ⟨b, o, x0, x1, x2, x3, x4, rfl, hbl, e0, e1, e2, e3, e4, e5, hrj⟩ := (Hp.out.kp (Kp.ofFr (hF0.trans' hF))).at hj
            have hsj : SizeOf.sizeOf j < N := by
              have := sz_mem hj
              have := Hs.out
              simp only [J.mk.sizeOf_spec, Prod.mk.sizeOf_spec] at *
              omega
            have hS := HS.out
            rw [drop_at hj, pManyp, if_pos hle] at hS
            have hbd := many_bounds j (last - m)
            have HS2 := Lib.hid hS
            have Hrj := Lib.hid hrj
            have HF := Lib.hid hF
            clear hS HS hrj hF hc
            have hi' : i' < 1000 := by omega
            go_wp2_with fail
            refine (ih j hsj S _ _ (last - m) Hrj.out (by omega) (by omega)).mono ?_
            rintro e w1 ⟨rfl, hF1⟩
            go_wp2_with fail
            go_roundg (gk - 1)
            case measure => omega
            case rel => exact ⟨_, i' + 1, rfl, by simp, by omega, by omega, by omega, by omega, HF.out.trans' hF1, HS2.out⟩
          · have hRn : m = R := by
              have h3 := HS.out
              rcases Nat.lt_or_ge i' p.length with hlt | hge
              · obtain ⟨⟨nm, j⟩, hj⟩ : ∃ j, p[i']? = some j := ⟨_, List.getElem?_eq_getElem hlt⟩
                rw [drop_at hj, pManyp, if_neg (by omega)] at h3
                exact h3
              · rw [List.drop_eq_nil_of_le hge, pManyp] at h3
                exact h3
            subst hRn
            have HFw := Lib.hid (hF0.trans' hF)
            have hcase : (¬ i' < p.length) ∨ (i' < p.length ∧ ¬ m ≤ last) := by omega
            rcases hcase with hd | ⟨hd, hd'⟩
            all_goals
              clear hgo hF
              go_wp2_with fail
              go_ret
              exact ⟨rfl, HFw.out⟩
theorem many_c : ∀ N, ManyOk N := by
  intro N
  induction N with
  | zero => intro j hj; omega
  | succ N ih =>
    intro j hj S v w last h h0 h1
    obtain ⟨k, n, t, l, p⟩ := j
    exact many_step N ih S k n t l p v w last h h0 h1 (by omega)
end Go.Proofs.YtbfmpbhikipipaaGreatDoor
namespace Go.Proofs.YtbfmpbhikipipaaGreatDoor
set_option linter.unusedVariables false
set_option linter.unusedSimpArgs false
set_option linter.unusedSectionVars false
open Go.RowKit
variable [OldK]


theorem manyl_at : ∀ (l : List J) (n last : Int), 1 ≤ n → last ≤ 1000 → pManyl n l last ≤ last → n + l.length ≤ last ∧ ∀ (i : Nat) (j : J), l[i]? = some j → ∃ m, m ≤ 1000 ∧ pMany j m ≤ m := by
  intro l
  induction l with
  | nil => intro n last h1 h2 h; unfold pManyl at h; exact ⟨by simpa using h, fun i j hi => by simp at hi⟩
  | cons x l ih =>
    intro n last h1 h2 h
    unfold pManyl at h
    split at h
    · have hb := many_bounds x (last - n)
      have hb2 := manyl_bounds l (n + pMany x (last - n)) last
      obtain ⟨h3, h4⟩ := ih _ _ (by omega) h2 h
      refine ⟨by simp only [List.length_cons]; omega, fun i j hi => ?_⟩
      cases i with
      | zero => simp at hi; subst hi; exact ⟨last - n, by omega, by omega⟩
      | succ i => exact h4 i j (by simpa using hi)
    · omega
theorem manyp_at : ∀ (l : List (Bs × J)) (n last : Int), 1 ≤ n → last ≤ 1000 → pManyp n l last ≤ last → n + l.length ≤ last ∧ ∀ (i : Nat) (nm : Bs) (j : J), l[i]? = some (nm, j) → ∃ m, m ≤ 1000 ∧ pMany j m ≤ m := by
  intro l
  induction l with
  | nil => intro n last h1 h2 h; unfold pManyp at h; exact ⟨by simpa using h, fun i nm j hi => by simp at hi⟩
  | cons x l ih =>
    obtain ⟨xn, x⟩ := x
    intro n last h1 h2 h
    unfold pManyp at h
    split at h
    · have hb := many_bounds x (last - n)
      have hb2 := manyp_bounds l (n + pMany x (last - n)) last
      obtain ⟨h3, h4⟩ := ih _ _ (by omega) h2 h
      refine ⟨by simp only [List.length_cons]; omega, fun i nm j hi => ?_⟩
      cases i with
      | zero => simp at hi; obtain ⟨_, rfl⟩ := hi; exact ⟨last - n, by omega, by omega⟩
      | succ i => exact h4 i nm j (by simpa using hi)
    · omega
def LongOk (N : Nat) : Prop := ∀ (j : J), SizeOf.sizeOf j < N → ∀ (S : Nat → Prop) (v : Value) (w : World) (last : Int), RJ S w j v → last ≤ 1000 → pMany j last ≤ last →
  Calls Tryz.prog 20 #[v] w fun e w' => e = .returned (.bool (pLong j)) ∧ Fr NoB w w'
set_option maxRecDepth 100000 in
set_option maxHeartbeats 2000000 in
theorem long_step (N : Nat) (ih : LongOk N) (S : Nat → Prop) (k n0 : Int) (t : Bs) (l : List J) (p : List (Bs × J)) (v : Value) (w : World) (last : Int) (h : RJ S w (.mk k n0 t l p) v) (h1 : last ≤ 1000)
    (hm : pMany (.mk k n0 t l p) last ≤ last) (hs : SizeOf.sizeOf (J.mk k n0 t l p) ≤ N) :
    Calls Tryz.prog 20 #[v] w fun e w' => e = .returned (.bool (pLong (.mk k n0 t l p))) ∧ Fr NoB w w' := by
  obtain ⟨a1, c1, a2, c2, rfl, hl, hp⟩ := h.open
  have hx := heap_alloc_new w (.cells #[.int .i64 k, .int .i64 n0, .string ⟨t.toArray⟩, .slice a1 l.length c1, .slice a2 p.length c2] 25)
  obtain ⟨d0, d1, d2, d3, d4, dz, dlt⟩ := VB.at hx
  have hF0 : Fr NoB w (w.alloc (.cells #[.int .i64 k, .int .i64 n0, .string ⟨t.toArray⟩, .slice a1 l.length c1, .slice a2 p.length c2] 25)) := Fr.refl.alloc _
  have e : pLong (.mk k n0 t l p) = (decide (5000 < t.length) || (pLongl l || pLongp p)) := by unfold pLong; rfl
  rw [e]
  unfold pMany at hm
  have hb1 := manyl_bounds l 1 last
  have hb2 := manyp_bounds p (pManyl 1 l last) last
  obtain ⟨hll, Hml⟩ := manyl_at l 1 last (by omega) h1 (by omega)
  obtain ⟨hpl, Hmp⟩ := manyp_at p _ last (by omega) h1 hm
  have hll : l.length ≤ 1000 := by omega
  have hpl : p.length ≤ 1000 := by omega
  clear hm hb1 hb2
  generalize hR : (pLongl l || pLongp p) = R
  have HR := Lib.hid hR
  have Hl := Lib.hid hl
  have Hp := Lib.hid hp
  have Hx := Lib.hid hx
  have Hs := Lib.hid hs
  have HL := Lib.hid Hml
  have HP := Lib.hid Hmp
  clear hl hp hx h e hR hs Hml Hmp
  by_cases ht : 5000 < t.length
  · rw [decide_eq_true ht]
    go_enter Tryz.func20, Tryz.ntmps20
    go_wp2_with fail
    go_ret
    exact ⟨rfl, hF0⟩
  · rw [decide_eq_false ht]
    go_enter Tryz.func20, Tryz.ntmps20
    go_wp2_with fail
    go_loopg [14] (l.length + 1) (fun g vi wr => ∃ (i : Nat), vi = .int .i64 i ∧ i ≤ l.length ∧ i + g = l.length + 1 ∧ Fr NoB (w.alloc (.cells #[.int .i64 k, .int .i64 n0, .string ⟨t.toArray⟩, .slice a1 l.length c1, .slice a2 p.length c2] 25)) wr ∧ Hid ((pLongl (l.drop i) || pLongp p) = R))
    case atStart => exact ⟨0, rfl, by omega, by omega, Fr.refl, HR⟩
    case round =>
      obtain ⟨i, rfl, hi, hgk, hF, HS⟩ := hrel
      rcases Nat.lt_or_ge i l.length with hlt | hge
      · obtain ⟨j, hj⟩ : ∃ j, l[i]? = some j := ⟨_, List.getElem?_eq_getElem hlt⟩
        obtain ⟨b, o, x0, x1, x2, x3, x4, rfl, hbl, e0, e1, e2, e3, e4, hrj⟩ := (Hl.out.kp (Kp.ofFr (hF0.trans' hF))).at hj
        obtain ⟨m, hm1, hm2⟩ := HL.out i j hj
        have hsj : SizeOf.sizeOf j < N := by
          have := List.sizeOf_lt_of_mem (List.mem_of_getElem? hj)
          have := Hs.out
          simp only [J.mk.sizeOf_spec] at this
          omega
        obtain ⟨jk, jn, jt, jl, jp⟩ := j
        obtain ⟨y1, n1, y2, n2, hval, _, _⟩ := hrj.open
        obtain ⟨rfl, rfl, rfl, rfl, rfl⟩ : x0 = .int .i64 jk ∧ x1 = .int .i64 jn ∧ x2 = .string ⟨jt.toArray⟩ ∧ x3 = .slice y1 jl.length n1 ∧ x4 = .slice y2 jp.length n2 := by simpa using hval
        obtain ⟨f0, f1, f2, f3, f4, fz, flt⟩ := VB.at (heap_alloc_new wr (.cells #[.int .i64 jk, .int .i64 jn, .string ⟨jt.toArray⟩, .slice y1 jl.length n1, .slice y2 jp.length n2] 25))
        have Hrj := Lib.hid (RJ.kp (Kp.ofFr ((Fr.refl (M := NoB)).alloc (.cells #[.int .i64 jk, .int .i64 jn, .string ⟨jt.toArray⟩, .slice y1 jl.length n1, .slice y2 jp.length n2] 25))) _ _ hrj)
        have hS := HS.out
        rw [drop_at hj, pLongl] at hS
        obtain ⟨bv, hbv⟩ : ∃ bv, pLong (.mk jk jn jt jl jp) = bv := ⟨_, rfl⟩
        rw [hbv] at hS
        have HS2 := Lib.hid hS
        have Hbv := Lib.hid hbv
        have Hm2 := Lib.hid hm2
        have HF := Lib.hid (hF.alloc (.cells #[.int .i64 jk, .int .i64 jn, .string ⟨jt.toArray⟩, .slice y1 jl.length n1, .slice y2 jp.length n2] 25))
        have HFf := Lib.hid ((hF0.trans' hF).alloc (.cells #[.int .i64 jk, .int .i64 jn, .string ⟨jt.toArray⟩, .slice y1 jl.length n1, .slice y2 jp.length n2] 25))
        clear hS HS hrj hF hbv hval hm2
        cases bv
        · go_wp2_with fail
          refine (ih _ hsj S _ _ m Hrj.out hm1 Hm2.out).mono ?_
          rintro e w1 ⟨rfl, hF1⟩
          rw [Hbv.out]
          go_wp2_with fail
          go_roundg (gk - 1)
          case measure => omega
          case rel => exact ⟨i + 1, by simp, by omega, by omega, HF.out.trans' hF1, by have := HS2.out; simp at this; exact Lib.hid (by simpa using this)⟩
        · go_wp2_with fail
          refine (ih _ hsj S _ _ m Hrj.out hm1 Hm2.out).mono ?_
          rintro e w1 ⟨rfl, hF1⟩
          rw [Hbv.out]
          go_wp2_with fail
          go_ret
          have hR := HS2.out
          simp at hR
          subst hR
          exact ⟨rfl, HFf.out.trans' hF1⟩
      · obtain rfl : i = l.length := by omega
        have hbw := hF.block _ _ Hx.out (fun h => h)
        obtain ⟨d0, d1, d2, d3, d4, dz, dlt⟩ := VB.at hbw
        have hS := HS.out
        simp [pLongl] at hS
        have HS2 := Lib.hid hS
        have hFx := hF
        clear hS HS
        go_wp2_with fail
        go_loopg [24] (p.length + 1) (fun g vi wr => ∃ (i : Nat), vi = .int .i64 i ∧ i ≤ p.length ∧ i + g = p.length + 1 ∧ Fr NoB (w.alloc (.cells #[.int .i64 k, .int .i64 n0, .string ⟨t.toArray⟩, .slice a1 l.length c1, .slice a2 p.length c2] 25)) wr ∧ Hid (pLongp (p.drop i) = R))
        case atStart => exact ⟨0, rfl, by omega, by omega, hFx, HS2⟩
        case round =>
          clear hFx HS2 hF hgk hi hge d0 d1 d2 d3 d4 dz dlt hbw
          obtain ⟨i, rfl, hi, hgk, hF, HS⟩ := hrel
          rcases Nat.lt_or_ge i p.length with hlt | hge
          · obtain ⟨⟨nm, j⟩, hj⟩ : ∃ j, p[i]? = some j := ⟨_, List.getElem?_eq_getElem hlt⟩
            obtain ⟨b, o, x0, x1, x2, x3, x4, rfl, hbl, e0, e1, e2, e3, e4, e5, hrj⟩ := (Hp.out.kp (Kp.ofFr (hF0.trans' hF))).at hj
            obtain ⟨m, hm1, hm2⟩ := HP.out i nm j hj
            have hsj : SizeOf.sizeOf j < N := by
              have := List.sizeOf_lt_of_mem (List.mem_of_getElem? hj)
              have := Hs.out
              simp only [J.mk.sizeOf_spec, Prod.mk.sizeOf_spec] at *
              omega
            obtain ⟨jk, jn, jt, jl, jp⟩ := j
            obtain ⟨y1, n1, y2, n2, hval, _, _⟩ := hrj.open
            obtain ⟨rfl, rfl, rfl, rfl, rfl⟩ : x0 = .int .i64 jk ∧ x1 = .int .i64 jn ∧ x2 = .string ⟨jt.toArray⟩ ∧ x3 = .slice y1 jl.length n1 ∧ x4 = .slice y2 jp.length n2 := by simpa using hval
            obtain ⟨f', f0, f1, f2, f3, f4, fz, flt⟩ := PB.at (heap_alloc_new wr (.cells #[.string ⟨nm.toArray⟩, .int .i64 jk, .int .i64 jn, .string ⟨jt.toArray⟩, .slice y1 jl.length n1, .slice y2 jp.length n2] 62))
            have Hrj := Lib.hid (RJ.kp (Kp.ofFr ((Fr.refl (M := NoB)).alloc (.cells #[.string ⟨nm.toArray⟩, .int .i64 jk, .int .i64 jn, .string ⟨jt.toArray⟩, .slice y1 jl.length n1, .slice y2 jp.length n2] 62))) _ _ hrj)
            have hS := HS.out
            rw [drop_at hj, pLongp] at hS
            obtain ⟨bv, hbv⟩ : ∃ bv, pLong (.mk jk jn jt jl jp) = bv := ⟨_, rfl⟩
            rw [hbv] at hS
            have Hbv := Lib.hid hbv
            have Hm2 := Lib.hid hm2
            have HF := Lib.hid (hF.alloc (.cells #[.string ⟨nm.toArray⟩, .int .i64 jk, .int .i64 jn, .string ⟨jt.toArray⟩, .slice y1 jl.length n1, .slice y2 jp.length n2] 62))
            have HFf := Lib.hid ((hF0.trans' hF).alloc (.cells #[.string ⟨nm.toArray⟩, .int .i64 jk, .int .i64 jn, .string ⟨jt.toArray⟩, .slice y1 jl.length n1, .slice y2 jp.length n2] 62))
            clear HS hrj hF hbv hval hm2
            by_cases hnm : 5000 < nm.length
            · rw [decide_eq_true hnm] at hS
              have HS2 := Lib.hid hS
              clear hS
              go_wp2_with fail
              go_ret
              have hR := HS2.out
              simp at hR
              subst hR
              exact ⟨rfl, HFf.out⟩
            · rw [decide_eq_false hnm] at hS
              have HS2 := Lib.hid hS
              clear hS
              cases bv
              · go_wp2_with fail
                refine (ih _ hsj S _ _ m Hrj.out hm1 Hm2.out).mono ?_
                rintro e w1 ⟨rfl, hF1⟩
                rw [Hbv.out]
                go_wp2_with fail
                go_roundg (gk - 1)
                case measure => omega
                case rel => exact ⟨i + 1, by simp, by omega, by omega, HF.out.trans' hF1, by have := HS2.out; exact Lib.hid (by simpa using this)⟩
              · go_wp2_with fail
                refine (ih _ hsj S _ _ m Hrj.out hm1 Hm2.out).mono ?_
                rintro e w1 ⟨rfl, hF1⟩
                rw [Hbv.out]
                go_wp2_with fail
                go_ret
                have hR := HS2.out
                simp at hR
                subst hR
                exact ⟨rfl, HFf.out.trans' hF1⟩
          · obtain rfl : i = p.length := by omega
            have hR := HS.out
            simp [pLongp] at hR
            subst hR
            have HF := Lib.hid (hF0.trans' hF)
            clear hF HS
            go_wp2_with fail
            go_ret
            exact ⟨by simp, HF.out⟩
theorem long_c : ∀ N, LongOk N := by
  intro N
  induction N with
  | zero => intro j hj; omega
  | succ N ih =>
    intro j hj S v w last h h0 h1
    obtain ⟨k, n, t, l, p⟩ := j
    exact long_step N ih S k n t l p v w last h h0 h1 (by omega)
end Go.Proofs.YtbfmpbhikipipaaGreatDoor
namespace Go.Proofs.YtbfmpbhikipipaaGreatDoor
set_option linter.unusedVariables false
set_option linter.unusedSimpArgs false
set_option linter.unusedSectionVars false
open Go.RowKit
variable [OldK]

set_option maxRecDepth 100000 in
set_option maxHeartbeats 2000000 in
theorem heavy_c (S : Nat → Prop) (j : J) (v : Value) (w : World) (h : RJ S w j v) :
    Calls Tryz.prog 8 #[v] w fun e w' => e = .returned (.bool (pHeavy j)) ∧ Fr NoB w w' := by
  have hm := many_bounds j 200
  obtain ⟨m, hmm⟩ : ∃ m, pMany j 200 = m := ⟨_, rfl⟩
  have e : pHeavy j = (decide (200 < m) || pLong j) := by rw [← hmm]; rfl
  rw [e]
  have Hm := Lib.hid hmm
  rw [hmm] at hm
  clear e hmm
  obtain ⟨k, n, t, l, p⟩ := j
  obtain ⟨a1, c1, a2, c2, rfl, _, _⟩ := h.open
  have hx := heap_alloc_new w (.cells #[.int .i64 k, .int .i64 n, .string ⟨t.toArray⟩, .slice a1 l.length c1, .slice a2 p.length c2] 25)
  obtain ⟨d0, d1, d2, d3, d4, dz, dlt⟩ := VB.at hx
  have hF0 : Fr NoB w (w.alloc (.cells #[.int .i64 k, .int .i64 n, .string ⟨t.toArray⟩, .slice a1 l.length c1, .slice a2 p.length c2] 25)) := Fr.refl.alloc _
  have Hrj := Lib.hid (RJ.kp (Kp.ofFr hF0) _ _ h)
  have Hx := Lib.hid hx
  clear h hx
  by_cases hc : 200 < m
  · rw [decide_eq_true hc]
    go_enter Tryz.func8, Tryz.ntmps8
    go_wp2_with fail
    refine (many_c _ _ (Nat.lt_succ_self _) S _ _ 200 Hrj.out (by decide) (by decide)).mono ?_
    rintro e w1 ⟨rfl, hF1⟩
    rw [Hm.out]
    go_wp2_with fail
    go_ret
    exact ⟨rfl, hF0.trans' hF1⟩
  · rw [decide_eq_false hc]
    go_enter Tryz.func8, Tryz.ntmps8
    go_wp2_with fail
    refine (many_c _ _ (Nat.lt_succ_self _) S _ _ 200 Hrj.out (by decide) (by decide)).mono ?_
    rintro e w1 ⟨rfl, hF1⟩
    rw [Hm.out]
    have hbw := hF1.block _ _ Hx.out (fun h => h)
    obtain ⟨d0, d1, d2, d3, d4, dz, dlt⟩ := VB.at hbw
    go_wp2_with fail
    refine (long_c _ _ (Nat.lt_succ_self _) S _ _ 200 (RJ.kp (Kp.ofFr hF1) _ _ Hrj.out) (by decide) (by rw [Hm.out]; omega)).mono ?_
    rintro e w2 ⟨rfl, hF2⟩
    go_wp2_with fail
    go_ret
    exact ⟨by have h2 := hm; simp; omega, (hF0.trans' hF1).trans' hF2⟩
end Go.Proofs.YtbfmpbhikipipaaGreatDoor
