/-
  The reference's Get.
-/
import Derived.Test.YtbfmpbhikipipaaGreatDoorKLen
import Derived.Test.YtbfmpbhikipipaaGreatDoorKParse
import Derived.Test.YtbfmpbhikipipaaGreatDoorKCellRows
import Derived.Test.YtbfmpbhikipipaaGreatDoorKReader8
import Derived.Test.YtbfmpbhikipipaaGreatDoorKSorted2
namespace Go.Proofs.YtbfmpbhikipipaaGreatDoor
set_option linter.unusedVariables false
set_option linter.unusedSimpArgs false
set_option linter.unusedSectionVars false
open Go.RowKit
variable [OldK]
theorem two_new (w : World) (a b : Obj) : ((w.alloc a).alloc b).heap[w.heap.size]? = some a ∧ ((w.alloc a).alloc b).heap[w.heap.size + 1]? = some b := by
  have s1 : (w.alloc a).heap.size = w.heap.size + 1 := World.size_alloc _ _
  have e2 := heap_alloc_new (w.alloc a) b
  rw [s1] at e2
  refine ⟨?_, e2⟩
  rw [Below.heap_alloc _ _ _ (by omega)]
  exact heap_alloc_new w a
theorem pGet_obj (n : Int) (t : Bs) (l : List J) (p : List (Bs × J)) (nm : Bs) : pGet (.mk 5 n t l p) nm = pGetL nm p := by
  unfold pGet
  exact if_pos rfl
theorem pGet_no {k : Int} (n : Int) (t : Bs) (l : List J) (p : List (Bs × J)) (nm : Bs) (h : ¬ k = 5) : pGet (.mk k n t l p) nm = none := by
  unfold pGet
  exact if_neg h
set_option maxRecDepth 100000 in
set_option maxHeartbeats 4000000 in
theorem tget_c (S : Nat → Prop) (j : J) (v : Value) (nm : Bs) (w : World) (h : RJ S w j v) (hpl : j.pairs.length ≤ 67108864) :
    Calls Tryz.prog 88 #[v, .string ⟨nm.toArray⟩] w fun e W' => ∃ x, e = .returned (.tuple #[x, .bool (pGet j nm).isSome]) ∧ RJ S W' ((pGet j nm).getD J.zero) x ∧ Fr NoB w W' := by
  obtain ⟨k, n, t, l, p⟩ := j
  obtain ⟨a1, c1, a2, c2, rfl, hl, hp⟩ := h.open
  simp only [J.pairs] at hpl
  have Hp := Lib.hid hp.lt
  have hal := two_new w (.cells #[.int .i64 k, .int .i64 n, .string ⟨t.toArray⟩, .slice a1 l.length c1, .slice a2 p.length c2] 25) (.cells #[.int .i64 0, .int .i64 0, .string ⟨#[]⟩, .slice none 0 0, .slice none 0 0] 25)
  have HF0 : Hid (Fr NoB w ((w.alloc (.cells #[.int .i64 k, .int .i64 n, .string ⟨t.toArray⟩, .slice a1 l.length c1, .slice a2 p.length c2] 25)).alloc (.cells #[.int .i64 0, .int .i64 0, .string ⟨#[]⟩, .slice none 0 0, .slice none 0 0] 25))) := Lib.hid ((Fr.refl.alloc _).alloc _)
  obtain ⟨hA, hB⟩ := hal
  have HA := Lib.hid hA
  have HB := Lib.hid hB
  obtain ⟨P, hP⟩ : ∃ P, pGetL nm p = P := ⟨_, rfl⟩
  have HP : Hid (pGetL nm (p.drop 0) = P) := Lib.hid hP
  clear hA hB hp hl h
  by_cases hk : k = 5
  · subst hk
    rw [pGet_obj, hP]
    clear hP
    go_enter Tryz.func88, Tryz.ntmps88
    go_wp2_with fail
    go_loopg [6] (p.length + 1) (fun g vi wr => ∃ i : Nat, vi = .int .i64 i ∧ i ≤ p.length ∧ i + g = p.length + 1 ∧
      wr.heap[w.heap.size]? = some (.cells #[.int .i64 5, .int .i64 n, .string ⟨t.toArray⟩, .slice a1 l.length c1, .slice a2 p.length c2] 25 (0, 0)) ∧
      wr.heap[w.heap.size + 1]? = some (.cells #[.int .i64 0, .int .i64 0, .string ⟨#[]⟩, .slice none 0 0, .slice none 0 0] 25 (0, 0)) ∧ Hid (Fr NoB w wr) ∧ Hid (pGetL nm (p.drop i) = P))
    case atStart => exact ⟨0, rfl, by omega, by omega, HA.out, HB.out, HF0, HP⟩
    case round =>
      obtain ⟨i, rfl, hi, hig, hA, hB, HF, HPi⟩ := hrel
      clear HA HB HF0 HP
      obtain ⟨v0, v1, v2, v3, v4, vz, vlt⟩ := VB.at hA
      obtain ⟨r0, r1, r2, r3, r4, rz, rlt⟩ := VB.at hB
      have HA := Lib.hid hA
      have HB := Lib.hid hB
      clear hA hB
      rcases Nat.lt_or_ge i p.length with hlt | hge
      · obtain ⟨⟨nm', j'⟩, hj⟩ : ∃ q, p[i]? = some q := ⟨_, List.getElem?_eq_getElem hlt⟩
        obtain ⟨b, o, x0, x1, x2, x3, x4, rfl, hbl, e5, e0, e1, e2, e3, e4, hrj⟩ := (Hp.out.kp (Kp.ofFr HF.out)).at hj
        have hd : p.drop i = (nm', j') :: p.drop (i + 1) := by
          rw [List.drop_eq_getElem_cons hlt]
          congr 1
          exact (List.getElem?_eq_some_iff.1 hj).2
        have hPi := HPi.out
        rw [hd, pGetL] at hPi
        clear HPi hd
        by_cases he : nm' = nm
        · subst he
          rw [if_pos rfl] at hPi
          subst hPi
          obtain ⟨jk, jn, jt, jl, jp⟩ := j'
          obtain ⟨y1, m1, y2, m2, hx, _, _⟩ := hrj.open
          simp only [Value.agg.injEq, Array.mk.injEq, List.cons.injEq, and_true] at hx
          obtain ⟨rfl, rfl, rfl, rfl, rfl⟩ := hx
          have Hrj := Lib.hid hrj
          clear hrj hj
          go_wp2_with fail
          refine bodyPost_ret (v := .tuple #[.agg #[.int .i64 jk, .int .i64 jn, .string ⟨jt.toArray⟩, .slice y1 jl.length m1, .slice y2 jp.length m2], .bool true]) (by simp [results, Tryz.results88, go_sem, r0, r1, r2, r3, r4]) rfl ?_
          have hFs : Fr NoB w (setV (w.heap.size + 1) (.int .i64 jk) (.int .i64 jn) (.string ⟨jt.toArray⟩) (.slice y1 jl.length m1) (.slice y2 jp.length m2) wr) := HF.out.trans (setV_fr _ _ _ _ _ _ _) (fun k _ hm => .inr (by omega))
          refine ⟨_, rfl, ?_, hFs⟩
          exact RJ.kp (fun q o hq ho _ => ⟨hq.1, (setV_fr _ _ _ _ _ _ _).block q o ho (by have := hq.2; omega)⟩) _ _ Hrj.out
        · rw [if_neg he] at hPi
          have HPi := Lib.hid hPi
          have hne : (nm' == nm) = false := by rw [beq_eq_false_iff_ne]; exact he
          clear he hPi hrj hj
          go_wp2_with fail
          go_roundg (gk - 1)
          case measure => omega
          case rel => exact ⟨i + 1, by simp, by omega, by omega, HA.out, HB.out, HF, HPi⟩
      · obtain rfl : i = p.length := by omega
        have hPi := HPi.out
        rw [List.drop_length, pGetL] at hPi
        subst hPi
        clear HPi
        go_wp2_with fail
        refine bodyPost_ret (v := .tuple #[.agg #[.int .i64 0, .int .i64 0, .string ⟨#[]⟩, .slice none 0 0, .slice none 0 0], .bool false]) (by simp [results, Tryz.results88, go_sem, r0, r1, r2, r3, r4]) rfl ?_
        exact ⟨_, rfl, RJ.zero _ _, HF.out.trans (setV_fr _ _ _ _ _ _ _) (fun k _ hm => .inr (by omega))⟩
  · rw [pGet_no _ _ _ _ _ hk]
    clear hP
    have hk5 : (k == 5) = false := by rw [beq_eq_false_iff_ne]; exact hk
    clear hk
    go_enter Tryz.func88, Tryz.ntmps88
    go_wp2_with fail
    go_loopg [6] 1 (fun g vi wr => vi = .int .i64 0 ∧
      wr.heap[w.heap.size]? = some (.cells #[.int .i64 k, .int .i64 n, .string ⟨t.toArray⟩, .slice a1 l.length c1, .slice a2 p.length c2] 25 (0, 0)) ∧
      wr.heap[w.heap.size + 1]? = some (.cells #[.int .i64 0, .int .i64 0, .string ⟨#[]⟩, .slice none 0 0, .slice none 0 0] 25 (0, 0)) ∧ Hid (Fr NoB w wr))
    case atStart => exact ⟨rfl, HA.out, HB.out, HF0⟩
    case round =>
      obtain ⟨rfl, hA, hB, HF⟩ := hrel
      clear HA HB HF0 HP
      obtain ⟨v0, v1, v2, v3, v4, vz, vlt⟩ := VB.at hA
      obtain ⟨r0, r1, r2, r3, r4, rz, rlt⟩ := VB.at hB
      clear hA hB
      rcases Nat.eq_zero_or_pos p.length with h0 | h0
      all_goals
        go_wp2_with fail
        refine bodyPost_ret (v := .tuple #[.agg #[.int .i64 0, .int .i64 0, .string ⟨#[]⟩, .slice none 0 0, .slice none 0 0], .bool false]) (by simp [results, Tryz.results88, go_sem, r0, r1, r2, r3, r4]) rfl ?_
        exact ⟨_, rfl, RJ.zero _ _, HF.out.trans (setV_fr _ _ _ _ _ _ _) (fun k _ hm => .inr (by omega))⟩
end Go.Proofs.YtbfmpbhikipipaaGreatDoor
