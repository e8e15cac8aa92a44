/-
  The walks of json.Names and json.Get.
-/
import Derived.RangeFuncNested
import Derived.RangeFuncBound
import Derived.RangeFuncCalls
import Derived.RangeFuncLeaves
import Derived.Shelf.Abstract
import Derived.Shelf.RegionOpen
import Derived.OwnWalkIn
import Derived.TacticsInMore
import Derived.LoopNIn
import Derived.LoopIn
import Derived.Test.YtbfmpbhikipipaaGreatDoorKParse
import Derived.Test.YtbfmpbhikipipaaGreatDoorKSound3
import Derived.Test.YtbfmpbhikipipaaGreatDoorKLen
import Derived.Test.YtbfmpbhikipipaaGreatDoorKHeavyAll
import Derived.Test.YtbfmpbhikipipaaGreatDoorKRefText
import Derived.StillTailTactics
namespace Go.Proofs.YtbfmpbhikipipaaGreatDoor
set_option linter.unusedVariables false
set_option linter.unusedSimpArgs false
set_option linter.unusedSectionVars false
open Go.RowKit Go.Shelf
variable [OldK]
attribute [local go_sem] Oper.semAt_some

def PV.enc (x : PV) : Array Value := #[.string ⟨x.nm.toArray⟩, .agg #[.int .i64 x.k, .int .i64 x.n, .string ⟨x.t.toArray⟩, .slice x.a1 x.n1 x.c1, .slice x.a2 x.n2 x.c2]]
theorem list_choose {α : Type} (P : Nat → α → Prop) : ∀ n : Nat, (∀ i, i < n → ∃ y, P i y) → ∃ xs : List α, xs.length = n ∧ ∀ i y, xs[i]? = some y → P i y := by
  intro n
  induction n with
  | zero => intro _; exact ⟨[], rfl, fun i y h => by simp at h⟩
  | succ n ih =>
    intro h
    obtain ⟨xs, hl, hx⟩ := ih (fun i hi => h i (by omega))
    obtain ⟨y, hy⟩ := h n (by omega)
    refine ⟨xs ++ [y], by simp [hl], fun i z hz => ?_⟩
    rcases Nat.lt_trichotomy i n with hi | hi | hi
    · rw [List.getElem?_append_left (by omega)] at hz
      exact hx i z hz
    · subst hi
      rw [List.getElem?_append_right (by omega), hl] at hz
      simp at hz; subst hz; exact hy
    · rw [List.getElem?_eq_none (by simp; omega)] at hz
      cases hz
/-- these pairs lie in the row at g, o -/
def GRow (n₀ g o : Nat) (xs : List PV) (W : World) : Prop := g < n₀ ∧ ∀ (i : Nat) (x : PV), xs[i]? = some x → W.cell? ⟨g, o + i * 6, none⟩ = some (.string ⟨x.nm.toArray⟩) ∧ W.cell? ⟨g, o + i * 6 + 1, none⟩ = some (.int .i64 x.k) ∧ W.cell? ⟨g, o + i * 6 + 2, none⟩ = some (.int .i64 x.n) ∧ W.cell? ⟨g, o + i * 6 + 3, none⟩ = some (.string ⟨x.t.toArray⟩) ∧ W.cell? ⟨g, o + i * 6 + 4, none⟩ = some (.slice x.a1 x.n1 x.c1) ∧ W.cell? ⟨g, o + i * 6 + 5, none⟩ = some (.slice x.a2 x.n2 x.c2)
theorem GRow.below {n₀ g o : Nat} {xs : List PV} {A B : World} (h : GRow n₀ g o xs A) (hb : Below n₀ A B) : GRow n₀ g o xs B := by
  refine ⟨h.1, fun i x hx => ?_⟩
  obtain ⟨e0, e1, e2, e3, e4, e5⟩ := h.2 i x hx
  have c := fun k v (hc : A.cell? ⟨g, k, none⟩ = some v) => (hb.cell (p := ⟨g, k, none⟩) h.1).trans hc
  exact ⟨c _ _ e0, c _ _ e1, c _ _ e2, c _ _ e3, c _ _ e4, c _ _ e5⟩
set_option maxRecDepth 100000 in
set_option maxHeartbeats 2000000 in
theorem names1_in (F : Fence) (n : Nat) (h7 : F.fn 100) (hro : F.round = none) (hn : 1 ≤ n) (l Bs n₀ g o len cap : Nat) (xs : List PV) (hlen : xs.length = len) (hll : len ≤ 67108864) (J Jx : List PV → World → Prop)
    (hY : ∀ pre x W, J pre W → pre.length < len → YieldAt F (n - 1) Tryz.prog l (PV.enc x) W fun e W' =>
      (e = .returned (.bool true) ∧ J (pre ++ [x]) W' ∧ Below n₀ W W') ∨ (e = .returned (.bool false) ∧ Jx (pre ++ [x]) W'))
    (W : World) (hBs : Bs < n₀) (hn₀ : n₀ ≤ W.heap.size) (hB0 : W.cell? ⟨Bs, 0, none⟩ = some (.int .i64 5)) (hB4 : W.cell? ⟨Bs, 4, none⟩ = some (.slice (some ⟨g, o, none⟩) len cap)) (hr : GRow n₀ g o xs W) (h0 : J [] W)
    (hJ : AbidesFrom W.heap.size J) :
    CallsIn F n Tryz.prog 100 #[.func (.yield l) #[] #[], .pointer (some ⟨Bs, 0, none⟩)] W fun e W' => (∃ v, e = .returned v) ∧
      ((∃ ys, ys = xs ∧ J ys W') ∨ (∃ pre, pre <+: xs ∧ Jx pre W')) := by
  refine callsIn_of_wp Tryz.func100 rfl h7 ?_ hro
  simp only [Tryz.ntmps100, List.size_toArray, List.length_cons, List.length_nil, Nat.reduceAdd, Nat.reduceSub, Array.replicate_succ, Array.replicate_zero, List.push_toArray, List.append_toArray, List.nil_append, List.cons_append]
  gi_wp2
  gi_loopw [11] (fun i wr => ∃ k : Nat, k ≤ len ∧ i = .int .i64 k ∧ J (xs.take k) wr ∧ Below n₀ W wr ∧ W.heap.size ≤ wr.heap.size)
    (fun i _ => len - (intOf i).toNat)
  case atStart => exact ⟨0, Nat.zero_le _, rfl, h0, Below.refl _ _, Nat.le_refl _⟩
  case round =>
    obtain ⟨k, hk, rfl, hJs, hnx, hsz⟩ := hrel
    by_cases hlt : k < len
    · obtain ⟨x, hx⟩ : ∃ x, xs[k]? = some x := ⟨_, List.getElem?_eq_getElem (by omega)⟩
      obtain ⟨e0, e1, e2, e3, e4, e5⟩ := (hr.below hnx).2 k x hx
      have hJ1 := hJ _ _ (wr.alloc (.cells #[.string ⟨x.nm.toArray⟩, .int .i64 x.k, .int .i64 x.n, .string ⟨x.t.toArray⟩, .slice x.a1 x.n1 x.c1, .slice x.a2 x.n2 x.c2] 62)) none hJs (World.grownBy_alloc wr _ none) (fun r e => by cases e)
      obtain ⟨fn, tmps, assign, body, hy, hR⟩ := hY _ x _ hJ1 (by rw [List.length_take]; omega)
      unfold PV.enc at hy
      have HX := Lib.hid hx
      have Hnx := Lib.hid hnx
      clear hx hnx hJs hJ1
      gi_wp2
      refine hR.mono ?_
      rintro e W3 (⟨rfl, hJ3, hk3⟩ | ⟨rfl, hJx3⟩)
      · have hB3 : Below n₀ W W3 := (Hnx.out.trans ((Below.refl n₀ wr).alloc (by omega) _)).trans hk3
        have hs3 := hk3.size
        rw [World.size_alloc] at hs3
        have HB3 := Lib.hid hB3
        clear hB3 hk3
        gi_wp2
        go_roundw
        case rel => exact ⟨k + 1, by omega, by simp, by rw [List.take_add_one, HX.out]; exact hJ3, HB3.out, by omega⟩
        case measure => simp [intOf]; omega
      · gi_wp2
        refine bodyPost_ret (results_none rfl _ _ _) rfl ?_
        exact ⟨⟨_, rfl⟩, .inr ⟨_, ⟨xs.drop (k + 1), by
          have h2 := HX.out
          obtain ⟨h3, rfl⟩ := List.getElem?_eq_some_iff.1 h2
          rw [List.append_assoc, List.singleton_append, ← List.drop_eq_getElem_cons h3, List.take_append_drop]⟩, hJx3⟩⟩
    · obtain rfl : k = len := by omega
      have e : xs.take k = xs := List.take_of_length_le (by omega)
      rw [e] at hJs
      gi_wp2
      go_end0
      exact ⟨⟨_, rfl⟩, .inl ⟨_, rfl, hJs⟩⟩
set_option maxRecDepth 100000 in
set_option maxHeartbeats 1000000 in
/-- no pairs, or no object -/
theorem names1_none (F : Fence) (n : Nat) (h7 : F.fn 100) (hro : F.round = none) (l Bs : Nat) (k : Int) (a : Option Addr) (len cap : Nat) (J : List PV → World → Prop)
    (W : World) (hB0 : W.cell? ⟨Bs, 0, none⟩ = some (.int .i64 k)) (hB4 : W.cell? ⟨Bs, 4, none⟩ = some (.slice a len cap)) (hk : (k != 5) = true ∨ ((k != 5) = false ∧ len = 0)) (h0 : J [] W) :
    CallsIn F n Tryz.prog 100 #[.func (.yield l) #[] #[], .pointer (some ⟨Bs, 0, none⟩)] W fun e W' => (∃ v, e = .returned v) ∧ J [] W' := by
  refine callsIn_of_wp Tryz.func100 rfl h7 ?_ hro
  simp only [Tryz.ntmps100, List.size_toArray, List.length_cons, List.length_nil, Nat.reduceAdd, Nat.reduceSub, Array.replicate_succ, Array.replicate_zero, List.push_toArray, List.append_toArray, List.nil_append, List.cons_append]
  rcases hk with hk | ⟨hk, rfl⟩
  · gi_wp2
    refine bodyPost_ret (results_none rfl _ _ _) rfl ?_
    exact ⟨⟨_, rfl⟩, h0⟩
  · gi_wp2
    gi_loopw [11] (fun i wr => i = .int .i64 0 ∧ J [] wr) (fun _ _ => 0)
    case atStart => exact ⟨rfl, h0⟩
    case round =>
      obtain ⟨rfl, hJs⟩ := hrel
      gi_wp2
      go_end0
      exact ⟨⟨_, rfl⟩, hJs⟩
set_option maxHeartbeats 1000000 in
theorem names_in (F : Fence) (n : Nat) (h5 : F.fn 80) (hro : F.round = none) (c0 c1 c2 c3 c4 : Value) (w : World) :
    CallsIn F n Tryz.prog 80 #[.agg #[c0, c1, c2, c3, c4]] w fun e w' => e = .returned (.func (.func 100) #[] #[.pointer (some ⟨w.heap.size, 0, none⟩)]) ∧ w' = w.alloc (.cells #[c0, c1, c2, c3, c4] 25) := by
  refine callsIn_of_wp Tryz.func80 rfl h5 ?_ hro
  simp only [Tryz.ntmps80, List.size_toArray, List.length_cons, List.length_nil, Nat.reduceAdd, Nat.reduceSub, Array.replicate_succ, Array.replicate_zero, List.push_toArray, List.append_toArray, List.nil_append, List.cons_append]
  gi_wp2
  go_ret
  exact ⟨rfl, rfl⟩
/-- json.Names: these pairs, in their order -/
theorem names_stops (F : Fence) (n : Nat) (h7 : F.fn 100) (hro : F.round = none) (hn : 1 ≤ n) (Bs n₀ : Nat) (k : Int) (a : Option Addr) (len cap : Nat) (xs : List PV) (hll : len ≤ 67108864) (w : World) (hBs : Bs < n₀) (hn₀ : n₀ ≤ w.heap.size)
    (hB0 : w.cell? ⟨Bs, 0, none⟩ = some (.int .i64 k)) (hB4 : w.cell? ⟨Bs, 4, none⟩ = some (.slice a len cap)) (hx : (xs = [] ∧ (k ≠ 5 ∨ len = 0)) ∨ (k = 5 ∧ xs.length = len ∧ ∃ g o, a = some ⟨g, o, none⟩ ∧ GRow n₀ g o xs w)) :
    SeqStopsK F n Tryz.prog 100 #[.pointer (some ⟨Bs, 0, none⟩)] PV.enc (Below n₀) (fun ys => ys = xs) (fun pre => pre <+: xs) xs.length w := fun l J Jx W hW hJ _ hY h0 => by
  have hWn := hW.mono hn₀
  have hc0 := (hWn.cell (p := ⟨Bs, 0, none⟩) hBs).trans hB0
  have hc4 := (hWn.cell (p := ⟨Bs, 4, none⟩) hBs).trans hB4
  rcases hx with ⟨rfl, hk⟩ | ⟨rfl, rfl, g, o, rfl, hr⟩
  · refine (names1_none F n h7 hro l Bs k a len cap J W hc0 hc4 ?_ h0).mono fun e W' ⟨he, hj⟩ => ⟨he, .inl ⟨_, rfl, hj⟩⟩
    by_cases h5 : k = 5
    · exact .inr ⟨by simpa using h5, hk.resolve_left (fun h => h h5)⟩
    · exact .inl (by simpa using h5)
  · exact names1_in F n h7 hro hn l Bs n₀ g o xs.length cap xs rfl hll J Jx hY W hBs (Nat.le_trans hn₀ hW.size) hc0 hc4 (hr.below hWn) h0 hJ
theorem rowp_list {S : Nat → Prop} {w : World} {p : List (Bs × J)} {a : Option Addr} (h : RowP S w p a) (hp : p ≠ []) :
    ∃ g o xs, a = some ⟨g, o, none⟩ ∧ g < w.heap.size ∧ xs.length = p.length ∧ GRow w.heap.size g o xs w ∧ ∀ (i : Nat) (x : PV) (nm : Bs) (j : J), xs[i]? = some x → p[i]? = some (nm, j) → x.nm = nm ∧ RJ S w j x.val := by
  obtain ⟨q, p', rfl⟩ : ∃ q p', p = q :: p' := by
    cases p with
    | nil => exact absurd rfl hp
    | cons q p' => exact ⟨q, p', rfl⟩
  obtain ⟨b, o, -, -, -, -, -, ha, hlt, -⟩ := h.at (i := 0) (nm := q.1) (j := q.2) rfl
  obtain ⟨xs, hl, hx⟩ := list_choose (α := PV) (fun i y => w.cell? ⟨b, o + i * 6, none⟩ = some (.string ⟨y.nm.toArray⟩) ∧ w.cell? ⟨b, o + i * 6 + 1, none⟩ = some (.int .i64 y.k) ∧ w.cell? ⟨b, o + i * 6 + 2, none⟩ = some (.int .i64 y.n) ∧ w.cell? ⟨b, o + i * 6 + 3, none⟩ = some (.string ⟨y.t.toArray⟩) ∧ w.cell? ⟨b, o + i * 6 + 4, none⟩ = some (.slice y.a1 y.n1 y.c1) ∧ w.cell? ⟨b, o + i * 6 + 5, none⟩ = some (.slice y.a2 y.n2 y.c2) ∧ ∀ nm j, (q :: p')[i]? = some (nm, j) → y.nm = nm ∧ RJ S w j y.val) (q :: p').length (fun i hi => by
    obtain ⟨⟨nm, j⟩, hj⟩ : ∃ r, (q :: p')[i]? = some r := ⟨_, List.getElem?_eq_getElem hi⟩
    obtain ⟨b', o', x0, x1, x2, x3, x4, eb, hbl, e5, e0, e1, e2, e3, e4, hrj⟩ := h.at hj
    obtain ⟨rfl, rfl⟩ : b = b' ∧ o = o' := by rw [ha] at eb; simpa using eb
    obtain ⟨jk, jn, jt, jl, jp⟩ := j
    obtain ⟨y1, n1, y2, n2, hval, _, _⟩ := hrj.open
    obtain ⟨rfl, rfl, rfl, rfl, rfl⟩ : x0 = .int .i64 jk ∧ x1 = .int .i64 jn ∧ x2 = .string ⟨jt.toArray⟩ ∧ x3 = .slice y1 jl.length n1 ∧ x4 = .slice y2 jp.length n2 := by simpa using hval
    exact ⟨⟨nm, jk, jn, jt, y1, jl.length, n1, y2, jp.length, n2⟩, e5, e0, e1, e2, e3, e4, fun nm' j' h' => by rw [hj] at h'; cases h'; exact ⟨rfl, hrj⟩⟩)
  exact ⟨b, o, xs, ha, hlt, hl, ⟨hlt, fun i x hi => by obtain ⟨e0, e1, e2, e3, e4, e5, _⟩ := hx i x hi; exact ⟨e0, e1, e2, e3, e4, e5⟩⟩, fun i x nm j hi hj => (hx i x hi).2.2.2.2.2.2 nm j hj⟩
theorem getL_none {nm : Bs} : ∀ {p : List (Bs × J)}, (∀ q ∈ p, q.1 ≠ nm) → pGetL nm p = none := by
  intro p
  induction p with
  | nil => intro _; rfl
  | cons q p ih => intro h; obtain ⟨n, x⟩ := q; rw [pGetL, if_neg (h (n, x) (by simp)), ih (fun r hr => h r (by simp [hr]))]
theorem getL_at {nm : Bs} {j : J} : ∀ {p : List (Bs × J)} {i : Nat}, p[i]? = some (nm, j) → (∀ k, k < i → ∀ q, p[k]? = some q → q.1 ≠ nm) → pGetL nm p = some j := by
  intro p
  induction p with
  | nil => intro i h; simp at h
  | cons q p ih =>
    intro i h h2
    obtain ⟨n, x⟩ := q
    cases i with
    | zero => simp at h; obtain ⟨rfl, rfl⟩ := h; rw [pGetL, if_pos rfl]
    | succ i => rw [pGetL, if_neg (h2 0 (by omega) (n, x) rfl), ih (i := i) (by simpa using h) (fun k hk q hq => h2 (k + 1) (by omega) q (by simpa using hq))]
theorem own_block {β : Type} (k : Nat) (cs : Array Value) (T : TypeId) (f : Nat × Nat) : Own (fun (_ : β) W => W.heap[k]? = some (.cells cs T f)) := fun s W W' row hs hg hr => by
  refine (hg.block k (get_lt hs) (fun e => ?_)).trans hs
  obtain ⟨o, ho, hc⟩ := hr k e.symm
  rw [hs] at ho
  cases ho
  cases hc
theorem six_stores {b : Nat} {W : World} {T : TypeId} {q0 q1 q2 q3 q4 r : Value} (h2 : W.heap[b]? = some (.cells #[q0, q1, q2, q3, q4] 25 (0, 0))) (h3 : W.heap[b + 1]? = some (.cells #[r] T (0, 0))) (v0 v1 v2 v3 v4 u : Value) :
    ∃ W2, (setV b v0 v1 v2 v3 v4 W).setCell ⟨b + 1, 0, none⟩ u = W2 ∧ W2.heap[b]? = some (.cells #[v0, v1, v2, v3, v4] 25 (0, 0)) ∧ W2.heap[b + 1]? = some (.cells #[u] T (0, 0)) ∧ KeepsOthers W W2 ∧ (∀ n₀, n₀ ≤ b → n₀ ≤ W.heap.size → Below n₀ W W2) := by
  refine ⟨_, rfl, ?_, ?_, ?_, ?_⟩
  · refine (Below.heap_setCell _ _ _ _ (by simp)).trans ?_
    exact heap_setCell_eq (o := 4) v4 (heap_setCell_eq (o := 3) v3 (heap_setCell_eq (o := 2) v2 (heap_setCell_eq (o := 1) v1 (heap_setCell_eq (o := 0) v0 h2))))
  · have h5 : (setV b v0 v1 v2 v3 v4 W).heap[b + 1]? = some (.cells #[r] T (0, 0)) := by
      unfold setV
      rw [Below.heap_setCell _ _ _ _ (by simp), Below.heap_setCell _ _ _ _ (by simp), Below.heap_setCell _ _ _ _ (by simp), Below.heap_setCell _ _ _ _ (by simp), Below.heap_setCell _ _ _ _ (by simp)]
      exact h3
    exact heap_setCell_eq (o := 0) u h5
  · unfold setV
    exact ((((((KeepsOthers.setCell W _ _).trans (KeepsOthers.setCell _ _ _)).trans (KeepsOthers.setCell _ _ _)).trans (KeepsOthers.setCell _ _ _)).trans (KeepsOthers.setCell _ _ _)).trans (KeepsOthers.setCell _ _ _))
  · intro n₀ h1 _
    unfold setV
    exact ((((((Below.refl n₀ W).setCell (p := ⟨b, 0, none⟩) h1 _).setCell (p := ⟨b, 1, none⟩) h1 _).setCell (p := ⟨b, 2, none⟩) h1 _).setCell (p := ⟨b, 3, none⟩) h1 _).setCell (p := ⟨b, 4, none⟩) h1 _).setCell (p := ⟨b + 1, 0, none⟩) (by simp; omega) _
set_option maxRecDepth 100000 in
set_option maxHeartbeats 4000000 in
theorem get_in (S : Nat → Prop) (k n : Int) (t : Bs) (l : List J) (p : List (Bs × J)) (v : Value) (nm : Bs) (w : World) (h : RJ S w (.mk k n t l p) v) (hpl : p.length ≤ 67108864) :
    CallsIn Fence.wide 5 Tryz.prog 51 #[v, .string ⟨nm.toArray⟩] w fun e W' => ∃ x, e = .returned (.tuple #[x, .bool (pGet (.mk k n t l p) nm).isSome]) ∧ RJ S W' ((pGet (.mk k n t l p) nm).getD J.zero) x ∧ Fr NoB w W' := by
  obtain ⟨a1, c1, a2, c2, rfl, hl, hp⟩ := h.open
  obtain ⟨W0, hW0⟩ : ∃ W0, ((((w.alloc (.cells #[.int .i64 k, .int .i64 n, .string ⟨t.toArray⟩, .slice a1 l.length c1, .slice a2 p.length c2] 25)).alloc (.cells #[.string ⟨nm.toArray⟩] 9)).alloc (.cells #[.int .i64 0, .int .i64 0, .string ⟨#[]⟩, .slice none 0 0, .slice none 0 0] 25)).alloc (.cells #[.bool false] 4)).alloc (.cells #[.int .i64 k, .int .i64 n, .string ⟨t.toArray⟩, .slice a1 l.length c1, .slice a2 p.length c2] 25) = W0 := ⟨_, rfl⟩
  have hs0 : W0.heap.size = w.heap.size + 5 := by rw [← hW0]; simp
  have hBel : Below w.heap.size w W0 := by rw [← hW0]; exact (((((Below.refl _ w).alloc (Nat.le_refl _) _).alloc (by simp) _).alloc (by simp; try omega) _).alloc (by simp; try omega) _).alloc (by simp; try omega) _
  have hF0 : Fr NoB w W0 := Fr.ofBelow hBel
  have hb1 : W0.heap[w.heap.size + 1]? = some (.cells #[.string ⟨nm.toArray⟩] 9 (0, 0)) := by
    rw [← hW0]
    have := heap_alloc_new (w.alloc (.cells #[.int .i64 k, .int .i64 n, .string ⟨t.toArray⟩, .slice a1 l.length c1, .slice a2 p.length c2] 25)) (.cells #[.string ⟨nm.toArray⟩] 9)
    rw [World.size_alloc] at this
    exact (((Fr.refl (M := NoB)).alloc _ |>.alloc _ |>.alloc _).block _ _ this (fun h => h))
  have hb2 : W0.heap[w.heap.size + 2]? = some (.cells #[.int .i64 0, .int .i64 0, .string ⟨#[]⟩, .slice none 0 0, .slice none 0 0] 25 (0, 0)) := by
    rw [← hW0]
    have := heap_alloc_new ((w.alloc (.cells #[.int .i64 k, .int .i64 n, .string ⟨t.toArray⟩, .slice a1 l.length c1, .slice a2 p.length c2] 25)).alloc (.cells #[.string ⟨nm.toArray⟩] 9)) (.cells #[.int .i64 0, .int .i64 0, .string ⟨#[]⟩, .slice none 0 0, .slice none 0 0] 25)
    rw [World.size_alloc, World.size_alloc] at this
    exact (((Fr.refl (M := NoB)).alloc _ |>.alloc _).block _ _ this (fun h => h))
  have hb3 : W0.heap[w.heap.size + 3]? = some (.cells #[.bool false] 4 (0, 0)) := by
    rw [← hW0]
    have := heap_alloc_new (((w.alloc (.cells #[.int .i64 k, .int .i64 n, .string ⟨t.toArray⟩, .slice a1 l.length c1, .slice a2 p.length c2] 25)).alloc (.cells #[.string ⟨nm.toArray⟩] 9)).alloc (.cells #[.int .i64 0, .int .i64 0, .string ⟨#[]⟩, .slice none 0 0, .slice none 0 0] 25)) (.cells #[.bool false] 4)
    rw [World.size_alloc, World.size_alloc, World.size_alloc] at this
    exact (((Fr.refl (M := NoB)).alloc _).block _ _ this (fun h => h))
  have hb4 : W0.heap[w.heap.size + 4]? = some (.cells #[.int .i64 k, .int .i64 n, .string ⟨t.toArray⟩, .slice a1 l.length c1, .slice a2 p.length c2] 25 (0, 0)) := by
    rw [← hW0]
    have := heap_alloc_new ((((w.alloc (.cells #[.int .i64 k, .int .i64 n, .string ⟨t.toArray⟩, .slice a1 l.length c1, .slice a2 p.length c2] 25)).alloc (.cells #[.string ⟨nm.toArray⟩] 9)).alloc (.cells #[.int .i64 0, .int .i64 0, .string ⟨#[]⟩, .slice none 0 0, .slice none 0 0] 25)).alloc (.cells #[.bool false] 4)) (.cells #[.int .i64 k, .int .i64 n, .string ⟨t.toArray⟩, .slice a1 l.length c1, .slice a2 p.length c2] 25)
    rw [World.size_alloc, World.size_alloc, World.size_alloc, World.size_alloc] at this
    exact this
  obtain ⟨q0, q1, q2, q3, q4, -, -⟩ := VB.at hb4
  -- the pairs
  obtain ⟨xs, hxs, hxp⟩ : ∃ xs : List PV, ((xs = [] ∧ (k ≠ 5 ∨ p.length = 0)) ∨ (k = 5 ∧ xs.length = p.length ∧ ∃ g o, a2 = some ⟨g, o, none⟩ ∧ GRow W0.heap.size g o xs W0)) ∧ (k = 5 → ∀ (i : Nat) (x : PV) (nm : Bs) (j : J), xs[i]? = some x → p[i]? = some (nm, j) → x.nm = nm ∧ RJ S w j x.val) := by
    by_cases hk : k = 5
    · by_cases hpn : p = []
      · subst hpn
        exact ⟨[], .inl ⟨rfl, .inr rfl⟩, fun _ i x nm j hi _ => by simp at hi⟩
      · obtain ⟨g, o, xs, ha, hg, hlx, hrow, hx⟩ := rowp_list hp hpn
        exact ⟨xs, .inr ⟨hk, hlx, g, o, ha, ⟨by omega, fun i x hi => (hrow.below hBel).2 i x hi⟩⟩, fun _ => hx⟩
    · exact ⟨[], .inl ⟨rfl, .inl hk⟩, fun h => absurd h hk⟩
  have Hxs := Lib.hid hxs
  have Hxp := Lib.hid hxp
  have Hb1 := Lib.hid hb1
  have Hb2 := Lib.hid hb2
  have Hb3 := Lib.hid hb3
  have HBel := Lib.hid hBel
  have HF0 := Lib.hid hF0
  have Hs0 := Lib.hid hs0
  have Hq0 := Lib.hid q0
  have Hq4 := Lib.hid q4
  have HW0 := Lib.hid hW0
  have Hh := Lib.hid h
  clear hxs hxp hb1 hb2 hb3 hb4 hBel hF0 hs0 q0 q1 q2 q3 q4 hl hp hW0 h
  refine callsIn_of_wp_marks Tryz.func51 rfl trivial ?_ rfl
  simp only [Tryz.ntmps51, List.size_toArray, List.length_cons, List.length_nil, Nat.reduceAdd, Nat.reduceSub, Array.replicate_succ, Array.replicate_zero, List.push_toArray, List.append_toArray, List.nil_append, List.cons_append]
  gi_wp2_with fail
  refine ⟨trivial, ?_⟩
  refine (names_in Fence.wide 4 trivial rfl _ _ _ _ _ _).mono ?_
  rintro e w' ⟨rfl, rfl⟩
  gi_wp2_with fail
  rw [HW0.out]
  have hW5 := Hs0.out
  refine wpIn_rangeFunc_ownH (w := W0) rfl (by omega) (gf := 100) (lb := #[.pointer (some ⟨w.heap.size + 1 + 1 + 1 + 1, 0, none⟩)]) rfl trivial (enters_of Tryz.func100 (by kernel_rfl) rfl)
    (names_stops Fence.wide 4 trivial rfl (by omega) (w.heap.size + 1 + 1 + 1 + 1) W0.heap.size k a2 p.length c2 xs hpl W0 (by omega) (Nat.le_refl _) Hq0.out Hq4.out Hxs.out)
    belowK_t (belowK_b (Nat.le_refl _)) (Below.refl _ _) (fun _ => rfl)
    (fun pre W => (∀ y ∈ pre, PV.nm y ≠ nm) ∧ Below W0.heap.size W0 W)
    (fun c pre W => (c = .ret ∧ ∃ ini x, pre = ini ++ [x] ∧ (∀ y ∈ ini, PV.nm y ≠ nm) ∧ PV.nm x = nm ∧ W.heap[w.heap.size + 2]? = some (.cells #[.int .i64 x.k, .int .i64 x.n, .string ⟨x.t.toArray⟩, .slice x.a1 x.n1 x.c1, .slice x.a2 x.n2 x.c2] 25 (0, 0)) ∧ W.heap[w.heap.size + 3]? = some (.cells #[.bool true] 4 (0, 0))) ∧ Below w.heap.size w W)
    (OwnFrom.and (ownFrom_pure _ (fun pre => ∀ y ∈ pre, PV.nm y ≠ nm)) (ownFrom_below (Nat.le_refl _) (Nat.le_refl _)))
    (fun c s A B row hs hg hr => by
      obtain ⟨⟨hc, ini, x, e1, e2, e3, b2, b3⟩, hB⟩ := hs
      exact ⟨⟨hc, ini, x, e1, e2, e3, own_block (β := Unit) _ _ _ _ () A B row b2 hg (fun r e => (hr r e).2), own_block (β := Unit) _ _ _ _ () A B row b3 hg (fun r e => (hr r e).2)⟩, ownFrom_below (β := Unit) (n₀ := w.heap.size) (B := W0.heap.size) (w₀ := w) (Nat.le_refl _) (by omega) () A B row hB hg hr⟩)
    ⟨(fun y h => by cases h), Below.refl _ _⟩
    (fun x a' W => ∃ Bx, W0.heap.size ≤ Bx ∧ W.heap[Bx]? = some (.cells #[.int .i64 (PV.k x), .int .i64 x.n, .string ⟨x.t.toArray⟩, .slice x.a1 x.n1 x.c1, .slice x.a2 x.n2 x.c2] 25 (0, 0)) ∧ a' = { tmps := #[Value.agg #[.int .i64 k, .int .i64 n, .string ⟨t.toArray⟩, .slice a1 l.length c1, .slice a2 p.length c2], .string ⟨nm.toArray⟩, .pointer (some ⟨w.heap.size, 0, none⟩), .pointer (some ⟨w.heap.size + 1, 0, none⟩), .pointer (some ⟨w.heap.size + 1 + 1, 0, none⟩), .pointer (some ⟨w.heap.size + 1 + 1 + 1, 0, none⟩), .string ⟨x.nm.toArray⟩, .pointer (some ⟨Bx, 0, none⟩), Value.agg #[.int .i64 k, .int .i64 n, .string ⟨t.toArray⟩, .slice a1 l.length c1, .slice a2 p.length c2], .func (.func 100) #[] #[.pointer (some ⟨w.heap.size + 1 + 1 + 1 + 1, 0, none⟩)], .string ⟨x.nm.toArray⟩, .agg #[.int .i64 x.k, .int .i64 x.n, .string ⟨x.t.toArray⟩, .slice x.a1 x.n1 x.c1, .slice x.a2 x.n2 x.c2], undef, undef, undef, undef, undef], defers := [] })
    (fun x a' s A B row hs hg hr => by
      obtain ⟨Bx, h1, h2, h3⟩ := hs
      exact ⟨Bx, h1, own_block (β := Unit) _ _ _ _ () A B row h2 hg (fun r e => (hr r e).2), h3⟩) ?assign ?body ?done ?stop
  case assign =>
    rintro l pre x W K ⟨hp, hB⟩ hK
    have Hp := Lib.hid hp
    have HB := Lib.hid hB
    have HK := Lib.hid hK
    clear hp hB hK
    unfold PV.enc
    gi_wp2
    exact HK.out _ _ ((KeepsOthers.alloc _ _).from _) ((Below.refl _ W).alloc HB.out.size _) ⟨Hp.out, HB.out.alloc HB.out.size _⟩ ⟨W.heap.size, HB.out.size, heap_alloc_new W _, rfl⟩
  case body =>
    rintro l pre x a' W hl ⟨r, hr⟩ ⟨hp, hB⟩ ⟨Bx, hBx, hbx, rfl⟩ hlt
    have hn1 : W.cell? ⟨w.heap.size + 1, 0, none⟩ = some (.string ⟨nm.toArray⟩) := by
      have := (hB.block _ (by omega)).trans Hb1.out
      simp [World.cell?, this]
    have hw2 := (hB.block _ (by omega)).trans Hb2.out
    have hw3 := (hB.block _ (by omega)).trans Hb3.out
    obtain ⟨x0, x1, x2, x3, x4, xz, xlt⟩ := VB.at hbx
    have Hp := Lib.hid hp
    have HB := Lib.hid hB
    have Hw2 := Lib.hid hw2
    have Hw3 := Lib.hid hw3
    cases hx : (x.nm == nm) with
    | true =>
      obtain ⟨r0, r1, r2, r3, r4, rz, rlt⟩ := VB.at hw2
      have s0 : W.cell? ⟨w.heap.size + 1 + 1 + 1, 0, none⟩ = some (.bool false) := by simp [World.cell?, hw3]
      have sz : W.frozen? ⟨w.heap.size + 1 + 1 + 1, 0, none⟩ = false := by simp [World.frozen?, hw3]
      have Hx := Lib.hid hx
      clear hp hB hw2 hw3 hbx hl hr hBx
      gi_wp2
      have hxe : x.nm = nm := by have h := Hx.out; simpa using h
      refine ⟨((((((KeepsOthers.setCell W _ _).trans (KeepsOthers.setCell _ _ _)).trans (KeepsOthers.setCell _ _ _)).trans (KeepsOthers.setCell _ _ _)).trans (KeepsOthers.setCell _ _ _)).trans (KeepsOthers.setCell _ _ _)).from _, ⟨rfl, pre, x, rfl, Hp.out, hxe, ?_, ?_⟩, ?_⟩
      · refine (Below.heap_setCell _ _ _ _ (by simp)).trans ?_
        have h5 := heap_setCell_eq (o := 4) (.slice x.a2 x.n2 x.c2) (heap_setCell_eq (o := 3) (.slice x.a1 x.n1 x.c1) (heap_setCell_eq (o := 2) (.string ⟨x.t.toArray⟩) (heap_setCell_eq (o := 1) (.int .i64 x.n) (heap_setCell_eq (o := 0) (.int .i64 x.k) Hw2.out))))
        exact h5
      · have h5 : ((((((W.setCell ⟨w.heap.size + 1 + 1, 0, none⟩ (.int .i64 x.k)).setCell ⟨w.heap.size + 1 + 1, 1, none⟩ (.int .i64 x.n)).setCell ⟨w.heap.size + 1 + 1, 2, none⟩ (.string ⟨x.t.toArray⟩)).setCell ⟨w.heap.size + 1 + 1, 3, none⟩ (.slice x.a1 x.n1 x.c1)).setCell ⟨w.heap.size + 1 + 1, 4, none⟩ (.slice x.a2 x.n2 x.c2))).heap[w.heap.size + 3]? = some (.cells #[.bool false] 4 (0, 0)) := by
          rw [Below.heap_setCell _ _ _ _ (by simp), Below.heap_setCell _ _ _ _ (by simp), Below.heap_setCell _ _ _ _ (by simp), Below.heap_setCell _ _ _ _ (by simp), Below.heap_setCell _ _ _ _ (by simp)]
          exact Hw3.out
        exact heap_setCell_eq (o := 0) (.bool true) h5
      · have h0 : Below w.heap.size w W := HBel.out.trans (HB.out.mono (by omega))
        exact (((((h0.setCell (p := ⟨_, _, none⟩) (by simp; omega) _).setCell (p := ⟨_, _, none⟩) (by simp; omega) _).setCell (p := ⟨_, _, none⟩) (by simp; omega) _).setCell (p := ⟨_, _, none⟩) (by simp; omega) _).setCell (p := ⟨_, _, none⟩) (by simp; omega) _).setCell (p := ⟨_, _, none⟩) (by simp; omega) _
    | false =>
      have Hx := Lib.hid hx
      clear hp hB hw2 hw3 hbx hl hr hBx
      gi_wp2
      have hne : x.nm ≠ nm := by have h := Hx.out; simpa using h
      exact ⟨KeepsFrom.refl _ _, Below.refl _ _, ⟨fun y hy => (List.mem_append.1 hy).elim (Hp.out y) (fun e => by simp at e; subst e; exact hne), HB.out⟩⟩
  case done =>
    rintro D ys W hD rfl ⟨hne, hB⟩ hK
    have hw2 := (hB.block _ (by omega)).trans Hb2.out
    have hw3 := (hB.block _ (by omega)).trans Hb3.out
    obtain ⟨r0, r1, r2, r3, r4, rz, rlt⟩ := VB.at hw2
    have s0 : W.cell? ⟨w.heap.size + 1 + 1 + 1, 0, none⟩ = some (.bool false) := by simp [World.cell?, hw3]
    have sz : W.frozen? ⟨w.heap.size + 1 + 1 + 1, 0, none⟩ = false := by simp [World.frozen?, hw3]
    have Hne := Lib.hid hne
    have HB := Lib.hid hB
    have HK := Lib.hid hK
    have Hw2 := Lib.hid hw2
    have Hw3 := Lib.hid hw3
    clear hne hB hK hw2 hw3
    gi_wp2
    obtain ⟨W2, eW, k2, k3, hko, hbl⟩ := six_stores (b := w.heap.size + 1 + 1) Hw2.out Hw3.out (.int .i64 0) (.int .i64 0) (.string ⟨#[]⟩) (.slice none 0 0) (.slice none 0 0) (.bool false)
    unfold setV at eW
    rw [eW]
    have hK' := hko.same D _ HK.out rfl
    refine ⟨by simp, .inl ⟨_, _, rfl, run_takeDeferred hK', ?_⟩⟩
    have hbp : Below w.heap.size w (W2.putObj D (.deferred none)) := ((HBel.out.trans (HB.out.mono (by omega))).trans (hbl w.heap.size (by omega) (by have := HB.out.size; omega))).trans (belowK_b (w := W0) (by omega) W2 D _ _ hD hK' rfl rfl)
    have m2 := own_block (β := Unit) _ _ _ _ () _ _ _ k2 (grownBy_putObj' W2 D (.deferred none)) (fun r e => by cases e; exact ⟨_, hK', rfl⟩)
    have m3 := own_block (β := Unit) _ _ _ _ () _ _ _ k3 (grownBy_putObj' W2 D (.deferred none)) (fun r e => by cases e; exact ⟨_, hK', rfl⟩)
    obtain ⟨t0, t1, t2, t3, t4, -, -⟩ := VB.at m2
    have u0 : (W2.putObj D (.deferred none)).cell? ⟨w.heap.size + 1 + 1 + 1, 0, none⟩ = some (.bool false) := by simp [World.cell?, m3]
    have hno : pGet (.mk k n t l p) nm = none := by
      unfold pGet
      by_cases hk : k = 5
      · rw [if_pos (by exact hk)]
        refine getL_none fun q hq => ?_
        obtain ⟨i, hi⟩ := List.getElem?_of_mem hq
        rcases Hxs.out with ⟨h0, h⟩ | ⟨_, hl, _⟩
        · have hp0 : p = [] := List.length_eq_zero_iff.1 (h.resolve_left (fun h => h hk))
          rw [hp0] at hq
          cases hq
        · obtain ⟨x, hx⟩ : ∃ x, ys[i]? = some x := ⟨_, List.getElem?_eq_getElem (by rw [hl]; exact (List.getElem?_eq_some_iff.1 hi).1)⟩
          have := (Hxp.out hk i x q.1 q.2 hx hi).1
          rw [← this]
          exact Hne.out x (List.mem_of_getElem? hx)
      · rw [if_neg (by exact hk)]
    rw [hno]
    refine ⟨.tuple #[.agg #[.int .i64 0, .int .i64 0, .string ⟨#[]⟩, .slice none 0 0, .slice none 0 0], .bool false], ?_, _, rfl, RJ.zero _ _, Fr.ofBelow hbp⟩
    simp [results, Tryz.f51, go_sem, t0, t1, t2, t3, t4, u0]
  case stop =>
    rintro D c pre W hD hpre ⟨⟨rfl, ini, x, e1, e2, e3, b2, b3⟩, hB⟩ hK
    gi_wp2
    refine ⟨by simp, .inl ⟨_, _, rfl, run_takeDeferred hK, ?_⟩⟩
    have hbp : Below w.heap.size w (W.putObj D (.deferred none)) := hB.trans (belowK_b (w := W0) (by omega) W D _ _ hD hK rfl rfl)
    have m2 := own_block (β := Unit) _ _ _ _ () _ _ _ b2 (grownBy_putObj' W D (.deferred none)) (fun r e => by cases e; exact ⟨_, hK, rfl⟩)
    have m3 := own_block (β := Unit) _ _ _ _ () _ _ _ b3 (grownBy_putObj' W D (.deferred none)) (fun r e => by cases e; exact ⟨_, hK, rfl⟩)
    obtain ⟨t0, t1, t2, t3, t4, -, -⟩ := VB.at m2
    have u0 : (W.putObj D (.deferred none)).cell? ⟨w.heap.size + 1 + 1 + 1, 0, none⟩ = some (.bool true) := by simp [World.cell?, m3]
    obtain ⟨rest, hrest⟩ := hpre
    rw [e1] at hrest
    have hxi : xs[ini.length]? = some x := by rw [← hrest]; simp
    obtain ⟨hk, hl, -⟩ : k = 5 ∧ xs.length = p.length ∧ True := by
      rcases Hxs.out with ⟨h0, h⟩ | ⟨h, hl, _⟩
      · rw [h0] at hxi
        simp at hxi
      · exact ⟨h, hl, trivial⟩
    have hil : ini.length < p.length := by rw [← hl]; exact (List.getElem?_eq_some_iff.1 hxi).1
    obtain ⟨⟨nm', j'⟩, hj'⟩ : ∃ q, p[ini.length]? = some q := ⟨_, List.getElem?_eq_getElem hil⟩
    obtain ⟨hn', hrj⟩ := Hxp.out hk _ x nm' j' hxi hj'
    have hsome : pGet (.mk k n t l p) nm = some j' := by
      unfold pGet
      rw [if_pos (by exact hk)]
      refine getL_at (i := ini.length) (by show p[ini.length]? = _; rw [hj', ← hn', e3]) fun m hm q hq => ?_
      obtain ⟨y, hy⟩ : ∃ y, xs[m]? = some y := ⟨_, List.getElem?_eq_getElem (by omega)⟩
      have h1 := (Hxp.out hk m y q.1 q.2 hy hq).1
      rw [← h1]
      refine e2 y ?_
      rw [← hrest, List.append_assoc, List.getElem?_append_left hm] at hy
      exact List.mem_of_getElem? hy
    rw [hsome]
    refine ⟨.tuple #[x.val, .bool true], ?_, _, rfl, RJ.kp (Kp.ofFr (Fr.ofBelow hbp)) _ _ hrj, Fr.ofBelow hbp⟩
    unfold PV.val
    simp [results, Tryz.f51, go_sem, t0, t1, t2, t3, t4, u0]
theorem get_c (S : Nat → Prop) (j : J) (v : Value) (nm : Bs) (w : World) (h : RJ S w j v) (hfit : fits 67108864 j = true) :
    Calls Tryz.prog 51 #[v, .string ⟨nm.toArray⟩] w fun e W' => ∃ x, e = .returned (.tuple #[x, .bool (pGet j nm).isSome]) ∧ RJ S W' ((pGet j nm).getD J.zero) x ∧ Fr NoB w W' := by
  obtain ⟨k, n, t, l, p⟩ := j
  exact callsIn_wide.1 (get_in S k n t l p v nm w h (fits.open hfit).2.2.1)
end Go.Proofs.YtbfmpbhikipipaaGreatDoor
namespace Go.Proofs.YtbfmpbhikipipaaGreatDoor
set_option linter.unusedVariables false
set_option linter.unusedSimpArgs false
set_option linter.unusedSectionVars false
open Go.RowKit
variable [OldK]

theorem two_boxes (w : World) (X Y : Array Value) : (w.alloc (.cells X 25)).heap[w.heap.size]? = some (.cells X 25 (0, 0)) ∧ ((w.alloc (.cells X 25)).alloc (.cells Y 25)).heap[w.heap.size]? = some (.cells X 25 (0, 0)) ∧ ((w.alloc (.cells X 25)).alloc (.cells Y 25)).heap[w.heap.size + 1]? = some (.cells Y 25 (0, 0)) ∧ Fr NoB w ((w.alloc (.cells X 25)).alloc (.cells Y 25)) := by
  have h0 := heap_alloc_new w (.cells X 25)
  have h1 := heap_alloc_new (w.alloc (.cells X 25)) (.cells Y 25)
  rw [World.size_alloc] at h1
  exact ⟨h0, (Fr.refl (M := NoB)).alloc _ |>.block _ _ h0 (fun h => h), h1, (Fr.refl.alloc _).alloc _⟩
def SameOk (N : Nat) : Prop := ∀ (a : J), SizeOf.sizeOf a < N → ∀ (b : J) (S S' : Nat → Prop) (u v : Value) (w : World), RJ S w a u → RJ S' w b v → fits 67108864 a = true → fits 67108864 b = true →
  Calls Tryz.prog 33 #[u, v] w fun e w' => e = .returned (.bool (pSame a b)) ∧ Fr NoB w w'
set_option maxRecDepth 100000 in
set_option maxHeartbeats 2000000 in
theorem same_no (k n : Int) (t : Bs) (l : List J) (p : List (Bs × J)) (k2 n2 : Int) (t2 : Bs) (l2 : List J) (p2 : List (Bs × J)) (S S' : Nat → Prop) (u v : Value) (w : World) (h : RJ S w (.mk k n t l p) u) (h' : RJ S' w (.mk k2 n2 t2 l2 p2) v)
    (hll : l.length ≤ 67108864) (hll2 : l2.length ≤ 67108864) (hpl : p.length ≤ 67108864) (hpl2 : p2.length ≤ 67108864)
    (hd : ¬ (k = k2 ∧ n = n2 ∧ t = t2 ∧ l.length = l2.length ∧ p.length = p2.length)) :
    Calls Tryz.prog 33 #[u, v] w fun e w' => e = .returned (.bool false) ∧ Fr NoB w w' := by
  obtain ⟨a1, c1, a2, c2, rfl, hl, hp⟩ := h.open
  obtain ⟨a3, c3, a4, c4, rfl, hl', hp'⟩ := h'.open
  obtain ⟨-, hx0, hx1, hF0⟩ := two_boxes w #[.int .i64 k, .int .i64 n, .string ⟨t.toArray⟩, .slice a1 l.length c1, .slice a2 p.length c2] #[.int .i64 k2, .int .i64 n2, .string ⟨t2.toArray⟩, .slice a3 l2.length c3, .slice a4 p2.length c4]
  obtain ⟨d0, d1, d2, d3, d4, dz, dlt⟩ := VB.at hx0
  obtain ⟨f0, f1, f2, f3, f4, fz, flt⟩ := VB.at hx1
  have HF0 := Lib.hid hF0
  clear h h' hl hp hl' hp' hx0 hx1 hF0
  by_cases hk : k = k2
  · subst hk
    by_cases hn : n = n2
    · subst hn
      by_cases ht : t = t2
      · subst ht
        generalize l.length = m1 at *
        generalize l2.length = m2 at *
        generalize p.length = q1 at *
        generalize p2.length = q2 at *
        by_cases hm : m1 = m2
        · subst hm
          have hq : ¬ q1 = q2 := fun e => hd ⟨rfl, rfl, rfl, rfl, e⟩
          have hb : (((q1 : Int)) != (q2 : Int)) = true := by rw [bne_iff_ne]; omega
          have hb2 : (q1 != q2) = true := by rw [bne_iff_ne]; exact hq
          clear hd hq
          go_enter Tryz.func33, Tryz.ntmps33
          go_wp2_with fail
          go_ret
          exact ⟨rfl, HF0.out⟩
        · have hb : (((m1 : Int)) != (m2 : Int)) = true := by rw [bne_iff_ne]; omega
          have hb2 : (m1 != m2) = true := by rw [bne_iff_ne]; exact hm
          clear hd hm
          go_enter Tryz.func33, Tryz.ntmps33
          go_wp2_with fail
          go_ret
          exact ⟨rfl, HF0.out⟩
      · have hb : (t == t2) = false := by simpa using ht
        clear hd ht
        go_enter Tryz.func33, Tryz.ntmps33
        go_wp2_with fail
        all_goals
          go_ret
          exact ⟨rfl, HF0.out⟩
    · have hb : (n != n2) = true := by simpa using hn
      clear hd hn
      go_enter Tryz.func33, Tryz.ntmps33
      go_wp2_with fail
      all_goals
        go_ret
        exact ⟨rfl, HF0.out⟩
  · have hb : (k != k2) = true := by simpa using hk
    clear hd hk
    go_enter Tryz.func33, Tryz.ntmps33
    go_wp2_with fail
    all_goals
      go_ret
      exact ⟨rfl, HF0.out⟩
set_option maxRecDepth 100000 in
set_option maxHeartbeats 4000000 in
theorem same_step (N : Nat) (ih : SameOk N) (S S' : Nat → Prop) (k n : Int) (t : Bs) (l l2 : List J) (p p2 : List (Bs × J)) (u v : Value) (w : World) (h : RJ S w (.mk k n t l p) u) (h' : RJ S' w (.mk k n t l2 p2) v)
    (hfit : fits 67108864 (.mk k n t l p) = true) (hfit2 : fits 67108864 (.mk k n t l2 p2) = true) (hlm : l2.length = l.length) (hpm : p2.length = p.length) (hs : SizeOf.sizeOf (J.mk k n t l p) ≤ N) :
    Calls Tryz.prog 33 #[u, v] w fun e w' => e = .returned (.bool (pSamel l l2 && pSamep p (.mk k n t l2 p2))) ∧ Fr NoB w w' := by
  obtain ⟨a1, c1, a2, c2, rfl, hl, hp⟩ := h.open
  obtain ⟨a3, c3, a4, c4, rfl, hl', hp'⟩ := h'.open
  have hll := (fits.open hfit).2.1
  have hpl := (fits.open hfit).2.2.1
  have Hfl := Lib.hid (fits.open hfit).2.2.2.1
  have Hfp := Lib.hid (fits.open hfit).2.2.2.2
  have Hfl2 := Lib.hid (fits.open hfit2).2.2.2.1
  have Hfit2 := Lib.hid hfit2
  rw [hlm, hpm]
  obtain ⟨-, hx0, hx1, hF0⟩ := two_boxes w #[.int .i64 k, .int .i64 n, .string ⟨t.toArray⟩, .slice a1 l.length c1, .slice a2 p.length c2] #[.int .i64 k, .int .i64 n, .string ⟨t.toArray⟩, .slice a3 l.length c3, .slice a4 p.length c4]
  obtain ⟨d0, d1, d2, d3, d4, dz, dlt⟩ := VB.at hx0
  obtain ⟨f0, f1, f2, f3, f4, fz, flt⟩ := VB.at hx1
  generalize hR : (pSamel l l2 && pSamep p (.mk k n t l2 p2)) = R
  have HR : Hid ((pSamel (l.drop 0) (l2.drop 0) && pSamep p (.mk k n t l2 p2)) = R) := hR
  have Hx0 := Lib.hid hx0
  have Hx1 := Lib.hid hx1
  have HF0 := Lib.hid hF0
  have Hl := Lib.hid hl
  have Hl' := Lib.hid hl'
  have Hp := Lib.hid hp
  have Hv := Lib.hid h'
  have Hs := Lib.hid hs
  have Hlm := Lib.hid hlm
  have Hpm := Lib.hid hpm
  clear hx0 hx1 hF0 hl hl' hp hp' h h' hs hfit hfit2 hR hlm hpm
  go_enter Tryz.func33, Tryz.ntmps33
  go_wp2_with fail
  go_loopg [50] (l.length + 1) (fun g vi wr => ∃ (i : Nat), vi = .int .i64 i ∧ i ≤ l.length ∧ i + g = l.length + 1 ∧
    wr.heap[w.heap.size]? = some (.cells #[.int .i64 k, .int .i64 n, .string ⟨t.toArray⟩, .slice a1 l.length c1, .slice a2 p.length c2] 25 (0, 0)) ∧
    wr.heap[w.heap.size + 1]? = some (.cells #[.int .i64 k, .int .i64 n, .string ⟨t.toArray⟩, .slice a3 l.length c3, .slice a4 p.length c4] 25 (0, 0)) ∧ Fr NoB w wr ∧ Hid ((pSamel (l.drop i) (l2.drop i) && pSamep p (.mk k n t l2 p2)) = R))
  case atStart => exact ⟨0, rfl, by omega, by omega, Hx0.out, Hx1.out, HF0.out, HR⟩
  case round =>
    clear Hx0 Hx1 HF0 d0 d1 d2 d3 d4 dz dlt f0 f1 f2 f3 f4 fz flt HR
    obtain ⟨i, rfl, hi, hgk, hx0, hx1, hF, hR⟩ := hrel
    have hB0 := VB.at hx0
    have hB1 := VB.at hx1
    obtain ⟨d0, d1, d2, d3, d4, dz, dlt⟩ := hB0
    obtain ⟨f0, f1, f2, f3, f4, fz, flt⟩ := hB1
    rcases Nat.lt_or_ge i l.length with hlt | hge
    · obtain ⟨j, hj⟩ : ∃ j, l[i]? = some j := ⟨_, List.getElem?_eq_getElem hlt⟩
      obtain ⟨j2, hj2⟩ : ∃ j, l2[i]? = some j := ⟨_, List.getElem?_eq_getElem (by rw [Hlm.out]; exact hlt)⟩
      obtain ⟨b, o, x0, x1, x2, x3, x4, rfl, hbl, e0, e1, e2, e3, e4, hrj⟩ := (Hl.out.kp (Kp.ofFr hF)).at hj
      obtain ⟨b', o', y0, y1, y2, y3, y4, rfl, hbl', g0, g1, g2, g3, g4, hrj'⟩ := (Hl'.out.kp (Kp.ofFr hF)).at hj2
      have hsj : SizeOf.sizeOf j < N := by
        have := List.sizeOf_lt_of_mem (List.mem_of_getElem? hj)
        have := Hs.out
        simp only [J.mk.sizeOf_spec] at this
        omega
      have hF' := (Fr.refl (M := NoB) (w := wr)).drew
      have hcall := ih j hsj j2 S S' _ _ _ (RJ.kp (Kp.ofFr hF') _ _ hrj) (RJ.kp (Kp.ofFr hF') _ _ hrj') (fitsl.at l Hfl.out i _ hj) (fitsl.at l2 Hfl2.out i _ hj2)
      have hR2 := hR.out
      rw [drop_at hj, drop_at hj2, pSamel] at hR2
      obtain ⟨B, hB⟩ : ∃ B, pSame j j2 = B := ⟨_, rfl⟩
      rw [hB] at hR2 hcall
      have HR2 := Lib.hid hR2
      have Hcall := Lib.hid hcall
      have Hx0 := Lib.hid (hF'.block _ _ hx0 (fun h => h))
      have Hx1 := Lib.hid (hF'.block _ _ hx1 (fun h => h))
      have HF := Lib.hid (hF.trans' hF')
      clear hcall hrj hrj' hx0 hx1 hF hF' hR hR2 hB hj hj2
      cases B
      · go_wp2_with fail
        go_still_tail 10, (by kernel_rfl)
        change wpList _ _ _ _ _ wr.drew
        go_wp2_with fail
        refine Hcall.out.mono ?_
        rintro e w1 ⟨rfl, hF1⟩
        have HF1 := Lib.hid (HF.out.trans' hF1)
        clear hF1
        go_wp2_with fail
        go_ret
        have h2 := HR2.out
        simp at h2
        subst h2
        exact ⟨rfl, HF1.out⟩
      · go_wp2_with fail
        go_still_tail 10, (by kernel_rfl)
        change wpList _ _ _ _ _ wr.drew
        go_wp2_with fail
        refine Hcall.out.mono ?_
        rintro e w1 ⟨rfl, hF1⟩
        have HX0 := Lib.hid (hF1.block _ _ Hx0.out (fun h => h))
        have HX1 := Lib.hid (hF1.block _ _ Hx1.out (fun h => h))
        have HF1 := Lib.hid (HF.out.trans' hF1)
        clear hF1
        go_wp2_with fail
        go_roundg (gk - 1)
        case measure => omega
        case rel => exact ⟨i + 1, by simp, by omega, by omega, HX0.out, HX1.out, HF1.out, Lib.hid (by have h := HR2.out; simpa using h)⟩
    · obtain rfl : i = l.length := by omega
      have hR2 := hR.out
      rw [List.drop_length, pSamel, Bool.true_and] at hR2
      have HR2 : Hid (pSamep (p.drop 0) (.mk k n t l2 p2) = R) := hR2
      have Hx0 := Lib.hid hx0
      have Hx1 := Lib.hid hx1
      have HF := Lib.hid hF
      clear hx0 hx1 hF hR hR2
      obtain ⟨wa, rfl⟩ : ∃ wa : World, wa = wr := ⟨_, rfl⟩
      go_wp2_with fail
      go_loopg [69] (p.length + 1) (fun g vi wr => ∃ (i : Nat), vi = .int .i64 i ∧ i ≤ p.length ∧ i + g = p.length + 1 ∧
        wr.heap[w.heap.size]? = some (.cells #[.int .i64 k, .int .i64 n, .string ⟨t.toArray⟩, .slice a1 l.length c1, .slice a2 p.length c2] 25 (0, 0)) ∧
        wr.heap[w.heap.size + 1]? = some (.cells #[.int .i64 k, .int .i64 n, .string ⟨t.toArray⟩, .slice a3 l.length c3, .slice a4 p.length c4] 25 (0, 0)) ∧ Fr NoB w wr ∧ Hid (pSamep (p.drop i) (.mk k n t l2 p2) = R))
      case atStart => exact ⟨0, rfl, by omega, by omega, Hx0.out, Hx1.out, HF.out, HR2⟩
      case round =>
        clear Hx0 Hx1 HF d0 d1 d2 d3 d4 dz dlt f0 f1 f2 f3 f4 fz flt HR2
        obtain ⟨i, rfl, hi, hgk, hx0, hx1, hF, hR⟩ := hrel
        have hB0 := VB.at hx0
        have hB1 := VB.at hx1
        obtain ⟨d0, d1, d2, d3, d4, dz, dlt⟩ := hB0
        obtain ⟨f0, f1, f2, f3, f4, fz, flt⟩ := hB1
        rcases Nat.lt_or_ge i p.length with hlt | hge
        · obtain ⟨⟨nm, j⟩, hj⟩ : ∃ j, p[i]? = some j := ⟨_, List.getElem?_eq_getElem hlt⟩
          obtain ⟨b, o, x0, x1, x2, x3, x4, rfl, hbl, e5, e0, e1, e2, e3, e4, hrj⟩ := (Hp.out.kp (Kp.ofFr hF)).at hj
          obtain ⟨jk, jn, jt, jl, jp⟩ := j
          obtain ⟨y1, n1, y2, n2, hval, _, _⟩ := hrj.open
          obtain ⟨rfl, rfl, rfl, rfl, rfl⟩ : x0 = .int .i64 jk ∧ x1 = .int .i64 jn ∧ x2 = .string ⟨jt.toArray⟩ ∧ x3 = .slice y1 jl.length n1 ∧ x4 = .slice y2 jp.length n2 := by simpa using hval
          have hsj : SizeOf.sizeOf (J.mk jk jn jt jl jp) < N := by
            have := List.sizeOf_lt_of_mem (List.mem_of_getElem? hj)
            have := Hs.out
            simp only [J.mk.sizeOf_spec, Prod.mk.sizeOf_spec] at *
            omega
          have hF' := (Fr.refl (M := NoB) (w := wr)).alloc (.cells #[.string ⟨nm.toArray⟩, .int .i64 jk, .int .i64 jn, .string ⟨jt.toArray⟩, .slice y1 jl.length n1, .slice y2 jp.length n2] 62)
          have hbx := heap_alloc_new wr (.cells #[.string ⟨nm.toArray⟩, .int .i64 jk, .int .i64 jn, .string ⟨jt.toArray⟩, .slice y1 jl.length n1, .slice y2 jp.length n2] 62)
          have hget := get_c S' (.mk k n t l2 p2) (.agg #[.int .i64 k, .int .i64 n, .string ⟨t.toArray⟩, .slice a3 l.length c3, .slice a4 p.length c4]) nm _ (RJ.kp (Kp.ofFr (hF.trans' hF')) _ _ (by have h := Hv.out; rw [Hlm.out, Hpm.out] at h; exact h)) Hfit2.out
          have hR2 := hR.out
          rw [drop_at hj, pSamep] at hR2
          have hfj := (fitsp.at p Hfp.out i _ _ hj).2
          have hfg : ∀ y, pGet (.mk k n t l2 p2) nm = some y → fits 67108864 y = true := by
            intro y hy
            unfold pGet at hy
            split at hy
            · have : ∀ (q : List (Bs × J)), fitsp 67108864 q = true → pGetL nm q = some y → fits 67108864 y = true := by
                intro q
                induction q with
                | nil => intro _ h; cases h
                | cons r q ih =>
                  obtain ⟨rn, rj⟩ := r
                  intro h1 h2
                  unfold fitsp at h1
                  simp only [Bool.and_eq_true] at h1
                  unfold pGetL at h2
                  split at h2
                  · cases h2; exact h1.2.1
                  · exact ih h1.2.2 h2
              exact this p2 (fits.open Hfit2.out).2.2.2.2 hy
            · cases hy
          generalize pGet (.mk k n t l2 p2) nm = G at *
          have hg5 := PB.at hbx
          obtain ⟨m5, m0, m1, m2, m3, m4, mz, mlt⟩ := hg5
          have Hbx := Lib.hid hbx
          have Hget := Lib.hid hget
          have HR2 := Lib.hid hR2
          have Hfg := Lib.hid hfg
          have Hrj := Lib.hid hrj
          have Hx0 := Lib.hid hx0
          have Hx1 := Lib.hid hx1
          have HF := Lib.hid hF
          have HFp := Lib.hid hF'
          clear hbx hget hR2 hfg hrj hx0 hx1 hF hF' hR hj hval
          cases G with
          | none =>
            go_wp2_with fail
            refine Hget.out.mono ?_
            rintro e w1 ⟨x, rfl, hrx, hF1⟩
            obtain ⟨qk, qn, qt, qa, ql, qc, qb, qp, qe, rfl⟩ := hrx.form
            have HF1 := Lib.hid ((HF.out.trans' HFp.out).trans' hF1)
            clear hF1 hrx
            simp only [Option.isSome_none]
            go_wp2_with fail
            go_ret
            have h2 := HR2.out
            simp at h2
            subst h2
            exact ⟨rfl, HF1.out.alloc _⟩
          | some y =>
            obtain ⟨B, hB⟩ : ∃ B, pSame (.mk jk jn jt jl jp) y = B := ⟨_, rfl⟩
            have hR3 := HR2.out
            simp only [hB] at hR3
            have HR3 := Lib.hid hR3
            have hfy := Hfg.out y rfl
            have hcall := fun W u hu u' hu' => ih (.mk jk jn jt jl jp) hsj y S S' u u' W hu hu' hfj hfy
            rw [hB] at hcall
            have Hcall := Lib.hid hcall
            clear hR3 HR2 hcall hB
            cases B
            all_goals
              go_wp2_with fail
              refine Hget.out.mono ?_
              rintro e w1 ⟨x, rfl, hrx, hF1⟩
              simp only [Option.getD_some] at hrx
              obtain ⟨qk, qn, qt, qa, ql, qc, qb, qp, qe, rfl⟩ := hrx.form
              have hb1 := hF1.block _ _ Hbx.out (fun h => h)
              have hF2 := (Fr.refl (M := NoB) (w := w1)).alloc (.cells #[.int .i64 qk, .int .i64 qn, .string qt, .slice qa ql qc, .slice qb qp qe] 25)
              have hb2 := hF2.block _ _ hb1 (fun h => h)
              have hb3 := heap_alloc_new w1 (.cells #[.int .i64 qk, .int .i64 qn, .string qt, .slice qa ql qc, .slice qb qp qe] 25)
              clear m5 m0 m1 m2 m3 m4 mz mlt
              obtain ⟨m5, m0, m1, m2, m3, m4, mz, mlt⟩ := PB.at hb2
              obtain ⟨z0, z1, z2, z3, z4, zz, zlt⟩ := VB.at hb3
              have HX0 := Lib.hid (hF2.block _ _ (hF1.block _ _ (HFp.out.block _ _ Hx0.out (fun h => h)) (fun h => h)) (fun h => h))
              have HX1 := Lib.hid (hF2.block _ _ (hF1.block _ _ (HFp.out.block _ _ Hx1.out (fun h => h)) (fun h => h)) (fun h => h))
              have Hrx := Lib.hid (RJ.kp (Kp.ofFr hF2) _ _ hrx)
              have Hrj2 := Lib.hid (RJ.kp (Kp.ofFr ((HFp.out.trans' hF1).trans' hF2)) _ _ Hrj.out)
              have HF2 := Lib.hid (((HF.out.trans' HFp.out).trans' hF1).trans' hF2)
              clear hF1 hrx hb1 hF2 hb2 hb3
              simp only [Option.isSome_some]
              go_wp2_with fail
              refine (Hcall.out _ _ Hrj2.out _ Hrx.out).mono ?_
              rintro e w3 ⟨rfl, hF3⟩
              have HX2 := Lib.hid (hF3.block _ _ HX0.out (fun h => h))
              have HX3 := Lib.hid (hF3.block _ _ HX1.out (fun h => h))
              have HF3 := Lib.hid (HF2.out.trans' hF3)
              clear hF3
              go_wp2_with fail
            · go_ret
              have h2 := HR3.out
              simp at h2
              subst h2
              exact ⟨rfl, HF3.out⟩
            · go_roundg (gk - 1)
              case measure => omega
              case rel => exact ⟨i + 1, by simp, by omega, by omega, HX2.out, HX3.out, HF3.out, Lib.hid (by have h := HR3.out; simpa using h)⟩
        · obtain rfl : i = p.length := by omega
          have h2 := hR.out
          simp [pSamep] at h2
          subst h2
          have HF := Lib.hid hF
          clear hx0 hx1 hF hR
          go_wp2_with fail
          go_ret
          exact ⟨rfl, HF.out⟩
theorem same_all : ∀ N, SameOk N := by
  intro N
  induction N with
  | zero => intro a h; omega
  | succ N ih =>
    intro a ha b S S' u v w h h' hf hf'
    obtain ⟨k, n, t, l, p⟩ := a
    obtain ⟨k2, n2, t2, l2, p2⟩ := b
    have f1 := fits.open hf
    have f2 := fits.open hf'
    by_cases hd : k = k2 ∧ n = n2 ∧ t = t2 ∧ l.length = l2.length ∧ p.length = p2.length
    · obtain ⟨rfl, rfl, rfl, hl, hp⟩ := hd
      have e : pSame (.mk k n t l p) (.mk k n t l2 p2) = (pSamel l l2 && pSamep p (.mk k n t l2 p2)) := by
        rw [pSame]
        simp [J.kind, J.int, J.text, J.list, J.pairs, hl, hp]
      rw [e]
      exact same_step N ih S S' k n t l l2 p p2 u v w h h' hf hf' hl.symm hp.symm (by omega)
    · have e : pSame (.mk k n t l p) (.mk k2 n2 t2 l2 p2) = false := by
        cases hb : pSame (.mk k n t l p) (.mk k2 n2 t2 l2 p2) with
        | false => rfl
        | true =>
          exfalso
          rw [pSame] at hb
          simp only [Bool.and_eq_true, beq_iff_eq, J.kind, J.int, J.text, J.list, J.pairs] at hb
          exact hd ⟨hb.1.1, hb.1.2.1, hb.1.2.2.1, hb.1.2.2.2.1, hb.1.2.2.2.2⟩
      rw [e]
      exact same_no k n t l p k2 n2 t2 l2 p2 S S' u v w h h' f1.2.1 f2.2.1 f1.2.2.1 f2.2.2.1 hd
def pEqual (a b : J) : Bool := pSound 0 a && (pSound 0 b && pSame a b)
set_option maxRecDepth 100000 in
set_option maxHeartbeats 1000000 in
theorem equal2_c (S S' : Nat → Prop) (a b : J) (u v : Value) (w : World) (h : RJ S w a u) (h' : RJ S' w b v) (hf : fits 67108864 a = true) (hf' : fits 67108864 b = true) (hg : Gl w) :
    Calls Tryz.prog 18 #[u, v] w fun e w' => e = .returned (.bool (pEqual a b)) ∧ Fr NoB w w' := by
  have hs1 := fun W v hW hgW => sound_c 8 0 S a v W hW hf hgW (by omega) (by omega)
  have hs2 := fun W v hW hgW => sound_c 8 0 S' b v W hW hf' hgW (by omega) (by omega)
  have hsm := fun W u hu v hv => same_all (SizeOf.sizeOf a + 1) a (Nat.lt_succ_self _) b S S' u v W hu hv hf hf'
  obtain ⟨k, n, t, e1, l, c, e2, p, e, rfl⟩ := h.form
  obtain ⟨k2, n2, t2, e3, l2, c2, e4, p2, e5, rfl⟩ := h'.form
  obtain ⟨-, hx0, hx1, hF0⟩ := two_boxes w #[.int .i64 k, .int .i64 n, .string t, .slice e1 l c, .slice e2 p e] #[.int .i64 k2, .int .i64 n2, .string t2, .slice e3 l2 c2, .slice e4 p2 e5]
  obtain ⟨d0, d1, d2, d3, d4, dz, dlt⟩ := VB.at hx0
  obtain ⟨f0, f1, f2, f3, f4, fz, flt⟩ := VB.at hx1
  unfold pEqual
  generalize pSound 0 a = A at *
  generalize pSound 0 b = B at *
  generalize pSame a b = C at *
  have Hs1 := Lib.hid hs1
  have Hs2 := Lib.hid hs2
  have Hsm := Lib.hid hsm
  have Hx0 := Lib.hid hx0
  have Hx1 := Lib.hid hx1
  have HF0 := Lib.hid hF0
  have Hg := Lib.hid (hg.fr hF0 (fun _ _ _ h => h.elim))
  have Hh := Lib.hid h
  have Hh' := Lib.hid h'
  clear hs1 hs2 hsm hx0 hx1 hF0 hg h h'
  cases A with
  | false =>
    go_enter Tryz.func18, Tryz.ntmps18
    go_wp2_with fail
    refine (Hs1.out _ _ (RJ.kp (Kp.ofFr HF0.out) _ _ Hh.out) Hg.out).mono ?_
    rintro e w1 ⟨rfl, hF1⟩
    have HF1 := Lib.hid (HF0.out.trans' hF1)
    clear hF1
    go_wp2_with fail
    go_ret
    exact ⟨rfl, HF1.out⟩
  | true =>
    cases B with
    | false =>
      go_enter Tryz.func18, Tryz.ntmps18
      go_wp2_with fail
      refine (Hs1.out _ _ (RJ.kp (Kp.ofFr HF0.out) _ _ Hh.out) Hg.out).mono ?_
      rintro e w1 ⟨rfl, hF1⟩
      have HX1 := Lib.hid (hF1.block _ _ Hx1.out (fun h => h))
      clear f0 f1 f2 f3 f4 fz flt
      obtain ⟨f0, f1, f2, f3, f4, fz, flt⟩ := VB.at HX1.out
      have HF1 := Lib.hid (HF0.out.trans' hF1)
      have Hg1 := Lib.hid (Hg.out.fr hF1 (fun _ _ _ h => h.elim))
      clear hF1
      go_wp2_with fail
      refine (Hs2.out _ _ (RJ.kp (Kp.ofFr HF1.out) _ _ Hh'.out) Hg1.out).mono ?_
      rintro e w2 ⟨rfl, hF2⟩
      have HF2 := Lib.hid (HF1.out.trans' hF2)
      clear hF2
      go_wp2_with fail
      go_ret
      exact ⟨rfl, HF2.out⟩
    | true =>
      simp only [Bool.true_and]
      go_enter Tryz.func18, Tryz.ntmps18
      go_wp2_with fail
      refine (Hs1.out _ _ (RJ.kp (Kp.ofFr HF0.out) _ _ Hh.out) Hg.out).mono ?_
      rintro e w1 ⟨rfl, hF1⟩
      have HX0 := Lib.hid (hF1.block _ _ Hx0.out (fun h => h))
      have HX1 := Lib.hid (hF1.block _ _ Hx1.out (fun h => h))
      clear f0 f1 f2 f3 f4 fz flt d0 d1 d2 d3 d4 dz dlt
      obtain ⟨f0, f1, f2, f3, f4, fz, flt⟩ := VB.at HX1.out
      have HF1 := Lib.hid (HF0.out.trans' hF1)
      have Hg1 := Lib.hid (Hg.out.fr hF1 (fun _ _ _ h => h.elim))
      clear hF1
      go_wp2_with fail
      refine (Hs2.out _ _ (RJ.kp (Kp.ofFr HF1.out) _ _ Hh'.out) Hg1.out).mono ?_
      rintro e w2 ⟨rfl, hF2⟩
      have HX2 := Lib.hid (hF2.block _ _ HX0.out (fun h => h))
      have HX3 := Lib.hid (hF2.block _ _ HX1.out (fun h => h))
      clear f0 f1 f2 f3 f4 fz flt
      obtain ⟨d0, d1, d2, d3, d4, dz, dlt⟩ := VB.at HX2.out
      obtain ⟨f0, f1, f2, f3, f4, fz, flt⟩ := VB.at HX3.out
      have HF2 := Lib.hid (HF1.out.trans' hF2)
      clear hF2
      go_wp2_with fail
      refine (Hsm.out _ _ (RJ.kp (Kp.ofFr HF2.out) _ _ Hh.out) _ (RJ.kp (Kp.ofFr HF2.out) _ _ Hh'.out)).mono ?_
      rintro e w3 ⟨rfl, hF3⟩
      have HF3 := Lib.hid (HF2.out.trans' hF3)
      clear hF3
      go_wp2_with fail
      go_ret
      exact ⟨rfl, HF3.out⟩
end Go.Proofs.YtbfmpbhikipipaaGreatDoor
