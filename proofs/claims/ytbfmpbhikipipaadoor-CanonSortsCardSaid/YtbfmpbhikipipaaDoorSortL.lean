/-
  Rows of values and of pairs that grow by append, and what a row of pairs is when it has been sorted.
-/
import Derived.Test.YtbfmpbhikipipaaDoorSorted
namespace Go.Proofs.YtbfmpbhikipipaaDoor
set_option linter.unusedVariables false
set_option linter.unusedSimpArgs false
set_option linter.unusedSectionVars false
open Go.RowKit
variable [OldK]

theorem grown_keep {W w2 : World} {row : Option Nat} (hgr : W.grownBy w2 row) {k : Nat} {o : Obj} (hk : W.heap[k]? = some o) (hne : row ≠ some k) : w2.heap[k]? = some o :=
  (Fr.ofGrown hgr).block k o hk (fun e => hne e.symm)
theorem alloc_keep {w : World} {k : Nat} {o : Obj} (Z : Obj) (hk : w.heap[k]? = some o) : (w.alloc Z).heap[k]? = some o :=
  ((Fr.refl (M := NoB)).alloc Z).block k o hk (fun h => h)
theorem set_keep {w : World} {b c k : Nat} {o : Obj} {x : Value} (hk : w.heap[k]? = some o) (hne : k ≠ b) : (w.setCell ⟨b, c, none⟩ x).heap[k]? = some o := by
  rw [Below.heap_setCell _ _ _ _ hne]; exact hk

section
variable {S : Nat → Prop} {N M bv g cap c n' : Nat} {w1 w2 : World} {Z : Obj} {lv X : Value} {xs : List Value} {e : TypeId}
/-- the step from the world behind a call to the world behind append and store: what it may turn -/
theorem push_fr (hgr : (w1.alloc Z).grownBy w2 lv.ownBlock) : Fr (fun k _ => lv.ownBlock = some k ∨ k = bv) w1 (w2.setCell ⟨bv, c, none⟩ X) := by
  refine Fr.setCell ?_ _ _ (fun _ _ => .inr rfl)
  exact ((Fr.refl (M := fun k _ => lv.ownBlock = some k ∨ k = bv)).alloc Z).trans (Fr.ofGrown hgr) (fun k o hm => .inl (.inl hm.symm))
theorem push_kp {size : Nat} (hown : w1.ownsRow N e size lv n' xs) (hgr : (w1.alloc Z).grownBy w2 lv.ownBlock) (hg2 : lv.ownBlock = some g ∨ w1.heap.size + 1 ≤ g)
    (hbv : bv < N) (hSbv : ¬ S bv) : Kp (fun k => (S k ∨ N ≤ k) ∧ lv.ownBlock ≠ some k) (fun k => (S k ∨ N ≤ k) ∧ some g ≠ some k) w1 (w2.setCell ⟨bv, c, none⟩ X) := by
  intro b o hs hb _
  have hne : b ≠ g := by
    rintro rfl
    rcases hg2 with h | h
    · exact hs.2 h
    · have := get_lt hb; omega
  refine ⟨⟨hs.1, fun e => hne (by simpa using e.symm)⟩, (push_fr hgr).block b o hb ?_⟩
  rintro (h | rfl)
  · exact hs.2 h
  · rcases hs.1 with h | h
    · exact hSbv h
    · omega
theorem push_kp1 {size : Nat} (hown : w1.ownsRow N e size lv n' xs) (hgr : (w1.alloc Z).grownBy w2 lv.ownBlock) (hg2 : lv.ownBlock = some g ∨ w1.heap.size + 1 ≤ g)
    (hSN : ∀ k, S k → k < N) (hM : N ≤ M) (hlw : ∀ k, lv.ownBlock = some k → k < M) (hbv : bv < N) (hSbv : ¬ S bv) :
    Kp (fun k => S k ∨ M ≤ k) (fun k => (S k ∨ N ≤ k) ∧ some g ≠ some k) w1 (w2.setCell ⟨bv, c, none⟩ X) := by
  intro b o hs hb ht
  have hnl : lv.ownBlock ≠ some b := by
    intro h
    have h1 := (own_ty hown b h).1
    have h2 := hlw b h
    rcases hs with h3 | h3
    · have := hSN b h3; omega
    · omega
  exact push_kp (S := S) hown hgr hg2 hbv hSbv b o ⟨hs.imp id (fun h => Nat.le_trans hM h), hnl⟩ hb ht
end

theorem LRow.push {S : Nat → Prop} {N M bv g cap : Nat} {w1 w2 : World} {Z : Obj} {l : List J} {j : J} {lv X v0 v1 v2 v3 v4 : Value} {xs : List Value}
    (hown : w1.ownsRow N 25 5 lv l.length xs) (hrc : RC (fun k => (S k ∨ N ≤ k) ∧ lv.ownBlock ≠ some k) w1 l xs) (hSN : ∀ k, S k → k < N)
    (hj : RJ (fun k => S k ∨ M ≤ k) w1 j (.agg #[v0, v1, v2, v3, v4])) (hM : N ≤ M) (hlw : ∀ k, lv.ownBlock = some k → k < M)
    (hgr : (w1.alloc Z).grownBy w2 lv.ownBlock) (hg2 : lv.ownBlock = some g ∨ w1.heap.size + 1 ≤ g)
    (hown2 : w2.ownsRow N 25 5 (.slice (some ⟨g, 0, none⟩) (l.length + 1) cap) (l.length + 1) (xs ++ [v0, v1, v2, v3, v4]))
    (hbv : bv < N) (hSbv : ¬ S bv) (hgN : N ≤ g) (c : Nat) : LRow S N (l ++ [j]) (.slice (some ⟨g, 0, none⟩) (l.length + 1) cap) (w2.setCell ⟨bv, c, none⟩ X) := by
  refine ⟨xs ++ [v0, v1, v2, v3, v4], own_same (by simpa using hown2) (fun k hk => ?_), ?_⟩
  · have : k = g := by simpa [Value.ownBlock] using hk.symm
    exact Below.heap_setCell _ _ _ _ (by show k ≠ bv; omega)
  · exact RC.append l xs [j] _ (RC.kp (push_kp hown hgr hg2 hbv hSbv) l xs hrc) (RC.one (RJ.kp (push_kp1 hown hgr hg2 hSN hM hlw hbv hSbv) j _ hj))

/-- pairs that grow -/
def QRow (S : Nat → Prop) (N : Nat) (l : List (Bs × J)) (lv : Value) (w : World) : Prop :=
  ∃ xs, w.ownsRow N 31 6 lv l.length xs ∧ RP (fun k => (S k ∨ N ≤ k) ∧ lv.ownBlock ≠ some k) w l xs
theorem QRow.nil (S : Nat → Prop) (N : Nat) (w : World) : QRow S N [] (.slice none 0 0) w := ⟨[], ⟨rfl, .inl ⟨rfl, rfl⟩⟩, by unfold RP; rfl⟩
theorem QRow.push {S : Nat → Prop} {N M bv g cap : Nat} {w1 w2 : World} {Z : Obj} {l : List (Bs × J)} {nm : Bs} {j : J} {lv X v0 v1 v2 v3 v4 : Value} {xs : List Value}
    (hown : w1.ownsRow N 31 6 lv l.length xs) (hrc : RP (fun k => (S k ∨ N ≤ k) ∧ lv.ownBlock ≠ some k) w1 l xs) (hSN : ∀ k, S k → k < N)
    (hj : RJ (fun k => S k ∨ M ≤ k) w1 j (.agg #[v0, v1, v2, v3, v4])) (hM : N ≤ M) (hlw : ∀ k, lv.ownBlock = some k → k < M)
    (hgr : (w1.alloc Z).grownBy w2 lv.ownBlock) (hg2 : lv.ownBlock = some g ∨ w1.heap.size + 1 ≤ g)
    (hown2 : w2.ownsRow N 31 6 (.slice (some ⟨g, 0, none⟩) (l.length + 1) cap) (l.length + 1) (xs ++ [.string ⟨nm.toArray⟩, v0, v1, v2, v3, v4]))
    (hbv : bv < N) (hSbv : ¬ S bv) (hgN : N ≤ g) (c : Nat) : QRow S N (l ++ [(nm, j)]) (.slice (some ⟨g, 0, none⟩) (l.length + 1) cap) (w2.setCell ⟨bv, c, none⟩ X) := by
  refine ⟨xs ++ [.string ⟨nm.toArray⟩, v0, v1, v2, v3, v4], own_same (by simpa using hown2) (fun k hk => ?_), ?_⟩
  · have : k = g := by simpa [Value.ownBlock] using hk.symm
    exact Below.heap_setCell _ _ _ _ (by show k ≠ bv; omega)
  · exact RP.append l xs [(nm, j)] _ (RP.kp (push_kp hown hgr hg2 hbv hSbv) l xs hrc) (RP.one (RJ.kp (push_kp1 hown hgr hg2 hSN hM hlw hbv hSbv) j _ hj))

/-- a row that has grown, as a row -/
theorem LRow.row {S : Nat → Prop} {N : Nat} {l : List J} {lv : Value} {w : World} (h : LRow S N l lv w) : ∃ a c, lv = .slice a l.length c ∧ RowV (fun k => (S k ∨ N ≤ k) ∧ k < w.heap.size) w l a := by
  obtain ⟨xs, hown, hrc⟩ := h
  rcases hown.2 with ⟨rfl, h0⟩ | ⟨g, cap, cur, rfl, hb, hg, hn, hcm, hcs, htake⟩
  · exact ⟨none, 0, by rw [h0], .inl (List.length_eq_zero_iff.1 h0)⟩
  · refine ⟨_, _, rfl, .inr ⟨g, 0, cur, (0, 0), rfl, ⟨.inr hb, get_lt hg⟩, Blk.of hg, ?_⟩⟩
    have e : (cur.toList.drop 0).take (5 * l.length) = xs := by rw [List.drop_zero, Nat.mul_comm]; exact htake
    rw [e]
    exact RC.kp (fun b o hs hb _ => ⟨⟨hs.1, get_lt hb⟩, hb⟩) l xs hrc

/-- a row of values of which it is known that its block is new -/
def RowVN (B : Nat) (S : Nat → Prop) (w : World) (l : List J) (a : Option Addr) : Prop :=
  RowV S w l a ∧ (l = [] ∨ ∃ g cs, a = some ⟨g, 0, none⟩ ∧ S g ∧ B ≤ g ∧ w.heap[g]? = some (.cells cs 25 (0, 0)))
theorem RowVN.kp {B : Nat} {S S' : Nat → Prop} {w w' : World} {l : List J} {a : Option Addr} (h : RowVN B S w l a) (hk : Kp S S' w w') : RowVN B S' w' l a := by
  refine ⟨h.1.kp hk, ?_⟩
  rcases h.2 with h | ⟨g, cs, ha, hs, hB, hg⟩
  · exact .inl h
  · obtain ⟨h1, h2⟩ := hk g _ hs hg (.inl ⟨_, _, rfl⟩)
    exact .inr ⟨g, cs, ha, h1, hB, h2⟩
theorem LRow.rowN {S : Nat → Prop} {N : Nat} {l : List J} {lv : Value} {w : World} (h : LRow S N l lv w) : ∃ a c, lv = .slice a l.length c ∧ RowVN N (fun k => (S k ∨ N ≤ k) ∧ k < w.heap.size) w l a := by
  obtain ⟨a, c, e, h1⟩ := h.row
  refine ⟨a, c, e, h1, ?_⟩
  obtain ⟨xs, hown, hrc⟩ := h
  rcases hown.2 with ⟨rfl, h0⟩ | ⟨g, cap, cur, rfl, hb, hg, hn, hcm, hcs, htake⟩
  · exact .inl (List.length_eq_zero_iff.1 h0)
  · right
    obtain ⟨rfl, rfl⟩ : a = some ⟨g, 0, none⟩ ∧ c = cap := by
      simp at e
      exact ⟨e.1.symm, e.2.symm⟩
    exact ⟨g, cur, rfl, ⟨.inr hb, get_lt hg⟩, hb, hg⟩
/-- a pair lies in six cells -/
def PRel (S : Nat → Prop) (w : World) (q : Bs × J) (v : PV) : Prop := q.1 = v.nm ∧ RJ S w q.2 v.val
theorem RP.pvs {S : Nat → Prop} {w : World} : ∀ (l : List (Bs × J)) (xs : List Value), RP S w l xs → ∃ pvs, xs = cellsP pvs ∧ All2 (PRel S w) l pvs := by
  intro l
  induction l with
  | nil => intro xs h; unfold RP at h; exact ⟨[], h, .nil⟩
  | cons x l ih =>
    obtain ⟨nm, jk, jn, jt, jl, jp⟩ := x
    intro xs h
    unfold RP at h
    obtain ⟨c0, c1, c2, c3, c4, ys, rfl, hj, hr⟩ := h
    obtain ⟨pvs, rfl, ha⟩ := ih ys hr
    obtain ⟨y1, n1, y2, n2, hval, _, _⟩ := hj.open
    obtain ⟨rfl, rfl, rfl, rfl, rfl⟩ : c0 = .int .i64 jk ∧ c1 = .int .i64 jn ∧ c2 = .string ⟨jt.toArray⟩ ∧ c3 = .slice y1 jl.length n1 ∧ c4 = .slice y2 jp.length n2 := by simpa using hval
    exact ⟨⟨nm, jk, jn, jt, y1, jl.length, n1, y2, jp.length, n2⟩ :: pvs, rfl, .cons ⟨rfl, hj⟩ ha⟩
theorem RP.of_pvs {S : Nat → Prop} {w : World} {l : List (Bs × J)} {pvs : List PV} (h : All2 (PRel S w) l pvs) : RP S w l (cellsP pvs) := by
  induction h with
  | nil => unfold RP; rfl
  | @cons q v l m h1 h2 ih =>
    obtain ⟨nm, j⟩ := q
    obtain ⟨h3, h4⟩ := h1
    simp only at h3 h4
    subst h3
    unfold RP
    exact ⟨_, _, _, _, _, cellsP m, rfl, h4, ih⟩
theorem All2.imp {α β : Type} {R R' : α → β → Prop} {l : List α} {m : List β} (h : All2 R l m) (hR : ∀ a b, R a b → R' a b) : All2 R' l m := by
  induction h with
  | nil => exact .nil
  | cons h1 _ ih => exact .cons (hR _ _ h1) ih
theorem All2.length {α β : Type} {R : α → β → Prop} {l : List α} {m : List β} (h : All2 R l m) : l.length = m.length := by
  induction h with
  | nil => rfl
  | cons _ _ ih => simp [ih]
/-- a row of pairs that has grown: none, or a row that can be sorted -/
theorem QRow.row {S : Nat → Prop} {N : Nat} {l : List (Bs × J)} {lv : Value} {w : World} (h : QRow S N l lv w) :
    (l = [] ∧ lv = .slice none 0 0) ∨ ∃ g cap pvs, lv = .slice (some ⟨g, 0, none⟩) l.length cap ∧ N ≤ g ∧ PRow g 0 pvs w ∧ All2 (PRel (fun k => (S k ∨ N ≤ k) ∧ k ≠ g ∧ k < w.heap.size) w) l pvs := by
  obtain ⟨xs, hown, hrc⟩ := h
  rcases hown.2 with ⟨rfl, h0⟩ | ⟨g, cap, cur, rfl, hb, hg, hn, hcm, hcs, htake⟩
  · exact .inl ⟨List.length_eq_zero_iff.1 h0, rfl⟩
  · right
    have hrc' := RP.kp (S' := fun k => (S k ∨ N ≤ k) ∧ k ≠ g ∧ k < w.heap.size) (w' := w) (fun b o hs hb _ => ⟨⟨hs.1, fun e => hs.2 (by rw [e]; rfl), get_lt hb⟩, hb⟩) l xs hrc
    obtain ⟨pvs, rfl, ha⟩ := hrc'.pvs
    refine ⟨g, cap, pvs, rfl, hb, ⟨[], cur.toList.drop (l.length * 6), ?_, rfl⟩, ha⟩
    rw [hg, List.nil_append, ← htake, List.take_append_drop]
theorem sort_row {S : Nat → Prop} {g : Nat} {l : List (Bs × J)} {pvs : List PV} {w w' : World} (ha : All2 (PRel S w) l pvs) (hS : ∀ k, S k → k ≠ g) (hF : Fr (MBk g) w w') (hP : PRow g 0 (isort PV.nm pvs) w') :
    RowP (fun k => S k ∨ k = g) w' (isort (fun q : Bs × J => q.1) l) (some ⟨g, 0, none⟩) := by
  have ha2 : All2 (PRel (fun k => S k ∨ k = g) w') l pvs := ha.imp (fun q v h => ⟨h.1, RJ.kp (Kp.fr hF (fun _ h _ => .inl h) (fun b o hs _ _ hm => hS b hs hm)) _ _ h.2⟩)
  have hs2 := isort_rel (key := fun q : Bs × J => q.1) (key' := PV.nm) (fun a b h => h.1) ha2
  obtain ⟨pre, post, hb, ho⟩ := hP
  refine .inr ⟨g, 0, _, _, rfl, .inr rfl, Blk.of hb, ?_⟩
  have e : ((pre ++ (cellsP (isort PV.nm pvs) ++ post)).toArray.toList.drop 0).take (6 * (isort (fun q : Bs × J => q.1) l).length) = cellsP (isort PV.nm pvs) := by
    have hp : pre = [] := List.length_eq_zero_iff.1 ho
    subst hp
    rw [List.drop_zero, List.nil_append, hs2.length, ← cellsP_length]
    simp
  rw [e]
  exact RP.of_pvs hs2
end Go.Proofs.YtbfmpbhikipipaaDoor
