/-
  The walk of canon's sorted.
-/
import Derived.Test.YtbfmpbhikipipaaGreatDoorKSpecHeavy
import Derived.Test.YtbfmpbhikipipaaGreatDoorKStable
import Derived.Test.YtbfmpbhikipipaaGreatDoorKSound3
import Derived.Deep.RegionLaw
import Derived.Deep.LoopGhost
import Derived.Test.YtbfmpbhikipipaaGreatDoorKReader8
namespace Go.Proofs.YtbfmpbhikipipaaGreatDoor
set_option linter.unusedVariables false
set_option linter.unusedSimpArgs false
set_option linter.unusedSectionVars false
open Go.RowKit
variable [OldK]

/-- the rows of a value lie in new blocks -/
def TopN (B : Nat) (w : World) (x : Value) : Prop := ∃ k n t a1 n1 c1 a2 n2 c2, x = .agg #[k, n, t, .slice a1 n1 c1, .slice a2 n2 c2] ∧
  (n1 = 0 ∨ ∃ g cs, a1 = some ⟨g, 0, none⟩ ∧ B ≤ g ∧ w.heap[g]? = some (.cells cs 25 (0, 0))) ∧
  (n2 = 0 ∨ ∃ g cs, a2 = some ⟨g, 0, none⟩ ∧ B ≤ g ∧ w.heap[g]? = some (.cells cs 62 (0, 0)))
/-- what 'sorted' does, f levels deep, to values whose objects have at most N pairs -/
def SortedOk (N f : Nat) : Prop := ∀ (d : Int) (S : Nat → Prop) (j : J) (v : Value) (w : World), RJ S w j v → fits 67108864 j = true → few N j = true → 0 ≤ d → d + f = 8 →
  Calls Tryz.prog 40 #[v, .int .i64 d] w fun e w' => ∃ x, e = .returned x ∧ RJ (fun k => S k ∨ w.heap.size ≤ k) w' (pSorts f j) x ∧ Fr NoB w w' ∧ (f = 0 ∨ TopN w.heap.size w' x)

theorem RJ.lt {S : Nat → Prop} {w : World} {j : J} {v : Value} (h : RJ S w j v) : RJ (fun k => S k ∧ k < w.heap.size) w j v :=
  RJ.kp (fun b o hs hb _ => ⟨⟨hs, get_lt hb⟩, hb⟩) j v h
theorem RowV.lt {S : Nat → Prop} {w : World} {l : List J} {a : Option Addr} (h : RowV S w l a) : RowV (fun k => S k ∧ k < w.heap.size) w l a :=
  h.kp (fun b o hs hb _ => ⟨⟨hs, get_lt hb⟩, hb⟩)
theorem RowP.lt {S : Nat → Prop} {w : World} {l : List (Bs × J)} {a : Option Addr} (h : RowP S w l a) : RowP (fun k => S k ∧ k < w.heap.size) w l a :=
  h.kp (fun b o hs hb _ => ⟨⟨hs, get_lt hb⟩, hb⟩)

/-- a list that grows -/
def LRow (S : Nat → Prop) (N : Nat) (l : List J) (lv : Value) (w : World) : Prop :=
  ∃ xs, w.ownsRow N 25 5 lv l.length xs ∧ RC (fun k => (S k ∨ N ≤ k) ∧ lv.ownBlock ≠ some k) w l xs
theorem LRow.nil (S : Nat → Prop) (N : Nat) (w : World) : LRow S N [] (.slice none 0 0) w := ⟨[], ⟨rfl, .inl ⟨rfl, rfl⟩⟩, by unfold RC; rfl⟩
theorem LRow.fr {S : Nat → Prop} {N : Nat} {l : List J} {lv : Value} {w w' : World} (h : LRow S N l lv w) (hF : Fr NoB w w') : LRow S N l lv w' := by
  obtain ⟨xs, hown, hrc⟩ := h
  exact ⟨xs, own_fr hown hF (fun _ _ _ _ _ h => h), RC.kp (Kp.ofFr hF) l xs hrc⟩

set_option maxRecDepth 100000 in
set_option maxHeartbeats 1000000 in
theorem sorted_deep (N : Nat) : SortedOk N 0 := by
  intro d S j v w h hfit hfew hd0 hd
  have hd8 : d = 8 := by simp at hd; omega
  subst hd8
  simp only [pSorts]
  obtain ⟨k, n, t, l, p⟩ := j
  obtain ⟨a1, c1, a2, c2, rfl, _, _⟩ := h.open
  have hb := heap_alloc_new w (.cells #[.int .i64 k, .int .i64 n, .string ⟨t.toArray⟩, .slice a1 l.length c1, .slice a2 p.length c2] 25)
  obtain ⟨b0, b1, b2, b3, b4, bz, blt⟩ := VB.at hb
  have hr := heap_alloc_new (w.alloc (.cells #[.int .i64 k, .int .i64 n, .string ⟨t.toArray⟩, .slice a1 l.length c1, .slice a2 p.length c2] 25)) (.cells #[.int .i64 k, .int .i64 n, .string ⟨t.toArray⟩, .slice a1 l.length c1, .slice a2 p.length c2] 25)
  rw [World.size_alloc] at hr
  obtain ⟨r0, r1, r2, r3, r4, rz, rlt⟩ := VB.at hr
  have hF : Fr NoB w ((w.alloc (.cells #[.int .i64 k, .int .i64 n, .string ⟨t.toArray⟩, .slice a1 l.length c1, .slice a2 p.length c2] 25)).alloc (.cells #[.int .i64 k, .int .i64 n, .string ⟨t.toArray⟩, .slice a1 l.length c1, .slice a2 p.length c2] 25)) := (Fr.refl.alloc _).alloc _
  have HF := Lib.hid hF
  have Hx := Lib.hid (RJ.kp (Kp.fr (S' := fun k => S k ∨ w.heap.size ≤ k) hF (fun _ h _ => .inl h) (fun _ _ _ _ _ h => h)) _ _ h)
  clear hF h hfit hfew hb hr
  go_enter Tryz.func40, Tryz.ntmps40
  go_wp2_with fail
  refine bodyPost_ret (v := .agg #[.int .i64 k, .int .i64 n, .string ⟨t.toArray⟩, .slice a1 l.length c1, .slice a2 p.length c2]) (by simp [results, Tryz.results40, go_sem, r0, r1, r2, r3, r4]) rfl ?_
  exact ⟨_, rfl, Hx.out, HF.out, by simp⟩

end Go.Proofs.YtbfmpbhikipipaaGreatDoor
namespace Go.Proofs.YtbfmpbhikipipaaGreatDoor
set_option linter.unusedVariables false
set_option linter.unusedSimpArgs false
set_option linter.unusedSectionVars false
open Go.RowKit
variable [OldK]

theorem grown_keep {W w2 : World} {row : Option Nat} (hgr : W.grownBy w2 row) {k : Nat} {o : Obj} (hk : W.heap[k]? = some o) (hne : row ≠ some k) : w2.heap[k]? = some o :=
  (Fr.ofGrown hgr).block k o hk (fun e => hne e.symm)
theorem alloc_keep {w : World} {k : Nat} {o : Obj} (Z : Obj) (hk : w.heap[k]? = some o) : (w.alloc Z).heap[k]? = some o :=
  ((Fr.refl (M := NoB)).alloc Z).block k o hk (fun h => h)
theorem set_keep {w : World} {b c k : Nat} {o : Obj} {x : Value} (hk : w.heap[k]? = some o) (hne : k ≠ b) : (w.setCell ⟨b, c, none⟩ x).heap[k]? = some o := by
  rw [Below.heap_setCell _ _ _ _ hne]; exact hk

section
variable {S : Nat → Prop} {N M bv g cap c n' : Nat} {w1 w2 : World} {Z : Obj} {lv X : Value} {xs : List Value} {e : TypeId}
/-- the step from the world behind a call to the world behind append and store: what it may turn -/
theorem push_fr (hgr : (w1.alloc Z).grownBy w2 lv.ownBlock) : Fr (fun k _ => lv.ownBlock = some k ∨ k = bv) w1 (w2.setCell ⟨bv, c, none⟩ X) := by
  refine Fr.setCell ?_ _ _ (fun _ _ => .inr rfl)
  exact ((Fr.refl (M := fun k _ => lv.ownBlock = some k ∨ k = bv)).alloc Z).trans (Fr.ofGrown hgr) (fun k o hm => .inl (.inl hm.symm))
theorem push_kp {size : Nat} (hown : w1.ownsRow N e size lv n' xs) (hgr : (w1.alloc Z).grownBy w2 lv.ownBlock) (hg2 : lv.ownBlock = some g ∨ w1.heap.size + 1 ≤ g)
    (hbv : bv < N) (hSbv : ¬ S bv) : Kp (fun k => (S k ∨ N ≤ k) ∧ lv.ownBlock ≠ some k) (fun k => (S k ∨ N ≤ k) ∧ some g ≠ some k) w1 (w2.setCell ⟨bv, c, none⟩ X) := by
  intro b o hs hb _
  have hne : b ≠ g := by
    rintro rfl
    rcases hg2 with h | h
    · exact hs.2 h
    · have := get_lt hb; omega
  refine ⟨⟨hs.1, fun e => hne (by simpa using e.symm)⟩, (push_fr hgr).block b o hb ?_⟩
  rintro (h | rfl)
  · exact hs.2 h
  · rcases hs.1 with h | h
    · exact hSbv h
    · omega
theorem push_kp1 {size : Nat} (hown : w1.ownsRow N e size lv n' xs) (hgr : (w1.alloc Z).grownBy w2 lv.ownBlock) (hg2 : lv.ownBlock = some g ∨ w1.heap.size + 1 ≤ g)
    (hSN : ∀ k, S k → k < N) (hM : N ≤ M) (hlw : ∀ k, lv.ownBlock = some k → k < M) (hbv : bv < N) (hSbv : ¬ S bv) :
    Kp (fun k => S k ∨ M ≤ k) (fun k => (S k ∨ N ≤ k) ∧ some g ≠ some k) w1 (w2.setCell ⟨bv, c, none⟩ X) := by
  intro b o hs hb ht
  have hnl : lv.ownBlock ≠ some b := by
    intro h
    have h1 := (own_ty hown b h).1
    have h2 := hlw b h
    rcases hs with h3 | h3
    · have := hSN b h3; omega
    · omega
  exact push_kp (S := S) hown hgr hg2 hbv hSbv b o ⟨hs.imp id (fun h => Nat.le_trans hM h), hnl⟩ hb ht
end

theorem LRow.push {S : Nat → Prop} {N M bv g cap : Nat} {w1 w2 : World} {Z : Obj} {l : List J} {j : J} {lv X v0 v1 v2 v3 v4 : Value} {xs : List Value}
    (hown : w1.ownsRow N 25 5 lv l.length xs) (hrc : RC (fun k => (S k ∨ N ≤ k) ∧ lv.ownBlock ≠ some k) w1 l xs) (hSN : ∀ k, S k → k < N)
    (hj : RJ (fun k => S k ∨ M ≤ k) w1 j (.agg #[v0, v1, v2, v3, v4])) (hM : N ≤ M) (hlw : ∀ k, lv.ownBlock = some k → k < M)
    (hgr : (w1.alloc Z).grownBy w2 lv.ownBlock) (hg2 : lv.ownBlock = some g ∨ w1.heap.size + 1 ≤ g)
    (hown2 : w2.ownsRow N 25 5 (.slice (some ⟨g, 0, none⟩) (l.length + 1) cap) (l.length + 1) (xs ++ [v0, v1, v2, v3, v4]))
    (hbv : bv < N) (hSbv : ¬ S bv) (hgN : N ≤ g) (c : Nat) : LRow S N (l ++ [j]) (.slice (some ⟨g, 0, none⟩) (l.length + 1) cap) (w2.setCell ⟨bv, c, none⟩ X) := by
  refine ⟨xs ++ [v0, v1, v2, v3, v4], own_same (by simpa using hown2) (fun k hk => ?_), ?_⟩
  · have : k = g := by simpa [Value.ownBlock] using hk.symm
    exact Below.heap_setCell _ _ _ _ (by show k ≠ bv; omega)
  · exact RC.append l xs [j] _ (RC.kp (push_kp hown hgr hg2 hbv hSbv) l xs hrc) (RC.one (RJ.kp (push_kp1 hown hgr hg2 hSN hM hlw hbv hSbv) j _ hj))

/-- pairs that grow -/
def QRow (S : Nat → Prop) (N : Nat) (l : List (Bs × J)) (lv : Value) (w : World) : Prop :=
  ∃ xs, w.ownsRow N 62 6 lv l.length xs ∧ RP (fun k => (S k ∨ N ≤ k) ∧ lv.ownBlock ≠ some k) w l xs
theorem QRow.nil (S : Nat → Prop) (N : Nat) (w : World) : QRow S N [] (.slice none 0 0) w := ⟨[], ⟨rfl, .inl ⟨rfl, rfl⟩⟩, by unfold RP; rfl⟩
theorem QRow.push {S : Nat → Prop} {N M bv g cap : Nat} {w1 w2 : World} {Z : Obj} {l : List (Bs × J)} {nm : Bs} {j : J} {lv X v0 v1 v2 v3 v4 : Value} {xs : List Value}
    (hown : w1.ownsRow N 62 6 lv l.length xs) (hrc : RP (fun k => (S k ∨ N ≤ k) ∧ lv.ownBlock ≠ some k) w1 l xs) (hSN : ∀ k, S k → k < N)
    (hj : RJ (fun k => S k ∨ M ≤ k) w1 j (.agg #[v0, v1, v2, v3, v4])) (hM : N ≤ M) (hlw : ∀ k, lv.ownBlock = some k → k < M)
    (hgr : (w1.alloc Z).grownBy w2 lv.ownBlock) (hg2 : lv.ownBlock = some g ∨ w1.heap.size + 1 ≤ g)
    (hown2 : w2.ownsRow N 62 6 (.slice (some ⟨g, 0, none⟩) (l.length + 1) cap) (l.length + 1) (xs ++ [.string ⟨nm.toArray⟩, v0, v1, v2, v3, v4]))
    (hbv : bv < N) (hSbv : ¬ S bv) (hgN : N ≤ g) (c : Nat) : QRow S N (l ++ [(nm, j)]) (.slice (some ⟨g, 0, none⟩) (l.length + 1) cap) (w2.setCell ⟨bv, c, none⟩ X) := by
  refine ⟨xs ++ [.string ⟨nm.toArray⟩, v0, v1, v2, v3, v4], own_same (by simpa using hown2) (fun k hk => ?_), ?_⟩
  · have : k = g := by simpa [Value.ownBlock] using hk.symm
    exact Below.heap_setCell _ _ _ _ (by show k ≠ bv; omega)
  · exact RP.append l xs [(nm, j)] _ (RP.kp (push_kp hown hgr hg2 hbv hSbv) l xs hrc) (RP.one (RJ.kp (push_kp1 hown hgr hg2 hSN hM hlw hbv hSbv) j _ hj))

/-- a row that has grown, as a row -/
theorem LRow.row {S : Nat → Prop} {N : Nat} {l : List J} {lv : Value} {w : World} (h : LRow S N l lv w) : ∃ a c, lv = .slice a l.length c ∧ RowV (fun k => (S k ∨ N ≤ k) ∧ k < w.heap.size) w l a := by
  obtain ⟨xs, hown, hrc⟩ := h
  rcases hown.2 with ⟨rfl, h0⟩ | ⟨g, cap, cur, rfl, hb, hg, hn, hcm, hcs, htake⟩
  · exact ⟨none, 0, by rw [h0], .inl (List.length_eq_zero_iff.1 h0)⟩
  · refine ⟨_, _, rfl, .inr ⟨g, 0, cur, (0, 0), rfl, ⟨.inr hb, get_lt hg⟩, Blk.of hg, ?_⟩⟩
    have e : (cur.toList.drop 0).take (5 * l.length) = xs := by rw [List.drop_zero, Nat.mul_comm]; exact htake
    rw [e]
    exact RC.kp (fun b o hs hb _ => ⟨⟨hs.1, get_lt hb⟩, hb⟩) l xs hrc

/-- a row of values of which it is known that its block is new -/
def RowVN (B : Nat) (S : Nat → Prop) (w : World) (l : List J) (a : Option Addr) : Prop :=
  RowV S w l a ∧ (l = [] ∨ ∃ g cs, a = some ⟨g, 0, none⟩ ∧ S g ∧ B ≤ g ∧ w.heap[g]? = some (.cells cs 25 (0, 0)))
theorem RowVN.kp {B : Nat} {S S' : Nat → Prop} {w w' : World} {l : List J} {a : Option Addr} (h : RowVN B S w l a) (hk : Kp S S' w w') : RowVN B S' w' l a := by
  refine ⟨h.1.kp hk, ?_⟩
  rcases h.2 with h | ⟨g, cs, ha, hs, hB, hg⟩
  · exact .inl h
  · obtain ⟨h1, h2⟩ := hk g _ hs hg (.inl ⟨_, _, rfl⟩)
    exact .inr ⟨g, cs, ha, h1, hB, h2⟩
theorem LRow.rowN {S : Nat → Prop} {N : Nat} {l : List J} {lv : Value} {w : World} (h : LRow S N l lv w) : ∃ a c, lv = .slice a l.length c ∧ RowVN N (fun k => (S k ∨ N ≤ k) ∧ k < w.heap.size) w l a := by
  obtain ⟨a, c, e, h1⟩ := h.row
  refine ⟨a, c, e, h1, ?_⟩
  obtain ⟨xs, hown, hrc⟩ := h
  rcases hown.2 with ⟨rfl, h0⟩ | ⟨g, cap, cur, rfl, hb, hg, hn, hcm, hcs, htake⟩
  · exact .inl (List.length_eq_zero_iff.1 h0)
  · right
    obtain ⟨rfl, rfl⟩ : a = some ⟨g, 0, none⟩ ∧ c = cap := by
      simp at e
      exact ⟨e.1.symm, e.2.symm⟩
    exact ⟨g, cur, rfl, ⟨.inr hb, get_lt hg⟩, hb, hg⟩
/-- a pair lies in six cells -/
def PRel (S : Nat → Prop) (w : World) (q : Bs × J) (v : PV) : Prop := q.1 = v.nm ∧ RJ S w q.2 v.val
theorem RP.pvs {S : Nat → Prop} {w : World} : ∀ (l : List (Bs × J)) (xs : List Value), RP S w l xs → ∃ pvs, xs = cellsP pvs ∧ All2 (PRel S w) l pvs := by
  intro l
  induction l with
  | nil => intro xs h; unfold RP at h; exact ⟨[], h, .nil⟩
  | cons x l ih =>
    obtain ⟨nm, jk, jn, jt, jl, jp⟩ := x
    intro xs h
    unfold RP at h
    obtain ⟨c0, c1, c2, c3, c4, ys, rfl, hj, hr⟩ := h
    obtain ⟨pvs, rfl, ha⟩ := ih ys hr
    obtain ⟨y1, n1, y2, n2, hval, _, _⟩ := hj.open
    obtain ⟨rfl, rfl, rfl, rfl, rfl⟩ : c0 = .int .i64 jk ∧ c1 = .int .i64 jn ∧ c2 = .string ⟨jt.toArray⟩ ∧ c3 = .slice y1 jl.length n1 ∧ c4 = .slice y2 jp.length n2 := by simpa using hval
    exact ⟨⟨nm, jk, jn, jt, y1, jl.length, n1, y2, jp.length, n2⟩ :: pvs, rfl, .cons ⟨rfl, hj⟩ ha⟩
theorem RP.of_pvs {S : Nat → Prop} {w : World} {l : List (Bs × J)} {pvs : List PV} (h : All2 (PRel S w) l pvs) : RP S w l (cellsP pvs) := by
  induction h with
  | nil => unfold RP; rfl
  | @cons q v l m h1 h2 ih =>
    obtain ⟨nm, j⟩ := q
    obtain ⟨h3, h4⟩ := h1
    simp only at h3 h4
    subst h3
    unfold RP
    exact ⟨_, _, _, _, _, cellsP m, rfl, h4, ih⟩
theorem All2.imp {α β : Type} {R R' : α → β → Prop} {l : List α} {m : List β} (h : All2 R l m) (hR : ∀ a b, R a b → R' a b) : All2 R' l m := by
  induction h with
  | nil => exact .nil
  | cons h1 _ ih => exact .cons (hR _ _ h1) ih
theorem All2.length {α β : Type} {R : α → β → Prop} {l : List α} {m : List β} (h : All2 R l m) : l.length = m.length := by
  induction h with
  | nil => rfl
  | cons _ _ ih => simp [ih]
/-- a row of pairs that has grown: none, or a row that can be sorted -/
theorem QRow.row {S : Nat → Prop} {N : Nat} {l : List (Bs × J)} {lv : Value} {w : World} (h : QRow S N l lv w) :
    (l = [] ∧ lv = .slice none 0 0) ∨ ∃ g cap pvs, lv = .slice (some ⟨g, 0, none⟩) l.length cap ∧ N ≤ g ∧ PRow g 0 pvs w ∧ All2 (PRel (fun k => (S k ∨ N ≤ k) ∧ k ≠ g ∧ k < w.heap.size) w) l pvs := by
  obtain ⟨xs, hown, hrc⟩ := h
  rcases hown.2 with ⟨rfl, h0⟩ | ⟨g, cap, cur, rfl, hb, hg, hn, hcm, hcs, htake⟩
  · exact .inl ⟨List.length_eq_zero_iff.1 h0, rfl⟩
  · right
    have hrc' := RP.kp (S' := fun k => (S k ∨ N ≤ k) ∧ k ≠ g ∧ k < w.heap.size) (w' := w) (fun b o hs hb _ => ⟨⟨hs.1, fun e => hs.2 (by rw [e]; rfl), get_lt hb⟩, hb⟩) l xs hrc
    obtain ⟨pvs, rfl, ha⟩ := hrc'.pvs
    refine ⟨g, cap, pvs, rfl, hb, ⟨[], cur.toList.drop (l.length * 6), ?_, rfl⟩, ha⟩
    rw [hg, List.nil_append, ← htake, List.take_append_drop]
theorem sort_row {S : Nat → Prop} {g : Nat} {l : List (Bs × J)} {pvs : List PV} {w w' : World} (ha : All2 (PRel S w) l pvs) (hS : ∀ k, S k → k ≠ g) (hF : Fr (MBk g) w w') (hP : PRow g 0 (isort PV.nm pvs) w') :
    RowP (fun k => S k ∨ k = g) w' (isort (fun q : Bs × J => q.1) l) (some ⟨g, 0, none⟩) := by
  have ha2 : All2 (PRel (fun k => S k ∨ k = g) w') l pvs := ha.imp (fun q v h => ⟨h.1, RJ.kp (Kp.fr hF (fun _ h _ => .inl h) (fun b o hs _ _ hm => hS b hs hm)) _ _ h.2⟩)
  have hs2 := isort_rel (key := fun q : Bs × J => q.1) (key' := PV.nm) (fun a b h => h.1) ha2
  obtain ⟨pre, post, hb, ho⟩ := hP
  refine .inr ⟨g, 0, _, _, rfl, .inr rfl, Blk.of hb, ?_⟩
  have e : ((pre ++ (cellsP (isort PV.nm pvs) ++ post)).toArray.toList.drop 0).take (6 * (isort (fun q : Bs × J => q.1) l).length) = cellsP (isort PV.nm pvs) := by
    have hp : pre = [] := List.length_eq_zero_iff.1 ho
    subst hp
    rw [List.drop_zero, List.nil_append, hs2.length, ← cellsP_length]
    simp
  rw [e]
  exact RP.of_pvs hs2
end Go.Proofs.YtbfmpbhikipipaaGreatDoor
namespace Go.Proofs.YtbfmpbhikipipaaGreatDoor
set_option linter.unusedVariables false
set_option linter.unusedSimpArgs false
set_option linter.unusedSectionVars false
open Go.RowKit
variable [OldK]

theorem top_of {B B' : Nat} {S : Nat → Prop} {w : World} {l : List J} {al a2 : Option Addr} {m cl n2 c2 : Nat} {k n t : Value} (h : RowVN B S w l al) (hm : l.length = m) (hB : B' ≤ B)
    (h2 : n2 = 0 ∨ ∃ g cs, a2 = some ⟨g, 0, none⟩ ∧ B' ≤ g ∧ w.heap[g]? = some (.cells cs 62 (0, 0))) : TopN B' w (.agg #[k, n, t, .slice al m cl, .slice a2 n2 c2]) := by
  refine ⟨k, n, t, al, m, cl, a2, n2, c2, rfl, ?_, h2⟩
  rcases h.2 with h | ⟨g, cs, ha, hs, hb, hg⟩
  · exact .inl (by rw [← hm, h]; rfl)
  · exact .inr ⟨g, cs, ha, by omega, hg⟩
set_option maxRecDepth 100000 in
set_option maxHeartbeats 4000000 in
theorem sorted_succ (N f : Nat) (ih : SortedOk N f) (hN : SortOk N) : SortedOk N (f + 1) := by
  intro d S j v w h hfit hfew hd0 hd
  have hd8 : decide (8 ≤ d) = false := by rw [decide_eq_false_iff_not]; simp at hd; omega
  have hdf : d + 1 + (f : Int) = 8 := by simp at hd; omega
  have hwr : IntKind.i64.wrap (d + 1) = d + 1 := by rw [IntKind.wrap_i64]; simp at hd; omega
  obtain ⟨k, n, t, l, p⟩ := j
  simp only [pSorts]
  obtain ⟨a1, c1, a2, c2, rfl, hl, hp⟩ := h.open
  have hll := (fits.open hfit).2.1
  have hpl := (fits.open hfit).2.2.1
  have Hfl := Lib.hid (fits.open hfit).2.2.2.1
  have Hfp := Lib.hid (fits.open hfit).2.2.2.2
  have Hwl := Lib.hid (few.open hfew).2.1
  have Hwp := Lib.hid (few.open hfew).2.2
  have Hpn := Lib.hid (few.open hfew).1
  have Hl := Lib.hid hl.lt
  have Hp := Lib.hid hp.lt
  clear h hfit hfew hl hp hd
  -- the world ahead of the loops
  obtain ⟨B, hB⟩ : ∃ B, B = w.heap.size := ⟨_, rfl⟩
  have hb := heap_alloc_new w (.cells #[.int .i64 k, .int .i64 n, .string ⟨t.toArray⟩, .slice a1 l.length c1, .slice a2 p.length c2] 25)
  obtain ⟨b0, b1, b2, b3, b4, bz, blt⟩ := VB.at hb
  have hb3 : ((w.alloc (.cells #[.int .i64 k, .int .i64 n, .string ⟨t.toArray⟩, .slice none 0 0, .slice a2 p.length c2] 25)).alloc (.cells #[.int .i64 0, .int .i64 0, .string ⟨#[]⟩, .slice none 0 0, .slice none 0 0] 25)).heap[w.heap.size]? =
      some (.cells #[.int .i64 k, .int .i64 n, .string ⟨t.toArray⟩, .slice none 0 0, .slice a2 p.length c2] 25 (0, 0)) :=
    (Fr.refl (M := NoB)).alloc _ |>.block _ _ (heap_alloc_new w _) (fun h => h)
  have hr3 := heap_alloc_new (w.alloc (.cells #[.int .i64 k, .int .i64 n, .string ⟨t.toArray⟩, .slice none 0 0, .slice a2 p.length c2] 25)) (.cells #[.int .i64 0, .int .i64 0, .string ⟨#[]⟩, .slice none 0 0, .slice none 0 0] 25)
  rw [World.size_alloc] at hr3
  have hF3 : Fr NoB w ((w.alloc (.cells #[.int .i64 k, .int .i64 n, .string ⟨t.toArray⟩, .slice none 0 0, .slice a2 p.length c2] 25)).alloc (.cells #[.int .i64 0, .int .i64 0, .string ⟨#[]⟩, .slice none 0 0, .slice none 0 0] 25)) := (Fr.refl.alloc _).alloc _
  have HB3 := Lib.hid hb3
  have HR3 := Lib.hid hr3
  have HF3 := Lib.hid hF3
  clear hb hb3 hr3 hF3
  obtain ⟨i0, hi, hz0, hz1, hz2⟩ := info_parts Tryz.infoV
  go_enter Tryz.func40, Tryz.ntmps40
  go_wp2_with fail
  go_loopg [19] (l.length + 1) (fun g vi wr => ∃ (i : Nat) (lv : Value), vi = .int .i64 i ∧ i ≤ l.length ∧ i + g = l.length + 1 ∧
    wr.heap[w.heap.size]? = some (.cells #[.int .i64 k, .int .i64 n, .string ⟨t.toArray⟩, lv, .slice a2 p.length c2] 25 (0, 0)) ∧
    wr.heap[w.heap.size + 1]? = some (.cells #[.int .i64 0, .int .i64 0, .string ⟨#[]⟩, .slice none 0 0, .slice none 0 0] 25 (0, 0)) ∧
    LRow (fun k => S k ∧ k < w.heap.size) (w.heap.size + 2) ((l.take i).map (pSorts f)) lv wr ∧ Fr NoB w wr)
  case atStart => exact ⟨0, _, rfl, by omega, by omega, HB3.out, HR3.out, LRow.nil _ _ _, HF3.out⟩
  case round =>
    obtain ⟨i, lv, rfl, hi', hgk, hb, hr, hrow, hF⟩ := hrel
    rcases Nat.lt_or_ge i l.length with hlt | hge
    · obtain ⟨j, hj⟩ : ∃ j, l[i]? = some j := ⟨_, List.getElem?_eq_getElem hlt⟩
      obtain ⟨b, o, x0, x1, x2, x3, x4, rfl, hbl, e0, e1, e2, e3, e4, hrj⟩ := (Hl.out.kp (Kp.ofFr hF)).at hj
      obtain ⟨jk, jn, jt, jl, jp⟩ := j
      obtain ⟨y1, n1, y2, n2, hval, _, _⟩ := hrj.open
      obtain ⟨rfl, rfl, rfl, rfl, rfl⟩ : x0 = .int .i64 jk ∧ x1 = .int .i64 jn ∧ x2 = .string ⟨jt.toArray⟩ ∧ x3 = .slice y1 jl.length n1 ∧ x4 = .slice y2 jp.length n2 := by simpa using hval
      have hxb := heap_alloc_new wr (.cells #[.int .i64 jk, .int .i64 jn, .string ⟨jt.toArray⟩, .slice y1 jl.length n1, .slice y2 jp.length n2] 25)
      obtain ⟨d0, d1, d2, d3, d4, dz, dlt⟩ := VB.at hxb
      have hFx := (Fr.refl (M := NoB)).alloc (w := wr) (.cells #[.int .i64 jk, .int .i64 jn, .string ⟨jt.toArray⟩, .slice y1 jl.length n1, .slice y2 jp.length n2] 25)
      have hrj' := RJ.kp (Kp.ofFr (hFx.drew)) _ _ hrj
      have hcall := ih (d + 1) _ _ _ _ hrj' (fitsl.at l Hfl.out i _ hj) (fewl.at l Hwl.out i _ hj) (by omega) hdf
      clear hrj hrj' hval
      obtain ⟨⟨jk', jn', jt', jl', jp'⟩, hjs⟩ : ∃ j', pSorts f (.mk jk jn jt jl jp) = j' := ⟨_, rfl⟩
      rw [hjs] at hcall
      obtain ⟨xs, hown, hrc⟩ := hrow
      obtain ⟨ao, co, rfl⟩ := own_form hown
      have hbx := (hFx.drew).block _ _ hb (fun h => h)
      have B3 : (wr.alloc (.cells #[.int .i64 jk, .int .i64 jn, .string ⟨jt.toArray⟩, .slice y1 jl.length n1, .slice y2 jp.length n2] 25)).cell? ⟨w.heap.size, 3, none⟩ = some (.slice ao ((l.take i).map (pSorts f)).length co) := (VB.at hbx).2.2.2.1
      have hml : ((l.take i).map (pSorts f)).length = i := by simp; omega
      rw [hml] at B3 hown
      have Hcall := Lib.hid hcall
      have Hjs := Lib.hid hjs
      have Hown := Lib.hid hown
      have Hrc := Lib.hid hrc
      have Hb := Lib.hid hb
      have Hr := Lib.hid hr
      have HFx := Lib.hid (hF.trans' hFx.drew)
      have HFX := Lib.hid hFx.drew
      have Hbx := Lib.hid hbx
      have hwN : w.heap.size + 1 < wr.heap.size := get_lt hr
      clear hcall hjs hown hrc hb hr hbx hml
      go_wp2_with fail
      have hlen1 : (i + 1) * 80 ≤ 140737488355328 := by omega
      have hlen2 : i + 1 ≤ maxLen := by unfold maxLen; omega
      have hown0 := fun k hk => (own_ty Hown.out k hk).1
      have HO0 := Lib.hid hown0
      clear hown0
      go_region_law (first
        | (go_simp; go_at_call 40; refine Hcall.out.mono ?_; rintro e w1 ⟨y, rfl, hy, hF1, _⟩; obtain ⟨z1, m1, z2, m2, rfl, _, _⟩ := hy.open; have Hy := Lib.hid hy; have HF1 := Lib.hid hF1; have Hb1 := Lib.hid (hF1.block _ _ Hbx.out (fun h => h)); have B31 := (VB.at Hb1.out).2.2.2.1; have BZ1 := (VB.at Hb1.out).2.2.2.2.2.1 3; have BL1 := (VB.at Hb1.out).2.2.2.2.2.2; clear hy hF1)
        | (refine step_append_own rfl (.tmp 24) (.tmp 29) 22 rfl (w.heap.size + 2) 25 i0 (.agg #[.int .i64 0, .int .i64 0, .string ⟨#[]⟩, .slice none 0 0, .slice none 0 0]) 5 80 Tryz.underlying22 hi hz0 hz1 hz2 rfl (by decide) (.slice ao i co) i xs rfl (by exact ((own_fr Hown.out (HFX.out.trans' HF1.out) (fun _ _ _ _ _ h => h)).alloc _)) ⟨w1.heap.size, 0, none⟩ 1 [.int .i64 jk', .int .i64 jn', .string ⟨jt'.toArray⟩, .slice z1 jl'.length m1, .slice z2 jp'.length m2] rfl rfl (by exact cells_at w1 _ _ _ rfl) (by simp [Value.oneCell']) hlen2 hlen1 (by simp; omega) ?_; intro g cap w2 hown2 hgr2 hg2 hc2 hf2; have Hown2 := Lib.hid hown2; have Hgr2 := Lib.hid hgr2; have Hg2 := Lib.hid hg2; have Hb2 := Lib.hid (grown_keep hgr2 (alloc_keep _ Hb1.out) (fun e => by have := HO0.out _ e; omega)); have B32 := (VB.at Hb2.out).2.2.2.1; have BZ2 := (VB.at Hb2.out).2.2.2.2.2.1 3; clear hown2 hgr2 hg2 hc2 hf2))
      all_goals
        go_wp2_with fail
        go_roundg (gk - 1)
        case measure => omega
        case rel =>
          have hml : ((l.take i).map (pSorts f)).length = i := by simp; omega
          have htk : (l.take (i + 1)).map (pSorts f) = (l.take i).map (pSorts f) ++ [.mk jk' jn' jt' jl' jp'] := by
            obtain ⟨hi1, he⟩ := List.getElem?_eq_some_iff.1 hj
            rw [List.take_succ_eq_append_getElem hi1, List.map_append, he, ← Hjs.out]
            rfl
          have hg2 : (Value.slice ao i co).ownBlock = some g ∨ w1.heap.size + 1 ≤ g := by have := Hg2.out; simp only [World.size_alloc] at this; exact this
          have hgN : w.heap.size + 2 ≤ g := by
            rcases hg2 with h | h
            · exact HO0.out _ h
            · have := HF1.out.size
              simp only [World.size_drew, World.size_alloc] at this
              omega
          refine ⟨i + 1, .slice (some ⟨g, 0, none⟩) (i + 1) cap, by simp, by omega, by omega, heap_setCell_eq (o := 3) _ Hb2.out, set_keep (grown_keep Hgr2.out (alloc_keep _ (HF1.out.block _ _ (HFX.out.block _ _ Hr.out (fun h => h)) (fun h => h))) (fun e => by have := HO0.out _ e; omega)) (by omega), ?_, ?_⟩
          · rw [htk]
            have hp := LRow.push (S := fun k => S k ∧ k < w.heap.size) (N := w.heap.size + 2) (bv := w.heap.size) (g := g) (cap := cap) (l := (l.take i).map (pSorts f)) (xs := xs) (lv := .slice ao i co) (by rw [hml]; exact own_fr Hown.out (HFX.out.trans' HF1.out) (fun _ _ _ _ _ h => h)) (RC.kp (Kp.ofFr (HFX.out.trans' HF1.out)) _ _ (by have := Hrc.out; rw [hml] at this; exact this)) (fun k h => by omega) Hy.out (by simp only [World.size_drew, World.size_alloc]; omega) (fun k h => by
              obtain ⟨_, o', ho, _⟩ := own_ty Hown.out k h
              have := get_lt ho
              simp only [World.size_drew, World.size_alloc]; omega) Hgr2.out hg2 (by rw [hml]; exact Hown2.out) (by omega) (fun h => by omega) hgN 3 (X := .slice (some ⟨g, 0, none⟩) (i + 1) cap)
            rw [hml] at hp
            exact hp
          · exact (HFx.out.trans' HF1.out).trans (push_fr Hgr2.out) (fun k o hm => .inr (by
              rcases hm with h | rfl
              · have := HO0.out _ h; omega
              · omega))
    · obtain rfl : i = l.length := by omega
      rw [List.take_length] at hrow
      obtain ⟨al, cl, rfl, hrv⟩ := hrow.rowN
      rw [List.length_map] at hb
      obtain ⟨c0, c1', c2', c3, c4, cz, clt⟩ := VB.at hb
      have hwN : w.heap.size + 1 < wr.heap.size := get_lt hr
      obtain ⟨N2, hN2⟩ : ∃ N2, N2 = wr.heap.size := ⟨_, rfl⟩
      have hbs : (wr.setCell ⟨w.heap.size, 4, none⟩ (.slice none 0 0)).heap[w.heap.size]? = some (.cells #[.int .i64 k, .int .i64 n, .string ⟨t.toArray⟩, .slice al l.length cl, .slice none 0 0] 25 (0, 0)) := heap_setCell_eq (o := 4) _ hb
      have hrs : (wr.setCell ⟨w.heap.size, 4, none⟩ (.slice none 0 0)).heap[w.heap.size + 1]? = _ := set_keep hr (by omega)
      have hFs : Fr NoB w (wr.setCell ⟨w.heap.size, 4, none⟩ (.slice none 0 0)) := hF.setNew _ _ (Nat.le_refl _)
      have hrvs : RowVN (w.heap.size + 2) (fun k => ((S k ∧ k < w.heap.size) ∨ w.heap.size + 2 ≤ k) ∧ k < N2) (wr.setCell ⟨w.heap.size, 4, none⟩ (.slice none 0 0)) (l.map (pSorts f)) al :=
        hrv.kp (fun b o hs hb _ => ⟨by rw [hN2]; exact hs, set_keep hb (by omega)⟩)
      have hNs : N2 ≤ (wr.setCell ⟨w.heap.size, 4, none⟩ (.slice none 0 0)).heap.size := by rw [World.size_setCell]; omega
      have hN3 : w.heap.size + 2 ≤ N2 := by omega
      have Hbs := Lib.hid hbs
      have Hrs := Lib.hid hrs
      have HFs := Lib.hid hFs
      have Hrvs := Lib.hid hrvs
      have HNs := Lib.hid hNs
      clear hb hr hF hrow hrv hbs hrs hFs hrvs hN2 hNs
      go_wp2_with fail
      clear c0 c1' c2' c3 c4 cz clt hwN
      go_loopg [38] (p.length + 1) (fun g vi wr => ∃ (i : Nat) (lv : Value), vi = .int .i64 i ∧ i ≤ p.length ∧ i + g = p.length + 1 ∧
        wr.heap[w.heap.size]? = some (.cells #[.int .i64 k, .int .i64 n, .string ⟨t.toArray⟩, .slice al l.length cl, lv] 25 (0, 0)) ∧
        wr.heap[w.heap.size + 1]? = some (.cells #[.int .i64 0, .int .i64 0, .string ⟨#[]⟩, .slice none 0 0, .slice none 0 0] 25 (0, 0)) ∧
        QRow (fun k => S k ∧ k < w.heap.size) N2 ((p.take i).map fun q => (q.1, pSorts f q.2)) lv wr ∧
        RowVN (w.heap.size + 2) (fun k => ((S k ∧ k < w.heap.size) ∨ w.heap.size + 2 ≤ k) ∧ k < N2) wr (l.map (pSorts f)) al ∧ N2 ≤ wr.heap.size ∧ Fr NoB w wr)
      case atStart => exact ⟨0, _, rfl, by omega, by omega, Hbs.out, Hrs.out, QRow.nil _ _ _, Hrvs.out, HNs.out, HFs.out⟩
      case round =>
        clear HFs Hrvs HNs Hbs Hrs
        obtain ⟨i, lv, rfl, hi', hgk, hb, hr, hrow, hrv, hNs, hF⟩ := hrel
        rcases Nat.lt_or_ge i p.length with hlt | hge
        · obtain ⟨⟨nm, j⟩, hj⟩ : ∃ j, p[i]? = some j := ⟨_, List.getElem?_eq_getElem hlt⟩
          obtain ⟨b, o, x0, x1, x2, x3, x4, rfl, hbl, e5, e0, e1, e2, e3, e4, hrj⟩ := (Hp.out.kp (Kp.ofFr hF)).at hj
          obtain ⟨jk, jn, jt, jl, jp⟩ := j
          obtain ⟨y1, n1, y2, n2, hval, _, _⟩ := hrj.open
          obtain ⟨rfl, rfl, rfl, rfl, rfl⟩ : x0 = .int .i64 jk ∧ x1 = .int .i64 jn ∧ x2 = .string ⟨jt.toArray⟩ ∧ x3 = .slice y1 jl.length n1 ∧ x4 = .slice y2 jp.length n2 := by simpa using hval
          have hxb := heap_alloc_new wr (.cells #[.string ⟨nm.toArray⟩, .int .i64 jk, .int .i64 jn, .string ⟨jt.toArray⟩, .slice y1 jl.length n1, .slice y2 jp.length n2] 62)
          obtain ⟨d5, d0, d1, d2, d3, d4, dz, dlt⟩ := PB.at hxb
          have hFx := (Fr.refl (M := NoB)).alloc (w := wr) (.cells #[.string ⟨nm.toArray⟩, .int .i64 jk, .int .i64 jn, .string ⟨jt.toArray⟩, .slice y1 jl.length n1, .slice y2 jp.length n2] 62)
          have hrj' := RJ.kp (Kp.ofFr (hFx.drew)) _ _ hrj
          have hcall := ih (d + 1) _ _ _ _ hrj' (fitsp.at p Hfp.out i _ _ hj).2 (fewp.at p Hwp.out i _ _ hj) (by omega) hdf
          clear hrj hrj' hval
          obtain ⟨⟨jk', jn', jt', jl', jp'⟩, hjs⟩ : ∃ j', pSorts f (.mk jk jn jt jl jp) = j' := ⟨_, rfl⟩
          rw [hjs] at hcall
          obtain ⟨xs, hown, hrc⟩ := hrow
          obtain ⟨ao, co, rfl⟩ := own_form hown
          have hbx := (hFx.drew).block _ _ hb (fun h => h)
          have hxx : (wr.alloc (.cells #[.string ⟨nm.toArray⟩, .int .i64 jk, .int .i64 jn, .string ⟨jt.toArray⟩, .slice y1 jl.length n1, .slice y2 jp.length n2] 62)).drew.heap[wr.heap.size]? = _ := hxb
          have B3 : (wr.alloc (.cells #[.string ⟨nm.toArray⟩, .int .i64 jk, .int .i64 jn, .string ⟨jt.toArray⟩, .slice y1 jl.length n1, .slice y2 jp.length n2] 62)).cell? ⟨w.heap.size, 4, none⟩ = some (.slice ao ((p.take i).map fun q => (q.1, pSorts f q.2)).length co) := (VB.at hbx).2.2.2.2.1
          have hml : ((p.take i).map fun q => (q.1, pSorts f q.2)).length = i := by simp; omega
          rw [hml] at B3 hown
          have Hcall := Lib.hid hcall
          have Hjs := Lib.hid hjs
          have Hown := Lib.hid hown
          have Hrc := Lib.hid hrc
          have Hb := Lib.hid hb
          have Hr := Lib.hid hr
          have HFx := Lib.hid (hF.trans' hFx.drew)
          have HFX := Lib.hid hFx.drew
          have Hbx := Lib.hid hbx
          have Hxx := Lib.hid hxx
          have Hrv := Lib.hid hrv
          have HNs := Lib.hid hNs
          clear hcall hjs hown hrc hb hr hbx hml hxb hxx hrv
          go_wp2_with fail
          have hlen1 : (i + 1) * 96 ≤ 140737488355328 := by omega
          have hlen2 : i + 1 ≤ maxLen := by unfold maxLen; omega
          have hown0 := fun k hk => (own_ty Hown.out k hk).1
          have HO0 := Lib.hid hown0
          obtain ⟨i1, hi1, hy0, hy1, hy2⟩ := info_parts Tryz.infoP
          clear hown0
          go_region_law (first
            | (go_simp; go_at_call 40; refine Hcall.out.mono ?_; rintro e w1 ⟨y, rfl, hy, hF1, _⟩; obtain ⟨z1, m1, z2, m2, rfl, _, _⟩ := hy.open; have Hy := Lib.hid hy; have HF1 := Lib.hid hF1; have Hb1 := Lib.hid (hF1.block _ _ Hbx.out (fun h => h)); have B31 := (VB.at Hb1.out).2.2.2.2.1; have BZ1 := (VB.at Hb1.out).2.2.2.2.2.1 4; have BL1 := (VB.at Hb1.out).2.2.2.2.2.2; have BN1 := (PB.at (hF1.block _ _ Hxx.out (fun h => h))).1; have BX1 := (PB.at (hF1.block _ _ Hxx.out (fun h => h))).2.2.2.2.2.2.2; clear hy hF1)
            | (refine step_append_own rfl (.tmp 43) (.tmp 52) 23 rfl N2 62 i1 (.agg #[.string ⟨#[]⟩, .int .i64 0, .int .i64 0, .string ⟨#[]⟩, .slice none 0 0, .slice none 0 0]) 6 96 Tryz.underlying23 hi1 hy0 hy1 hy2 rfl (by decide) (.slice ao i co) i xs rfl (by exact ((own_fr Hown.out (HFX.out.trans' HF1.out) (fun _ _ _ _ _ h => h)).alloc _)) ⟨w1.heap.size, 0, none⟩ 1 [.string ⟨nm.toArray⟩, .int .i64 jk', .int .i64 jn', .string ⟨jt'.toArray⟩, .slice z1 jl'.length m1, .slice z2 jp'.length m2] rfl rfl (by exact cells_at w1 _ _ _ rfl) (by simp [Value.oneCell']) hlen2 hlen1 (by have := HF1.out.size; simp only [World.size_drew, World.size_alloc] at this ⊢; omega) ?_; intro g cap w2 hown2 hgr2 hg2 hc2 hf2; have Hown2 := Lib.hid hown2; have Hgr2 := Lib.hid hgr2; have Hg2 := Lib.hid hg2; have Hb2 := Lib.hid (grown_keep hgr2 (alloc_keep _ Hb1.out) (fun e => by have := HO0.out _ e; omega)); have B32 := (VB.at Hb2.out).2.2.2.2.1; have BZ2 := (VB.at Hb2.out).2.2.2.2.2.1 4; clear hown2 hgr2 hg2 hc2 hf2))
          all_goals
            go_wp2_with fail
            go_roundg (gk - 1)
            case measure => omega
            case rel =>
              have hml : ((p.take i).map fun q => (q.1, pSorts f q.2)).length = i := by simp; omega
              have htk : ((p.take (i + 1)).map fun q => (q.1, pSorts f q.2)) = ((p.take i).map fun q => (q.1, pSorts f q.2)) ++ [(nm, .mk jk' jn' jt' jl' jp')] := by
                obtain ⟨hi1, he⟩ := List.getElem?_eq_some_iff.1 hj
                rw [List.take_succ_eq_append_getElem hi1, List.map_append, he, ← Hjs.out]
                rfl
              have hg2 : (Value.slice ao i co).ownBlock = some g ∨ w1.heap.size + 1 ≤ g := by have := Hg2.out; simp only [World.size_alloc] at this; exact this
              have hsz1 := HF1.out.size
              have hsz2 := Hgr2.out.size
              have hNs2 := HNs.out
              simp only [World.size_drew, World.size_alloc] at hsz1 hsz2
              have hgN : N2 ≤ g := by
                rcases hg2 with h | h
                · exact HO0.out _ h
                · omega
              refine ⟨i + 1, .slice (some ⟨g, 0, none⟩) (i + 1) cap, by simp, by omega, by omega, heap_setCell_eq (o := 4) _ Hb2.out, set_keep (grown_keep Hgr2.out (alloc_keep _ (HF1.out.block _ _ (HFX.out.block _ _ Hr.out (fun h => h)) (fun h => h))) (fun e => by have := HO0.out _ e; omega)) (by omega), ?_, ?_, ?_, ?_⟩
              · rw [htk]
                have hp := QRow.push (S := fun k => S k ∧ k < w.heap.size) (N := N2) (bv := w.heap.size) (g := g) (cap := cap) (l := (p.take i).map fun q => (q.1, pSorts f q.2)) (xs := xs) (lv := .slice ao i co) (nm := nm) (by rw [hml]; exact own_fr Hown.out (HFX.out.trans' HF1.out) (fun _ _ _ _ _ h => h)) (RP.kp (Kp.ofFr (HFX.out.trans' HF1.out)) _ _ (by have := Hrc.out; rw [hml] at this; exact this)) (fun k h => by omega) Hy.out (by simp only [World.size_drew, World.size_alloc]; omega) (fun k h => by
                  obtain ⟨_, o', ho, _⟩ := own_ty Hown.out k h
                  have := get_lt ho
                  simp only [World.size_drew, World.size_alloc]; omega) Hgr2.out hg2 (by rw [hml]; exact Hown2.out) (by omega) (fun h => by omega) hgN 4 (X := .slice (some ⟨g, 0, none⟩) (i + 1) cap)
                rw [hml] at hp
                exact hp
              · refine (Hrv.out.kp (Kp.ofFr (HFX.out.trans' HF1.out))).kp (fun b' o' hs hb' _ => ⟨hs, (push_fr Hgr2.out).block b' o' hb' ?_⟩)
                rintro (h | h)
                · have := HO0.out _ h; omega
                · omega
              · rw [World.size_setCell]; omega
              · exact (HFx.out.trans' HF1.out).trans (push_fr Hgr2.out) (fun k o hm => .inr (by
                  rcases hm with h | rfl
                  · have := HO0.out _ h; omega
                  · omega))
        · obtain rfl : i = p.length := by omega
          rw [List.take_length] at hrow
          rcases hrow.row with ⟨hp0, rfl⟩ | ⟨g, cap, pvs, rfl, hgN, hP, ha⟩
          · obtain ⟨c0, c1', c2', c3, c4, cz, clt⟩ := VB.at hb
            have Hrv := Lib.hid hrv
            have HF := Lib.hid hF
            have Hp0 := Lib.hid hp0
            clear hrow hp0 hrv hF
            go_wp2_with fail
            refine (sort_none none 0 _).mono ?_
            rintro e w1 ⟨rfl, rfl⟩
            obtain ⟨a0, a1, a2, a3, a4, fz, hlt1⟩ := VB.at hr
            have Hr := Lib.hid hr
            clear hr
            go_wp2_with fail
            refine bodyPost_ret (v := .agg #[.int .i64 k, .int .i64 n, .string ⟨t.toArray⟩, .slice al l.length cl, .slice none 0 0]) (by simp [results, Tryz.results40, go_sem, a0, a1, a2, a3, a4]) rfl ?_
            have hrN := fun (u0 u1 u2 u3 u4 : Value) => Hrv.out.kp (S' := fun k => S k ∨ w.heap.size ≤ k) (w' := setV (w.heap.size + 1) u0 u1 u2 u3 u4 _) (fun b' o' hs hb' _ => by
              have hs1 : (S b' ∧ b' < w.heap.size) ∨ w.heap.size + 2 ≤ b' := hs.1
              exact ⟨hs1.elim (fun h => .inl h.1) (fun h => .inr (by omega)), (setV_fr (w.heap.size + 1) u0 u1 u2 u3 u4 _).block b' o' hb' (by
                show ¬ b' = w.heap.size + 1
                omega)⟩)
            refine ⟨_, rfl, ?_, HF.out.setV (by omega) _ _ _ _ _, .inr (top_of (hrN _ _ _ _ _) (by simp) (by omega) (.inl rfl))⟩
            rw [Hp0.out]
            unfold RJ
            exact ⟨al, cl, none, 0, by rw [List.length_map]; rfl, (hrN _ _ _ _ _).1, .inl rfl⟩
          · rw [List.length_map] at hb
            obtain ⟨c0, c1', c2', c3, c4, cz, clt⟩ := VB.at hb
            have Hrv := Lib.hid hrv
            have HF := Lib.hid hF
            have Ha := Lib.hid ha
            have HP := Lib.hid hP
            have hlen : pvs.length = p.length := by rw [← ha.length, List.length_map]
            have hsort := hN g 0 cap pvs
            rw [hlen] at hsort
            have Hsort := Lib.hid hsort
            have Hpn2 := Hpn.out
            have HNs := Lib.hid hNs
            clear hrow hrv hF ha hP hsort
            go_wp2_with fail
            refine (Hsort.out _ HP.out Hpn2).mono ?_
            rintro e w1 ⟨rfl, hP1, hF1⟩
            have hNs2 := HNs.out
            have hb1 := hF1.block _ _ hb (fun h => by have : w.heap.size = g := h; omega)
            have hr1 := hF1.block _ _ hr (fun h => by have : w.heap.size + 1 = g := h; omega)
            clear c0 c1' c2' c3 c4 cz clt
            obtain ⟨c0, c1', c2', c3, c4, cz, clt⟩ := VB.at hb1
            obtain ⟨a0, a1, a2, a3, a4, fz, hlt1⟩ := VB.at hr1
            have HP1 := Lib.hid hP1
            have HF1 := Lib.hid hF1
            clear hP1 hF1 hb1 hr1 hb hr
            go_wp2_with fail
            refine bodyPost_ret (v := .agg #[.int .i64 k, .int .i64 n, .string ⟨t.toArray⟩, .slice al l.length cl,   .slice (some ⟨g, 0, none⟩) p.length cap]) (by simp [results, Tryz.results40, go_sem, a0, a1, a2, a3, a4]) rfl ?_
            have hFF : Fr NoB w w1 := HF.out.trans HF1.out (fun k o hm => .inr (by have : k = g := hm; omega))
            have hsr := sort_row Ha.out (fun k h => h.2.1) HF1.out HP1.out
            have hrN := fun (u0 u1 u2 u3 u4 : Value) => ((Hrv.out.kp (w' := w1) (fun b' o' hs hb' _ => ⟨hs, HF1.out.block b' o' hb' (fun h => by have : b' = g := h; have := hs.2; omega)⟩)).kp (S' := fun k => S k ∨ w.heap.size ≤ k) (w' := setV (w.heap.size + 1) u0 u1 u2 u3 u4 w1) (fun b' o' hs hb' _ => by
              have hs1 : (S b' ∧ b' < w.heap.size) ∨ w.heap.size + 2 ≤ b' := hs.1
              exact ⟨hs1.elim (fun h => .inl h.1) (fun h => .inr (by omega)), (setV_fr (w.heap.size + 1) u0 u1 u2 u3 u4 _).block b' o' hb' (by
                show ¬ b' = w.heap.size + 1
                omega)⟩))
            obtain ⟨pre1, post1, hg1, _⟩ := HP1.out
            refine ⟨_, rfl, ?_, hFF.setV (by omega) _ _ _ _ _, .inr (top_of (hrN _ _ _ _ _) (by simp) (by omega) (.inr ⟨g, _, rfl, by omega, (setV_fr _ _ _ _ _ _ _).block _ _ hg1 (by omega)⟩))⟩
            unfold RJ
            refine ⟨al, cl, some ⟨g, 0, none⟩, cap, by rw [List.length_map, isort_length, List.length_map], (hrN _ _ _ _ _).1, hsr.kp (fun b' o' hs hb' _ => ⟨?_, (setV_fr _ _ _ _ _ _ _).block b' o' hb' (by omega)⟩)⟩
            rcases hs with h | h
            · rcases h.1 with h' | h'
              · exact .inl h'.1
              · right; omega
            · right; omega
theorem sorted_c (N : Nat) (hN : SortOk N) : ∀ f, SortedOk N f := by
  intro f
  induction f with
  | zero => exact sorted_deep N
  | succ f ih => exact sorted_succ N f ih hN
end Go.Proofs.YtbfmpbhikipipaaGreatDoor
