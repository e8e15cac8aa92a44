/-
  The walks of what pairs are compared by.
-/
import Derived.Test.YtcddlemkimbkcaaGreatDoorKCellRows
import Derived.Deep.QuietTactic
import Derived.Test.YtcddlemkimbkcaaGreatDoorKStore
namespace Go.Proofs.YtcddlemkimbkcaaGreatDoor
set_option linter.unusedVariables false
set_option linter.unusedSimpArgs false
set_option linter.unusedSectionVars false
open Go.RowKit

def cmpB (a b : Bs) : Int := if Op.bytesLess a b then -1 else if a == b then 0 else 1
end Go.Proofs.YtcddlemkimbkcaaGreatDoor
namespace Go.Proofs.YtcddlemkimbkcaaGreatDoor
set_option linter.unusedVariables false
set_option linter.unusedSimpArgs false
set_option linter.unusedSectionVars false
open Go.RowKit

inductive All2 {α β : Type} (R : α → β → Prop) : List α → List β → Prop
  | nil : All2 R [] []
  | cons {a : α} {b : β} {l : List α} {m : List β} : R a b → All2 R l m → All2 R (a :: l) (b :: m)
section
variable {α β : Type} (key : α → Bs) (key' : β → Bs)
/-- x is set in among others, which lie in falling order, ahead of those that are no greater -/
def insR (x : α) : List α → List α
  | [] => [x]
  | y :: l => if Op.bytesLess (key x) (key y) then y :: insR x l else x :: y :: l
def isortR : List α → List α → List α
  | acc, [] => acc
  | acc, x :: l => isortR (insR key x acc) l
def isort (l : List α) : List α := (isortR key [] l).reverse
theorem insR_length (x : α) : ∀ l : List α, (insR key x l).length = l.length + 1 := by
  intro l
  induction l with
  | nil => rfl
  | cons y l ih => unfold insR; split <;> simp [ih]
theorem isortR_length : ∀ (l acc : List α), (isortR key acc l).length = acc.length + l.length := by
  intro l
  induction l with
  | nil => intro acc; rfl
  | cons x l ih => intro acc; rw [isortR, ih, insR_length]; simp; omega
theorem isort_length (l : List α) : (isort key l).length = l.length := by simp [isort, isortR_length]
variable {key key'}
/-- lists that are alike element by element are sorted alike -/
theorem insR_rel {R : α → β → Prop} (hR : ∀ a b, R a b → key a = key' b) {x : α} {y : β} (hx : R x y) : ∀ (l : List α) (m : List β), All2 R l m → All2 R (insR key x l) (insR key' y m) := by
  intro l m h
  induction h with
  | nil => exact .cons hx .nil
  | cons h1 h2 ih =>
    unfold insR
    rw [hR _ _ hx, hR _ _ h1]
    split
    · exact .cons h1 ih
    · exact .cons hx (.cons h1 h2)
theorem isortR_rel {R : α → β → Prop} (hR : ∀ a b, R a b → key a = key' b) {l : List α} {m : List β} (h : All2 R l m) : ∀ (acc : List α) (acc' : List β), All2 R acc acc' → All2 R (isortR key acc l) (isortR key' acc' m) := by
  induction h with
  | nil => intro acc acc' ha; exact ha
  | cons h1 h2 ih => intro acc acc' ha; exact ih _ _ (insR_rel hR h1 _ _ ha)
theorem forall2_reverse {R : α → β → Prop} {l : List α} {m : List β} (h : All2 R l m) : All2 R l.reverse m.reverse := by
  have go : ∀ {l : List α} {m : List β}, All2 R l m → ∀ {a : List α} {b : List β}, All2 R a b → All2 R (l.reverseAux a) (m.reverseAux b) := by
    intro l m h
    induction h with
    | nil => intro a b hab; exact hab
    | cons h1 h2 ih => intro a b hab; exact ih (.cons h1 hab)
  exact go h .nil
theorem isort_rel {R : α → β → Prop} (hR : ∀ a b, R a b → key a = key' b) {l : List α} {m : List β} (h : All2 R l m) : All2 R (isort key l) (isort key' m) :=
  forall2_reverse (isortR_rel hR h _ _ .nil)
end

/-- a pair as it lies in six cells -/
structure PV where
  nm : Bs
  k : Int
  n : Int
  t : Bs
  a1 : Option Addr
  n1 : Nat
  c1 : Nat
  a2 : Option Addr
  n2 : Nat
  c2 : Nat
def PV.val (p : PV) : Value := .agg #[.int .i64 p.k, .int .i64 p.n, .string ⟨p.t.toArray⟩, .slice p.a1 p.n1 p.c1, .slice p.a2 p.n2 p.c2]
def PV.cells (p : PV) : List Value := [.string ⟨p.nm.toArray⟩, .int .i64 p.k, .int .i64 p.n, .string ⟨p.t.toArray⟩, .slice p.a1 p.n1 p.c1, .slice p.a2 p.n2 p.c2]
def cellsP : List PV → List Value
  | [] => []
  | p :: l => p.cells ++ cellsP l
theorem cellsP_append : ∀ (l m : List PV), cellsP (l ++ m) = cellsP l ++ cellsP m := by
  intro l
  induction l with
  | nil => intro m; rfl
  | cons p l ih => intro m; simp [cellsP, ih]
theorem cellsP_length : ∀ (l : List PV), (cellsP l).length = 6 * l.length := by
  intro l
  induction l with
  | nil => rfl
  | cons p l ih => simp [cellsP, PV.cells, ih]; omega

/-- block b holds these pairs from cell o on -/
def PRow (b o : Nat) (l : List PV) (w : World) : Prop := ∃ pre post, w.heap[b]? = some (.cells (pre ++ (cellsP l ++ post)).toArray 306 (0, 0)) ∧ pre.length = o
theorem PRow.lt {b o : Nat} {l : List PV} {w : World} (h : PRow b o l w) : b < w.heap.size := by
  obtain ⟨_, _, h, _⟩ := h; exact get_lt h
theorem PRow.ty {b o : Nat} {l : List PV} {w : World} (h : PRow b o l w) : ∃ x, w.heap[b]? = some x ∧ OfTy 306 x := by
  obtain ⟨_, _, h, _⟩ := h; exact ⟨_, h, _, _, rfl⟩
theorem PRow.fr {M : Nat → Obj → Prop} {b o : Nat} {l : List PV} {w w' : World} (h : PRow b o l w) (hF : Fr M w w') (hM : ∀ x, OfTy 306 x → ¬ M b x) : PRow b o l w' := by
  obtain ⟨pre, post, h, ho⟩ := h
  exact ⟨pre, post, hF.block _ _ h (hM _ ⟨_, _, rfl⟩), ho⟩
theorem PRow.alloc {b o : Nat} {l : List PV} {w : World} (h : PRow b o l w) (x : Obj) : PRow b o l (w.alloc x) :=
  h.fr ((Fr.refl (M := NoB)).alloc x) (fun _ _ h => h)
theorem PRow.at {b o : Nat} {l : List PV} {w : World} (h : PRow b o l w) {i : Nat} {p : PV} (hi : l[i]? = some p) :
    w.cell? ⟨b, o + i * 6, none⟩ = some (.string ⟨p.nm.toArray⟩) ∧ w.cell? ⟨b, o + i * 6 + 1, none⟩ = some (.int .i64 p.k) ∧ w.cell? ⟨b, o + i * 6 + 2, none⟩ = some (.int .i64 p.n) ∧
      w.cell? ⟨b, o + i * 6 + 3, none⟩ = some (.string ⟨p.t.toArray⟩) ∧ w.cell? ⟨b, o + i * 6 + 4, none⟩ = some (.slice p.a1 p.n1 p.c1) ∧ w.cell? ⟨b, o + i * 6 + 5, none⟩ = some (.slice p.a2 p.n2 p.c2) := by
  obtain ⟨pre, post, h, ho⟩ := h
  obtain ⟨l1, l2, rfl, hl1⟩ : ∃ l1 l2, l = l1 ++ p :: l2 ∧ l1.length = i := by
    obtain ⟨hlt, he⟩ := List.getElem?_eq_some_iff.1 hi
    refine ⟨l.take i, l.drop (i + 1), ?_, by simp; omega⟩
    rw [← he, ← List.drop_eq_getElem_cons hlt, List.take_append_drop]
  have hlen : (pre ++ cellsP l1).length = o + i * 6 := by rw [List.length_append, cellsP_length, ho, hl1]; omega
  have hcs : pre ++ (cellsP (l1 ++ p :: l2) ++ post) = (pre ++ cellsP l1) ++ (p.cells ++ (cellsP l2 ++ post)) := by rw [cellsP_append]; simp [cellsP]
  rw [hcs] at h
  have key : ∀ j v, (p.cells)[j]? = some v → w.cell? ⟨b, o + i * 6 + j, none⟩ = some v := by
    intro j v hj
    have hjl : j < p.cells.length := (List.getElem?_eq_some_iff.1 hj).1
    have : ((pre ++ cellsP l1) ++ (p.cells ++ (cellsP l2 ++ post)))[o + i * 6 + j]? = some v := by
      rw [List.getElem?_append_right (by omega), hlen]
      rw [show o + i * 6 + j - (o + i * 6) = j by omega, List.getElem?_append_left hjl]
      exact hj
    simp only [World.cell?, h]
    simpa using this
  exact ⟨key 0 _ rfl, key 1 _ rfl, key 2 _ rfl, key 3 _ rfl, key 4 _ rfl, key 5 _ rfl⟩
theorem PRow.open {b o : Nat} {l : List PV} {w : World} (h : PRow b o l w) : ∀ k, w.frozen? ⟨b, k, none⟩ = false := by
  obtain ⟨pre, post, h, _⟩ := h
  intro k; simp [World.frozen?, h]
/-- one pair written over -/
theorem PRow.put {b o : Nat} {l1 l2 : List PV} {q : PV} {w : World} (h : PRow b o (l1 ++ q :: l2) w) (p : PV) :
    PRow b o (l1 ++ p :: l2) (put6 b (o + l1.length * 6) (.string ⟨p.nm.toArray⟩) (.int .i64 p.k) (.int .i64 p.n) (.string ⟨p.t.toArray⟩) (.slice p.a1 p.n1 p.c1) (.slice p.a2 p.n2 p.c2) w) := by
  obtain ⟨pre, post, h, ho⟩ := h
  have hlen : (pre ++ cellsP l1).length = o + l1.length * 6 := by rw [List.length_append, cellsP_length, ho]; omega
  have hcs : ∀ p : PV, pre ++ (cellsP (l1 ++ p :: l2) ++ post) = (pre ++ cellsP l1) ++ (p.cells ++ (cellsP l2 ++ post)) := fun p => by rw [cellsP_append]; simp [cellsP]
  refine ⟨pre, post, ?_, ho⟩
  rw [hcs] at h ⊢
  generalize cellsP l2 ++ post = rest at *
  generalize pre ++ cellsP l1 = xs at *
  generalize hm : o + l1.length * 6 = m at *
  obtain ⟨cur, hcur⟩ : ∃ cur, (xs ++ (q.cells ++ rest)).toArray = cur := ⟨_, rfl⟩
  rw [hcur] at h
  have h0 := heap_setCell_eq (o := m) (.string ⟨p.nm.toArray⟩) h
  have h1 := heap_setCell_eq (o := m + 1) (.int .i64 p.k) h0
  have h2 := heap_setCell_eq (o := m + 2) (.int .i64 p.n) h1
  have h3 := heap_setCell_eq (o := m + 3) (.string ⟨p.t.toArray⟩) h2
  have h4 := heap_setCell_eq (o := m + 4) (.slice p.a1 p.n1 p.c1) h3
  have h5 := heap_setCell_eq (o := m + 5) (.slice p.a2 p.n2 p.c2) h4
  clear h h0 h1 h2 h3 h4
  unfold put6 put5
  refine h5.trans (congrArg some (congrArg (fun x => Obj.cells x 306 (0, 0)) ?_))
  clear h5
  subst hcur
  apply Array.toList_inj.1
  simp only [Array.toList_setIfInBounds, PV.cells]
  have s0 := set_at xs ([.string ⟨q.nm.toArray⟩, .int .i64 q.k, .int .i64 q.n, .string ⟨q.t.toArray⟩, .slice q.a1 q.n1 q.c1, .slice q.a2 q.n2 q.c2] ++ rest) m 0 (.string ⟨p.nm.toArray⟩) hlen
  have s1 := set_at xs ([.string ⟨p.nm.toArray⟩, .int .i64 q.k, .int .i64 q.n, .string ⟨q.t.toArray⟩, .slice q.a1 q.n1 q.c1, .slice q.a2 q.n2 q.c2] ++ rest) m 1 (.int .i64 p.k) hlen
  have s2 := set_at xs ([.string ⟨p.nm.toArray⟩, .int .i64 p.k, .int .i64 q.n, .string ⟨q.t.toArray⟩, .slice q.a1 q.n1 q.c1, .slice q.a2 q.n2 q.c2] ++ rest) m 2 (.int .i64 p.n) hlen
  have s3 := set_at xs ([.string ⟨p.nm.toArray⟩, .int .i64 p.k, .int .i64 p.n, .string ⟨q.t.toArray⟩, .slice q.a1 q.n1 q.c1, .slice q.a2 q.n2 q.c2] ++ rest) m 3 (.string ⟨p.t.toArray⟩) hlen
  have s4 := set_at xs ([.string ⟨p.nm.toArray⟩, .int .i64 p.k, .int .i64 p.n, .string ⟨p.t.toArray⟩, .slice q.a1 q.n1 q.c1, .slice q.a2 q.n2 q.c2] ++ rest) m 4 (.slice p.a1 p.n1 p.c1) hlen
  have s5 := set_at xs ([.string ⟨p.nm.toArray⟩, .int .i64 p.k, .int .i64 p.n, .string ⟨p.t.toArray⟩, .slice p.a1 p.n1 p.c1, .slice q.a2 q.n2 q.c2] ++ rest) m 5 (.slice p.a2 p.n2 p.c2) hlen
  simp only [Nat.add_zero, List.cons_append, List.set_cons_zero, List.set_cons_succ, List.nil_append] at s0 s1 s2 s3 s4 s5 ⊢
  rw [s0, s1, s2, s3, s4, s5]
end Go.Proofs.YtcddlemkimbkcaaGreatDoor
