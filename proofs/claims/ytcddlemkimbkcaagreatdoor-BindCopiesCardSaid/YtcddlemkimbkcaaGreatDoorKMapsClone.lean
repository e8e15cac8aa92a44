/-
 The walks of what pairs are compared by.
-/
import Derived.Test.YtcddlemkimbkcaaGreatDoorKCellRows
import Derived.Deep.QuietTactic
import Derived.Test.YtcddlemkimbkcaaGreatDoorKStore
import Derived.Test.YtcddlemkimbkcaaGreatDoorKSpecSound
import Derived.Lib.ItoaNum
import Derived.Lib.Small
import Derived.Shelf.SlMaps.Clone
import Derived.Test.YtcddlemkimbkcaaGreatDoorKTable2
namespace Go.Proofs.YtcddlemkimbkcaaGreatDoor
set_option linter.unusedVariables false
set_option linter.unusedSimpArgs false
set_option linter.unusedSectionVars false
open Go.RowKit

def cmpB (a b : Bs) : Int := if Op.bytesLess a b then -1 else if a == b then 0 else 1
end Go.Proofs.YtcddlemkimbkcaaGreatDoor
namespace Go.Proofs.YtcddlemkimbkcaaGreatDoor
set_option linter.unusedVariables false
set_option linter.unusedSimpArgs false
set_option linter.unusedSectionVars false
open Go.RowKit

inductive All2 {α β : Type} (R : α → β → Prop) : List α → List β → Prop
 | nil : All2 R [] []
 | cons {a : α} {b : β} {l : List α} {m : List β} : R a b → All2 R l m → All2 R (a :: l) (b :: m)
section
variable {α β : Type} (key : α → Bs) (key' : β → Bs)
/-- x is set in among others, which lie in falling order, ahead of those that are no greater -/
def insR (x : α) : List α → List α
 | [] => [x]
 | y :: l => if Op.bytesLess (key x) (key y) then y :: insR x l else x :: y :: l
def isortR : List α → List α → List α
 | acc, [] => acc
 | acc, x :: l => isortR (insR key x acc) l
def isort (l : List α) : List α := (isortR key [] l).reverse
theorem insR_length (x : α) : ∀ l : List α, (insR key x l).length = l.length + 1 := by
 intro l
 induction l with
 | nil => rfl
 | cons y l ih => unfold insR; split <;> simp [ih]
theorem isortR_length : ∀ (l acc : List α), (isortR key acc l).length = acc.length + l.length := by
 intro l
 induction l with
 | nil => intro acc; rfl
 | cons x l ih => intro acc; rw [isortR, ih, insR_length]; simp; omega
theorem isort_length (l : List α) : (isort key l).length = l.length := by simp [isort, isortR_length]
variable {key key'}
/-- lists that are alike element by element are sorted alike -/
theorem insR_rel {R : α → β → Prop} (hR : ∀ a b, R a b → key a = key' b) {x : α} {y : β} (hx : R x y) : ∀ (l : List α) (m : List β), All2 R l m → All2 R (insR key x l) (insR key' y m) := by
 intro l m h
 induction h with
 | nil => exact .cons hx .nil
 | cons h1 h2 ih =>
   unfold insR
   rw [hR _ _ hx, hR _ _ h1]
   split
   ·exact .cons h1 ih
   ·exact .cons hx (.cons h1 h2)
theorem isortR_rel {R : α → β → Prop} (hR : ∀ a b, R a b → key a = key' b) {l : List α} {m : List β} (h : All2 R l m) : ∀ (acc : List α) (acc' : List β), All2 R acc acc' → All2 R (isortR key acc l) (isortR key' acc' m) := by
 induction h with
 | nil => intro acc acc' ha; exact ha
 | cons h1 h2 ih => intro acc acc' ha; exact ih _ _ (insR_rel hR h1 _ _ ha)
theorem forall2_reverse {R : α → β → Prop} {l : List α} {m : List β} (h : All2 R l m) : All2 R l.reverse m.reverse := by
 have go : ∀ {l : List α} {m : List β}, All2 R l m → ∀ {a : List α} {b : List β}, All2 R a b → All2 R (l.reverseAux a) (m.reverseAux b) := by
  intro l m h
  induction h with
  | nil => intro a b hab; exact hab
  | cons h1 h2 ih => intro a b hab; exact ih (.cons h1 hab)
 exact go h .nil
theorem isort_rel {R : α → β → Prop} (hR : ∀ a b, R a b → key a = key' b) {l : List α} {m : List β} (h : All2 R l m) : All2 R (isort key l) (isort key' m) :=
 forall2_reverse (isortR_rel hR h _ _ .nil)
end

/-- a pair as it lies in six cells -/
structure PV where
 nm : Bs
 k : Int
 n : Int
 t : Bs
 a1 : Option Addr
 n1 : Nat
 c1 : Nat
 a2 : Option Addr
 n2 : Nat
 c2 : Nat
def PV.val (p : PV) : Value := .agg #[.int .i64 p.k, .int .i64 p.n, .string ⟨p.t.toArray⟩, .slice p.a1 p.n1 p.c1, .slice p.a2 p.n2 p.c2]
def PV.cells (p : PV) : List Value := [.string ⟨p.nm.toArray⟩, .int .i64 p.k, .int .i64 p.n, .string ⟨p.t.toArray⟩, .slice p.a1 p.n1 p.c1, .slice p.a2 p.n2 p.c2]
def cellsP : List PV → List Value
 | [] => []
 | p :: l => p.cells ++ cellsP l
theorem cellsP_append : ∀ (l m : List PV), cellsP (l ++ m) = cellsP l ++ cellsP m := by
 intro l
 induction l with
 | nil => intro m; rfl
 | cons p l ih => intro m; simp [cellsP, ih]
theorem cellsP_length : ∀ (l : List PV), (cellsP l).length = 6 * l.length := by
 intro l
 induction l with
 | nil => rfl
 | cons p l ih => simp [cellsP, PV.cells, ih]; omega

/-- block b holds these pairs from cell o on -/
def PRow (b o : Nat) (l : List PV) (w : World) : Prop := ∃ pre post, w.heap[b]? = some (.cells (pre ++ (cellsP l ++ post)).toArray 306 (0, 0)) ∧ pre.length = o
theorem PRow.lt {b o : Nat} {l : List PV} {w : World} (h : PRow b o l w) : b < w.heap.size := by
 obtain ⟨_, _, h, _⟩ := h; exact get_lt h
theorem PRow.ty {b o : Nat} {l : List PV} {w : World} (h : PRow b o l w) : ∃ x, w.heap[b]? = some x ∧ OfTy 306 x := by
 obtain ⟨_, _, h, _⟩ := h; exact ⟨_, h, _, _, rfl⟩
theorem PRow.fr {M : Nat → Obj → Prop} {b o : Nat} {l : List PV} {w w' : World} (h : PRow b o l w) (hF : Fr M w w') (hM : ∀ x, OfTy 306 x → ¬ M b x) : PRow b o l w' := by
 obtain ⟨pre, post, h, ho⟩ := h
 exact ⟨pre, post, hF.block _ _ h (hM _ ⟨_, _, rfl⟩), ho⟩
theorem PRow.alloc {b o : Nat} {l : List PV} {w : World} (h : PRow b o l w) (x : Obj) : PRow b o l (w.alloc x) :=
 h.fr ((Fr.refl (M := NoB)).alloc x) (fun _ _ h => h)
theorem PRow.at {b o : Nat} {l : List PV} {w : World} (h : PRow b o l w) {i : Nat} {p : PV} (hi : l[i]? = some p) :
 w.cell? ⟨b, o + i * 6, none⟩ = some (.string ⟨p.nm.toArray⟩) ∧ w.cell? ⟨b, o + i * 6 + 1, none⟩ = some (.int .i64 p.k) ∧ w.cell? ⟨b, o + i * 6 + 2, none⟩ = some (.int .i64 p.n) ∧
  w.cell? ⟨b, o + i * 6 + 3, none⟩ = some (.string ⟨p.t.toArray⟩) ∧ w.cell? ⟨b, o + i * 6 + 4, none⟩ = some (.slice p.a1 p.n1 p.c1) ∧ w.cell? ⟨b, o + i * 6 + 5, none⟩ = some (.slice p.a2 p.n2 p.c2) := by
 obtain ⟨pre, post, h, ho⟩ := h
 obtain ⟨l1, l2, rfl, hl1⟩ : ∃ l1 l2, l = l1 ++ p :: l2 ∧ l1.length = i := by
  obtain ⟨hlt, he⟩ := List.getElem?_eq_some_iff.1 hi
  refine ⟨l.take i, l.drop (i + 1), ?_, by simp; omega⟩
  rw [← he, ← List.drop_eq_getElem_cons hlt, List.take_append_drop]
 have hlen : (pre ++ cellsP l1).length = o + i * 6 := by rw [List.length_append, cellsP_length, ho, hl1]; omega
 have hcs : pre ++ (cellsP (l1 ++ p :: l2) ++ post) = (pre ++ cellsP l1) ++ (p.cells ++ (cellsP l2 ++ post)) := by rw [cellsP_append]; simp [cellsP]
 rw [hcs] at h
 have key : ∀ j v, (p.cells)[j]? = some v → w.cell? ⟨b, o + i * 6 + j, none⟩ = some v := by
  intro j v hj
  have hjl : j < p.cells.length := (List.getElem?_eq_some_iff.1 hj).1
  have : ((pre ++ cellsP l1) ++ (p.cells ++ (cellsP l2 ++ post)))[o + i * 6 + j]? = some v := by
   rw [List.getElem?_append_right (by omega), hlen]
   rw [show o + i * 6 + j - (o + i * 6) = j by omega, List.getElem?_append_left hjl]
   exact hj
  simp only [World.cell?, h]
  simpa using this
 exact ⟨key 0 _ rfl, key 1 _ rfl, key 2 _ rfl, key 3 _ rfl, key 4 _ rfl, key 5 _ rfl⟩
theorem PRow.open {b o : Nat} {l : List PV} {w : World} (h : PRow b o l w) : ∀ k, w.frozen? ⟨b, k, none⟩ = false := by
 obtain ⟨pre, post, h, _⟩ := h
 intro k; simp [World.frozen?, h]
/-- one pair written over -/
theorem PRow.put {b o : Nat} {l1 l2 : List PV} {q : PV} {w : World} (h : PRow b o (l1 ++ q :: l2) w) (p : PV) :
 PRow b o (l1 ++ p :: l2) (put6 b (o + l1.length * 6) (.string ⟨p.nm.toArray⟩) (.int .i64 p.k) (.int .i64 p.n) (.string ⟨p.t.toArray⟩) (.slice p.a1 p.n1 p.c1) (.slice p.a2 p.n2 p.c2) w) := by
 obtain ⟨pre, post, h, ho⟩ := h
 have hlen : (pre ++ cellsP l1).length = o + l1.length * 6 := by rw [List.length_append, cellsP_length, ho]; omega
 have hcs : ∀ p : PV, pre ++ (cellsP (l1 ++ p :: l2) ++ post) = (pre ++ cellsP l1) ++ (p.cells ++ (cellsP l2 ++ post)) := fun p => by rw [cellsP_append]; simp [cellsP]
 refine ⟨pre, post, ?_, ho⟩
 rw [hcs] at h ⊢
 generalize cellsP l2 ++ post = rest at *
 generalize pre ++ cellsP l1 = xs at *
 generalize hm : o + l1.length * 6 = m at *
 obtain ⟨cur, hcur⟩ : ∃ cur, (xs ++ (q.cells ++ rest)).toArray = cur := ⟨_, rfl⟩
 rw [hcur] at h
 have h0 := heap_setCell_eq (o := m) (.string ⟨p.nm.toArray⟩) h
 have h1 := heap_setCell_eq (o := m + 1) (.int .i64 p.k) h0
 have h2 := heap_setCell_eq (o := m + 2) (.int .i64 p.n) h1
 have h3 := heap_setCell_eq (o := m + 3) (.string ⟨p.t.toArray⟩) h2
 have h4 := heap_setCell_eq (o := m + 4) (.slice p.a1 p.n1 p.c1) h3
 have h5 := heap_setCell_eq (o := m + 5) (.slice p.a2 p.n2 p.c2) h4
 clear h h0 h1 h2 h3 h4
 unfold put6 put5
 refine h5.trans (congrArg some (congrArg (fun x => Obj.cells x 306 (0, 0)) ?_))
 clear h5
 subst hcur
 apply Array.toList_inj.1
 simp only [Array.toList_setIfInBounds, PV.cells]
 have s0 := set_at xs ([.string ⟨q.nm.toArray⟩, .int .i64 q.k, .int .i64 q.n, .string ⟨q.t.toArray⟩, .slice q.a1 q.n1 q.c1, .slice q.a2 q.n2 q.c2] ++ rest) m 0 (.string ⟨p.nm.toArray⟩) hlen
 have s1 := set_at xs ([.string ⟨p.nm.toArray⟩, .int .i64 q.k, .int .i64 q.n, .string ⟨q.t.toArray⟩, .slice q.a1 q.n1 q.c1, .slice q.a2 q.n2 q.c2] ++ rest) m 1 (.int .i64 p.k) hlen
 have s2 := set_at xs ([.string ⟨p.nm.toArray⟩, .int .i64 p.k, .int .i64 q.n, .string ⟨q.t.toArray⟩, .slice q.a1 q.n1 q.c1, .slice q.a2 q.n2 q.c2] ++ rest) m 2 (.int .i64 p.n) hlen
 have s3 := set_at xs ([.string ⟨p.nm.toArray⟩, .int .i64 p.k, .int .i64 p.n, .string ⟨q.t.toArray⟩, .slice q.a1 q.n1 q.c1, .slice q.a2 q.n2 q.c2] ++ rest) m 3 (.string ⟨p.t.toArray⟩) hlen
 have s4 := set_at xs ([.string ⟨p.nm.toArray⟩, .int .i64 p.k, .int .i64 p.n, .string ⟨p.t.toArray⟩, .slice q.a1 q.n1 q.c1, .slice q.a2 q.n2 q.c2] ++ rest) m 4 (.slice p.a1 p.n1 p.c1) hlen
 have s5 := set_at xs ([.string ⟨p.nm.toArray⟩, .int .i64 p.k, .int .i64 p.n, .string ⟨p.t.toArray⟩, .slice p.a1 p.n1 p.c1, .slice q.a2 q.n2 q.c2] ++ rest) m 5 (.slice p.a2 p.n2 p.c2) hlen
 simp only [Nat.add_zero, List.cons_append, List.set_cons_zero, List.set_cons_succ, List.nil_append] at s0 s1 s2 s3 s4 s5 ⊢
 rw [s0, s1, s2, s3, s4, s5]
end Go.Proofs.YtcddlemkimbkcaaGreatDoor
namespace Go.Proofs.YtcddlemkimbkcaaGreatDoor
set_option linter.unusedVariables false
set_option linter.unusedSimpArgs false
set_option linter.unusedSectionVars false

def fig (n : Nat) : UInt8 := UInt8.ofNat (if n < 10 then 48 + n else 87 + n)
/-- what stands for a byte; nothing: itself -/
def pEsc (c : UInt8) : Bs :=
 if c = 34 then [92, 34] else if c = 92 then [92, 92] else if c = 8 then [92, 98] else if c = 9 then [92, 116] else if c = 10 then [92, 110]
 else if c = 12 then [92, 102] else if c = 13 then [92, 114] else if c.toNat < 32 then [92, 117, 48, 48, fig (c.toNat / 16), fig (c.toNat % 16)] else []
def pEscs : Bs → Bs
 | [] => []
 | c :: l => (if pEsc c = [] then [c] else pEsc c) ++ pEscs l
def pQuote (s : Bs) : Bs := 34 :: pEscs s ++ [34]
end Go.Proofs.YtcddlemkimbkcaaGreatDoor
namespace Go.Proofs.YtcddlemkimbkcaaGreatDoor
set_option linter.unusedVariables false
set_option linter.unusedSimpArgs false
set_option linter.unusedSectionVars false

mutual
def pWrite : J → Bs
 | .mk k n t l p =>
   if k = 0 then [110, 117, 108, 108]
   else if k = 1 then Lib.formatBool (n == 1)
   else if k = 2 then Lib.itoa n
   else if k = 3 then pQuote t
   else if k = 4 then (if l.isEmpty then [91] else pWrites 91 l) ++ [93]
   else if k = 5 then (if p.isEmpty then [123] else pWritep 123 p) ++ [125]
   else []
def pWrites : UInt8 → List J → Bs
 | _, [] => []
 | c, j :: js => c :: pWrite j ++ pWrites 44 js
def pWritep : UInt8 → List (Bs × J) → Bs
 | _, [] => []
 | c, (nm, j) :: ps => c :: pQuote nm ++ [58] ++ pWrite j ++ pWritep 44 ps
end
/-- a pair is set in among sorted ones, behind those of its name -/
def pIns (x : Bs × J) : List (Bs × J) → List (Bs × J)
 | [] => [x]
 | y :: l => if x.1 < y.1 then x :: y :: l else y :: pIns x l
end Go.Proofs.YtcddlemkimbkcaaGreatDoor
namespace Go.Proofs.YtcddlemkimbkcaaGreatDoor
set_option linter.unusedVariables false
set_option linter.unusedSimpArgs false
set_option linter.unusedSectionVars false

/-- a value with its pairs by their names, f levels deep -/
def pSorts : Nat → J → J
 | 0, j => j
 | f + 1, .mk k n t l p => .mk k n t (l.map (pSorts f)) (isort (fun q : Bs × J => q.1) (p.map fun q => (q.1, pSorts f q.2)))
mutual
/-- no object in it has more than N pairs -/
def few : Nat → J → Bool
 | N, .mk _ _ _ l p => decide (p.length ≤ N) && (fewl N l && fewp N p)
def fewl : Nat → List J → Bool
 | _, [] => true
 | N, j :: js => few N j && fewl N js
def fewp : Nat → List (Bs × J) → Bool
 | _, [] => true
 | N, (_, j) :: ps => few N j && fewp N ps
end
theorem few.open {N : Nat} {k n : Int} {t : Bs} {l : List J} {p : List (Bs × J)} (h : few N (.mk k n t l p) = true) : p.length ≤ N ∧ fewl N l = true ∧ fewp N p = true := by
 unfold few at h
 simpa using h
theorem fewl.at {N : Nat} : ∀ (l : List J), fewl N l = true → ∀ (i : Nat) (j : J), l[i]? = some j → few N j = true := by
 intro l
 induction l with
 | nil => intro _ i j h; simp at h
 | cons x l ih =>
   intro h i j hi
   unfold fewl at h
   simp at h
   cases i with
   | zero => simp at hi; subst hi; exact h.1
   | succ i => exact ih h.2 i j (by simpa using hi)
theorem fewp.at {N : Nat} : ∀ (l : List (Bs × J)), fewp N l = true → ∀ (i : Nat) (nm : Bs) (j : J), l[i]? = some (nm, j) → few N j = true := by
 intro l
 induction l with
 | nil => intro _ i nm j h; simp at h
 | cons x l ih =>
   obtain ⟨xn, xj⟩ := x
   intro h i nm j hi
   unfold fewp at h
   simp at h
   cases i with
   | zero => simp at hi; obtain ⟨rfl, rfl⟩ := hi; exact h.1
   | succ i => exact ih h.2 i nm j (by simpa using hi)
/-- the canonical text of a value -/
def pText (j : J) : Bs := pWrite (pSorts 8 j)
/-- it, and an error's number -/
def pPut (j : J) : Bs × Nat := if pSound 0 j then (if 4096 < (pText j).length then ([], 10) else (pText j, 0)) else ([], 1)
end Go.Proofs.YtcddlemkimbkcaaGreatDoor
namespace Go.Proofs.YtcddlemkimbkcaaGreatDoor
set_option linter.unusedVariables false
set_option linter.unusedSimpArgs false
set_option linter.unusedSectionVars false

mutual
/-- how many values there are in one, as far as the last number -/
def pMany : J → Int → Int
 | .mk _ _ _ l p, last => pManyp (pManyl 1 l last) p last
def pManyl : Int → List J → Int → Int
 | n, [], _ => n
 | n, j :: js, last => if n ≤ last then pManyl (n + pMany j (last - n)) js last else n
def pManyp : Int → List (Bs × J) → Int → Int
 | n, [], _ => n
 | n, (_, j) :: ps, last => if n ≤ last then pManyp (n + pMany j (last - n)) ps last else n
end
mutual
def pLong : J → Bool
 | .mk _ _ t l p => decide (5000 < t.length) || (pLongl l || pLongp p)
def pLongl : List J → Bool
 | [] => false
 | j :: js => pLong j || pLongl js
def pLongp : List (Bs × J) → Bool
 | [] => false
 | (nm, j) :: ps => (decide (5000 < nm.length) || pLong j) || pLongp ps
end
def pHeavy (j : J) : Bool := decide (pMany j 200 > 200) || pLong j
mutual
theorem many_bounds : ∀ (j : J) (last : Int), 1 ≤ pMany j last ∧ (pMany j last ≤ 1 ∨ pMany j last ≤ last + 1)
 | .mk _ _ _ l p, last => by
   unfold pMany
   have h1 := manyl_bounds l 1 last
   have h2 := manyp_bounds p (pManyl 1 l last) last
   omega
theorem manyl_bounds : ∀ (l : List J) (n last : Int), n ≤ pManyl n l last ∧ (pManyl n l last ≤ n ∨ pManyl n l last ≤ last + 1)
 | [], n, last => by unfold pManyl; omega
 | j :: js, n, last => by
   unfold pManyl
   split
   ·have h1 := many_bounds j (last - n)
    have h2 := manyl_bounds js (n + pMany j (last - n)) last
    omega
   ·omega
theorem manyp_bounds : ∀ (l : List (Bs × J)) (n last : Int), n ≤ pManyp n l last ∧ (pManyp n l last ≤ n ∨ pManyp n l last ≤ last + 1)
 | [], n, last => by unfold pManyp; omega
 | (_, j) :: js, n, last => by
   unfold pManyp
   split
   ·have h1 := many_bounds j (last - n)
    have h2 := manyp_bounds js (n + pMany j (last - n)) last
    omega
   ·omega
end
mutual
/-- whole numbers are of 64 bits -/
def ints : J → Bool
 | .mk _ n _ l p => (decide (-9223372036854775808 ≤ n) && decide (n ≤ 9223372036854775807)) && (intsl l && intsp p)
def intsl : List J → Bool
 | [] => true
 | j :: js => ints j && intsl js
def intsp : List (Bs × J) → Bool
 | [] => true
 | (_, j) :: ps => ints j && intsp ps
end
mutual
/-- what is not heavy fits -/
theorem fits_light : ∀ (j : J) (last : Int), last ≤ 1000 → ints j = true → pLong j = false → pMany j last ≤ last → fits 67108864 j = true
 | .mk k n t l p, last, h0, hi, hl, hm => by
   unfold pMany at hm
   unfold pLong at hl
   unfold ints at hi
   simp only [Bool.or_eq_false_iff, decide_eq_false_iff_not, Bool.and_eq_true, decide_eq_true_eq] at hl hi
   have b1 := manyl_bounds l 1 last
   have b2 := manyp_bounds p (pManyl 1 l last) last
   have b3 : pManyl 1 l last ≤ last := by omega
   obtain ⟨f1, n1⟩ := fitsl_light l 1 last h0 (by omega) hi.2.1 hl.2.1 b3
   obtain ⟨f2, n2⟩ := fitsp_light p (pManyl 1 l last) last h0 (by omega) hi.2.2 hl.2.2 hm
   unfold fits
   rw [f1, f2]
   simp only [Bool.and_eq_true, decide_eq_true_eq, and_true]
   omega
theorem fitsl_light : ∀ (l : List J) (n last : Int), last ≤ 1000 → 1 ≤ n → intsl l = true → pLongl l = false → pManyl n l last ≤ last → fitsl 67108864 l = true ∧ n + l.length ≤ last
 | [], n, last, h0, h1, hi, hl, hm => by
   unfold pManyl at hm
   exact ⟨by unfold fitsl; rfl, by simpa using hm⟩
 | j :: js, n, last, h0, h1, hi, hl, hm => by
   unfold pManyl at hm
   unfold pLongl at hl
   unfold intsl at hi
   simp only [Bool.or_eq_false_iff, Bool.and_eq_true] at hl hi
   split at hm
   ·rename_i hn
    have b0 := many_bounds j (last - n)
    have b1 := manyl_bounds js (n + pMany j (last - n)) last
    obtain ⟨f1, n1⟩ := fitsl_light js (n + pMany j (last - n)) last h0 (by omega) hi.2 hl.2 hm
    have f2 : fits 67108864 j = true := fits_light j (last - n) (by omega) hi.1 hl.1 (by omega)
    unfold fitsl
    rw [f1, f2]
    refine ⟨rfl, ?_⟩
    simp only [List.length_cons]
    omega
   ·omega
theorem fitsp_light : ∀ (l : List (Bs × J)) (n last : Int), last ≤ 1000 → 1 ≤ n → intsp l = true → pLongp l = false → pManyp n l last ≤ last → fitsp 67108864 l = true ∧ n + l.length ≤ last
 | [], n, last, h0, h1, hi, hl, hm => by
   unfold pManyp at hm
   exact ⟨by unfold fitsp; rfl, by simpa using hm⟩
 | (nm, j) :: js, n, last, h0, h1, hi, hl, hm => by
   unfold pManyp at hm
   unfold pLongp at hl
   unfold intsp at hi
   simp only [Bool.or_eq_false_iff, Bool.and_eq_true, decide_eq_false_iff_not] at hl hi
   split at hm
   ·rename_i hn
    have b0 := many_bounds j (last - n)
    have b1 := manyp_bounds js (n + pMany j (last - n)) last
    obtain ⟨f1, n1⟩ := fitsp_light js (n + pMany j (last - n)) last h0 (by omega) hi.2 hl.2 hm
    have f2 : fits 67108864 j = true := fits_light j (last - n) (by omega) hi.1 hl.1.2 (by omega)
    unfold fitsp
    rw [f1, f2]
    refine ⟨?_, ?_⟩
    ·simp only [Bool.and_true, decide_eq_true_eq]
     omega
    ·simp only [List.length_cons]
     omega
   ·omega
end
end Go.Proofs.YtcddlemkimbkcaaGreatDoor
namespace Go.Proofs.YtcddlemkimbkcaaGreatDoor
set_option linter.unusedVariables false
set_option linter.unusedSimpArgs false
set_option linter.unusedSectionVars false
open Go.RowKit Go.Shelf
variable [OldK]
theorem MapB.copied {k : TypeId} {K : KeyB Tryz.prog k} {w : World} {b n : Nat} {M : Bs → Option Value} (h : MapB K w b n M) :
 ∃ es clock, w.heap[b]? = some (.map es clock) ∧ MapB K (w.alloc (.map es clock)) w.heap.size n M := by
 obtain ⟨D, ⟨es, clock, h0, h1⟩, h2⟩ := h
 exact ⟨es, clock, h0, D, ⟨es, clock, heap_alloc_new _ _, h1⟩, h2⟩
set_option maxRecDepth 100000 in
set_option maxHeartbeats 2000000 in
theorem mapsClone_c (b : Nat) (es : Array MapEntry) (clock : Nat) (w : World) (hb : w.heap[b]? = some (.map es clock)) :
 Calls Tryz.prog 78 #[.map (some b)] w fun e w' => e = .returned (.map (some w.heap.size)) ∧ w' = w.alloc (.map es clock) := by
 have hq := fun w => run_eql_map_nil_sl (P := Tryz.prog) w 113 _ _ (some b) Tryz.underlying113
 go_enter Tryz.func78, Tryz.ntmps78
 go_wp2_with fail
 rw [run_callFunc_extern Tryz.func124 (by kernel_rfl) (by kernel_rfl) (by kernel_rfl) (e := Extern.MapsClone.clone) (by kernel_rfl), run_maps_clone_sl w 113 hb]
 simp only [Result.andThen]
 rw [Oper.upon_value]
 go_wp2_with fail
 rw [run_typeAssert_map_sl _ 113 _ _ _ _ Tryz.underlying113]
 simp only [Result.andThen]
 rw [Oper.upon_value]
 go_wp2_with fail
 go_ret
 exact ⟨rfl, rfl⟩
end Go.Proofs.YtcddlemkimbkcaaGreatDoor
