/-
  Values with their pairs sorted; canonical texts; as plain data.
-/
import Derived.Test.YtbfmpbhikipipaaDoorSpecWrite
import Derived.Test.YtbfmpbhikipipaaDoorPairs
namespace Go.Proofs.YtbfmpbhikipipaaDoor
set_option linter.unusedVariables false
set_option linter.unusedSimpArgs false
set_option linter.unusedSectionVars false

/-- a value with its pairs by their names, f levels deep -/
def pSorts : Nat → J → J
  | 0, j => j
  | f + 1, .mk k n t l p => .mk k n t (l.map (pSorts f)) (isort (fun q : Bs × J => q.1) (p.map fun q => (q.1, pSorts f q.2)))
mutual
/-- no object in it has more than N pairs -/
def few : Nat → J → Bool
  | N, .mk _ _ _ l p => decide (p.length ≤ N) && (fewl N l && fewp N p)
def fewl : Nat → List J → Bool
  | _, [] => true
  | N, j :: js => few N j && fewl N js
def fewp : Nat → List (Bs × J) → Bool
  | _, [] => true
  | N, (_, j) :: ps => few N j && fewp N ps
end
theorem few.open {N : Nat} {k n : Int} {t : Bs} {l : List J} {p : List (Bs × J)} (h : few N (.mk k n t l p) = true) : p.length ≤ N ∧ fewl N l = true ∧ fewp N p = true := by
  unfold few at h
  simpa using h
theorem fewl.at {N : Nat} : ∀ (l : List J), fewl N l = true → ∀ (i : Nat) (j : J), l[i]? = some j → few N j = true := by
  intro l
  induction l with
  | nil => intro _ i j h; simp at h
  | cons x l ih =>
    intro h i j hi
    unfold fewl at h
    simp at h
    cases i with
    | zero => simp at hi; subst hi; exact h.1
    | succ i => exact ih h.2 i j (by simpa using hi)
theorem fewp.at {N : Nat} : ∀ (l : List (Bs × J)), fewp N l = true → ∀ (i : Nat) (nm : Bs) (j : J), l[i]? = some (nm, j) → few N j = true := by
  intro l
  induction l with
  | nil => intro _ i nm j h; simp at h
  | cons x l ih =>
    obtain ⟨xn, xj⟩ := x
    intro h i nm j hi
    unfold fewp at h
    simp at h
    cases i with
    | zero => simp at hi; obtain ⟨rfl, rfl⟩ := hi; exact h.1
    | succ i => exact ih h.2 i nm j (by simpa using hi)
/-- the canonical text of a value -/
def pText (j : J) : Bs := pWrite (pSorts 8 j)
/-- it, and an error's number -/
def pPut (j : J) : Bs × Nat := if pSound 0 j then (if 4096 < (pText j).length then ([], 10) else (pText j, 0)) else ([], 1)
end Go.Proofs.YtbfmpbhikipipaaDoor
