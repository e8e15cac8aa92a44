/-
  Which values are what some text is, as plain data.
-/
import Derived.Test.YtbfmpbhikipipaaDoorSpecJ
import Derived.Lib.ValidU

namespace Go.Proofs.YtbfmpbhikipipaaDoor
set_option linter.unusedVariables false
set_option linter.unusedSimpArgs false
set_option linter.unusedSectionVars false

mutual
/-- 'sound', at a depth -/
def pSound : Int → J → Bool
  | d, .mk k n t l p =>
    if k = 0 then (n == 0) && ((t == []) && (l.isEmpty && p.isEmpty))
    else if k = 1 then ((n == 0) || (n == 1)) && ((t == []) && (l.isEmpty && p.isEmpty))
    else if k = 2 then decide (-9007199254740991 ≤ n) && (decide (n ≤ 9007199254740991) && ((t == []) && (l.isEmpty && p.isEmpty)))
    else if k = 3 then (n == 0) && (Lib.validD t && (l.isEmpty && p.isEmpty))
    else if n ≠ 0 ∨ t ≠ [] ∨ 8 ≤ d then false
    else if k = 4 then pSounds (d + 1) l && p.isEmpty
    else if k = 5 then pSoundp (d + 1) [] p && l.isEmpty
    else false
def pSounds : Int → List J → Bool
  | _, [] => true
  | d, j :: js => pSound d j && pSounds d js
def pSoundp : Int → List Bs → List (Bs × J) → Bool
  | _, _, [] => true
  | d, names, (nm, j) :: ps => !names.contains nm && (Lib.validD nm && (pSound d j && pSoundp d (names ++ [nm]) ps))
end

mutual
/-- no text and no row in it is longer than N -/
def fits : Nat → J → Bool
  | N, .mk _ n t l p => (decide (-9223372036854775808 ≤ n) && decide (n ≤ 9223372036854775807)) && (decide (t.length ≤ N) && (decide (l.length ≤ N) && (decide (p.length ≤ N) && (fitsl N l && fitsp N p))))
def fitsl : Nat → List J → Bool
  | _, [] => true
  | N, j :: js => fits N j && fitsl N js
def fitsp : Nat → List (Bs × J) → Bool
  | _, [] => true
  | N, (nm, j) :: ps => decide (nm.length ≤ N) && (fits N j && fitsp N ps)
end
theorem fits.open {N : Nat} {k n : Int} {t : Bs} {l : List J} {p : List (Bs × J)} (h : fits N (.mk k n t l p) = true) : t.length ≤ N ∧ l.length ≤ N ∧ p.length ≤ N ∧ fitsl N l = true ∧ fitsp N p = true := by
  unfold fits at h
  rw [Bool.and_eq_true] at h
  simpa using h.2
theorem fits.int {N : Nat} {k n : Int} {t : Bs} {l : List J} {p : List (Bs × J)} (h : fits N (.mk k n t l p) = true) : -9223372036854775808 ≤ n ∧ n ≤ 9223372036854775807 := by
  unfold fits at h
  rw [Bool.and_eq_true] at h
  simpa using h.1
theorem fitsl.at {N : Nat} : ∀ (l : List J), fitsl N l = true → ∀ (i : Nat) (j : J), l[i]? = some j → fits N j = true := by
  intro l
  induction l with
  | nil => intro _ i j h; simp at h
  | cons x l ih =>
    intro h i j hi
    unfold fitsl at h
    simp at h
    cases i with
    | zero => simp at hi; subst hi; exact h.1
    | succ i => exact ih h.2 i j (by simpa using hi)
theorem fitsp.at {N : Nat} : ∀ (l : List (Bs × J)), fitsp N l = true → ∀ (i : Nat) (nm : Bs) (j : J), l[i]? = some (nm, j) → nm.length ≤ N ∧ fits N j = true := by
  intro l
  induction l with
  | nil => intro _ i nm j h; simp at h
  | cons x l ih =>
    obtain ⟨xn, xj⟩ := x
    intro h i nm j hi
    unfold fitsp at h
    simp at h
    cases i with
    | zero => simp at hi; obtain ⟨rfl, rfl⟩ := hi; exact ⟨h.1, h.2.1⟩
    | succ i => exact ih h.2.2 i nm j (by simpa using hi)
end Go.Proofs.YtbfmpbhikipipaaDoor
