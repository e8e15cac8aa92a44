/-
  Sorting keeps a value's size.
-/
import Derived.Test.YtbfmpbhikipipaaGreatDoorKSpecHeavy
namespace Go.Proofs.YtbfmpbhikipipaaGreatDoor
set_option linter.unusedVariables false
set_option linter.unusedSimpArgs false
set_option linter.unusedSectionVars false

theorem insR_mem {α : Type} (key : α → Bs) (x : α) : ∀ (l : List α) (y : α), y ∈ insR key x l ↔ y = x ∨ y ∈ l := by
  intro l
  induction l with
  | nil => intro y; simp [insR]
  | cons z l ih =>
    intro y
    unfold insR
    split
    · rw [List.mem_cons, ih, List.mem_cons]
      constructor
      · rintro (h | h | h) <;> simp [h]
      · rintro (h | h | h) <;> simp [h]
    · simp
theorem isortR_mem {α : Type} (key : α → Bs) : ∀ (l acc : List α) (y : α), y ∈ isortR key acc l ↔ y ∈ acc ∨ y ∈ l := by
  intro l
  induction l with
  | nil => intro acc y; simp [isortR]
  | cons x l ih =>
    intro acc y
    rw [isortR, ih, insR_mem, List.mem_cons]
    constructor
    · rintro ((h | h) | h) <;> simp [h]
    · rintro (h | h | h) <;> simp [h]
theorem isort_mem {α : Type} (key : α → Bs) (l : List α) (y : α) : y ∈ isort key l ↔ y ∈ l := by
  unfold isort
  rw [List.mem_reverse, isortR_mem]
  simp
theorem fitsl_iff {N : Nat} : ∀ (l : List J), fitsl N l = true ↔ ∀ j ∈ l, fits N j = true := by
  intro l
  induction l with
  | nil => simp [fitsl]
  | cons x l ih => simp [fitsl, ih]
theorem fitsp_iff {N : Nat} : ∀ (l : List (Bs × J)), fitsp N l = true ↔ ∀ q ∈ l, q.1.length ≤ N ∧ fits N q.2 = true := by
  intro l
  induction l with
  | nil => simp [fitsp]
  | cons x l ih =>
    obtain ⟨a, b⟩ := x
    simp only [fitsp, Bool.and_eq_true, decide_eq_true_eq, ih, List.mem_cons, forall_eq_or_imp]
    constructor
    · rintro ⟨h1, h2, h3⟩; exact ⟨⟨h1, h2⟩, h3⟩
    · rintro ⟨⟨h1, h2⟩, h3⟩; exact ⟨h1, h2, h3⟩
theorem fits_sorts {N : Nat} : ∀ (f : Nat) (j : J), fits N j = true → fits N (pSorts f j) = true := by
  intro f
  induction f with
  | zero => intro j h; exact h
  | succ f ih =>
    intro j h
    obtain ⟨k, n, t, l, p⟩ := j
    obtain ⟨h1, h2, h3, h4, h5⟩ := fits.open h
    obtain ⟨i0, i1⟩ := fits.int h
    rw [fitsl_iff] at h4
    rw [fitsp_iff] at h5
    simp only [pSorts]
    unfold fits
    have e4 : fitsl N (l.map (pSorts f)) = true := by
      rw [fitsl_iff]
      intro j hj
      obtain ⟨x, hx, rfl⟩ := List.mem_map.1 hj
      exact ih x (h4 x hx)
    have e5 : fitsp N (isort (fun q : Bs × J => q.1) (p.map fun q => (q.1, pSorts f q.2))) = true := by
      rw [fitsp_iff]
      intro q hq
      rw [isort_mem] at hq
      obtain ⟨x, hx, rfl⟩ := List.mem_map.1 hq
      exact ⟨(h5 x hx).1, ih x.2 (h5 x hx).2⟩
    rw [e4, e5]
    simp [i0, i1, h1, h2, h3, isort_length]
theorem fewl_iff {N : Nat} : ∀ (l : List J), fewl N l = true ↔ ∀ j ∈ l, few N j = true := by
  intro l
  induction l with
  | nil => simp [fewl]
  | cons x l ih => simp [fewl, ih]
theorem fewp_iff {N : Nat} : ∀ (l : List (Bs × J)), fewp N l = true ↔ ∀ q ∈ l, few N q.2 = true := by
  intro l
  induction l with
  | nil => simp [fewp]
  | cons x l ih =>
    obtain ⟨a, b⟩ := x
    simp [fewp, ih]
mutual
/-- what fits has few pairs -/
theorem few_of_fits {N : Nat} : ∀ (j : J), fits N j = true → few N j = true
  | .mk k n t l p, h => by
    obtain ⟨_, _, h3, h4, h5⟩ := fits.open h
    unfold few
    rw [fewl_of_fits l h4, fewp_of_fits p h5]
    simpa using h3
theorem fewl_of_fits {N : Nat} : ∀ (l : List J), fitsl N l = true → fewl N l = true
  | [], _ => by unfold fewl; rfl
  | j :: js, h => by
    unfold fitsl at h
    rw [Bool.and_eq_true] at h
    unfold fewl
    rw [few_of_fits j h.1, fewl_of_fits js h.2]
    rfl
theorem fewp_of_fits {N : Nat} : ∀ (l : List (Bs × J)), fitsp N l = true → fewp N l = true
  | [], _ => by unfold fewp; rfl
  | (_, j) :: js, h => by
    unfold fitsp at h
    rw [Bool.and_eq_true, Bool.and_eq_true] at h
    unfold fewp
    rw [few_of_fits j h.2.1, fewp_of_fits js h.2.2]
    rfl
end
end Go.Proofs.YtbfmpbhikipipaaGreatDoor
