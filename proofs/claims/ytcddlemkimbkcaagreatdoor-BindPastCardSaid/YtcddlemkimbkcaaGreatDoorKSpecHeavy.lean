/-
  Canonical texts, as plain data.
-/
import Derived.Test.YtcddlemkimbkcaaGreatDoorKSpecSound
import Derived.Lib.ItoaNum
import Derived.Lib.Small
import Derived.Test.YtcddlemkimbkcaaGreatDoorKPairs
namespace Go.Proofs.YtcddlemkimbkcaaGreatDoor
set_option linter.unusedVariables false
set_option linter.unusedSimpArgs false
set_option linter.unusedSectionVars false

def fig (n : Nat) : UInt8 := UInt8.ofNat (if n < 10 then 48 + n else 87 + n)
/-- what stands for a byte; nothing: itself -/
def pEsc (c : UInt8) : Bs :=
  if c = 34 then [92, 34] else if c = 92 then [92, 92] else if c = 8 then [92, 98] else if c = 9 then [92, 116] else if c = 10 then [92, 110]
  else if c = 12 then [92, 102] else if c = 13 then [92, 114] else if c.toNat < 32 then [92, 117, 48, 48, fig (c.toNat / 16), fig (c.toNat % 16)] else []
def pEscs : Bs → Bs
  | [] => []
  | c :: l => (if pEsc c = [] then [c] else pEsc c) ++ pEscs l
def pQuote (s : Bs) : Bs := 34 :: pEscs s ++ [34]
end Go.Proofs.YtcddlemkimbkcaaGreatDoor
namespace Go.Proofs.YtcddlemkimbkcaaGreatDoor
set_option linter.unusedVariables false
set_option linter.unusedSimpArgs false
set_option linter.unusedSectionVars false

mutual
def pWrite : J → Bs
  | .mk k n t l p =>
    if k = 0 then [110, 117, 108, 108]
    else if k = 1 then Lib.formatBool (n == 1)
    else if k = 2 then Lib.itoa n
    else if k = 3 then pQuote t
    else if k = 4 then (if l.isEmpty then [91] else pWrites 91 l) ++ [93]
    else if k = 5 then (if p.isEmpty then [123] else pWritep 123 p) ++ [125]
    else []
def pWrites : UInt8 → List J → Bs
  | _, [] => []
  | c, j :: js => c :: pWrite j ++ pWrites 44 js
def pWritep : UInt8 → List (Bs × J) → Bs
  | _, [] => []
  | c, (nm, j) :: ps => c :: pQuote nm ++ [58] ++ pWrite j ++ pWritep 44 ps
end
/-- a pair is set in among sorted ones, behind those of its name -/
def pIns (x : Bs × J) : List (Bs × J) → List (Bs × J)
  | [] => [x]
  | y :: l => if x.1 < y.1 then x :: y :: l else y :: pIns x l
end Go.Proofs.YtcddlemkimbkcaaGreatDoor
namespace Go.Proofs.YtcddlemkimbkcaaGreatDoor
set_option linter.unusedVariables false
set_option linter.unusedSimpArgs false
set_option linter.unusedSectionVars false

/-- a value with its pairs by their names, f levels deep -/
def pSorts : Nat → J → J
  | 0, j => j
  | f + 1, .mk k n t l p => .mk k n t (l.map (pSorts f)) (isort (fun q : Bs × J => q.1) (p.map fun q => (q.1, pSorts f q.2)))
mutual
/-- no object in it has more than N pairs -/
def few : Nat → J → Bool
  | N, .mk _ _ _ l p => decide (p.length ≤ N) && (fewl N l && fewp N p)
def fewl : Nat → List J → Bool
  | _, [] => true
  | N, j :: js => few N j && fewl N js
def fewp : Nat → List (Bs × J) → Bool
  | _, [] => true
  | N, (_, j) :: ps => few N j && fewp N ps
end
theorem few.open {N : Nat} {k n : Int} {t : Bs} {l : List J} {p : List (Bs × J)} (h : few N (.mk k n t l p) = true) : p.length ≤ N ∧ fewl N l = true ∧ fewp N p = true := by
  unfold few at h
  simpa using h
theorem fewl.at {N : Nat} : ∀ (l : List J), fewl N l = true → ∀ (i : Nat) (j : J), l[i]? = some j → few N j = true := by
  intro l
  induction l with
  | nil => intro _ i j h; simp at h
  | cons x l ih =>
    intro h i j hi
    unfold fewl at h
    simp at h
    cases i with
    | zero => simp at hi; subst hi; exact h.1
    | succ i => exact ih h.2 i j (by simpa using hi)
theorem fewp.at {N : Nat} : ∀ (l : List (Bs × J)), fewp N l = true → ∀ (i : Nat) (nm : Bs) (j : J), l[i]? = some (nm, j) → few N j = true := by
  intro l
  induction l with
  | nil => intro _ i nm j h; simp at h
  | cons x l ih =>
    obtain ⟨xn, xj⟩ := x
    intro h i nm j hi
    unfold fewp at h
    simp at h
    cases i with
    | zero => simp at hi; obtain ⟨rfl, rfl⟩ := hi; exact h.1
    | succ i => exact ih h.2 i nm j (by simpa using hi)
/-- the canonical text of a value -/
def pText (j : J) : Bs := pWrite (pSorts 8 j)
/-- it, and an error's number -/
def pPut (j : J) : Bs × Nat := if pSound 0 j then (if 4096 < (pText j).length then ([], 10) else (pText j, 0)) else ([], 1)
end Go.Proofs.YtcddlemkimbkcaaGreatDoor
namespace Go.Proofs.YtcddlemkimbkcaaGreatDoor
set_option linter.unusedVariables false
set_option linter.unusedSimpArgs false
set_option linter.unusedSectionVars false

mutual
/-- how many values there are in one, as far as the last number -/
def pMany : J → Int → Int
  | .mk _ _ _ l p, last => pManyp (pManyl 1 l last) p last
def pManyl : Int → List J → Int → Int
  | n, [], _ => n
  | n, j :: js, last => if n ≤ last then pManyl (n + pMany j (last - n)) js last else n
def pManyp : Int → List (Bs × J) → Int → Int
  | n, [], _ => n
  | n, (_, j) :: ps, last => if n ≤ last then pManyp (n + pMany j (last - n)) ps last else n
end
mutual
def pLong : J → Bool
  | .mk _ _ t l p => decide (5000 < t.length) || (pLongl l || pLongp p)
def pLongl : List J → Bool
  | [] => false
  | j :: js => pLong j || pLongl js
def pLongp : List (Bs × J) → Bool
  | [] => false
  | (nm, j) :: ps => (decide (5000 < nm.length) || pLong j) || pLongp ps
end
def pHeavy (j : J) : Bool := decide (pMany j 200 > 200) || pLong j
mutual
theorem many_bounds : ∀ (j : J) (last : Int), 1 ≤ pMany j last ∧ (pMany j last ≤ 1 ∨ pMany j last ≤ last + 1)
  | .mk _ _ _ l p, last => by
    unfold pMany
    have h1 := manyl_bounds l 1 last
    have h2 := manyp_bounds p (pManyl 1 l last) last
    omega
theorem manyl_bounds : ∀ (l : List J) (n last : Int), n ≤ pManyl n l last ∧ (pManyl n l last ≤ n ∨ pManyl n l last ≤ last + 1)
  | [], n, last => by unfold pManyl; omega
  | j :: js, n, last => by
    unfold pManyl
    split
    · have h1 := many_bounds j (last - n)
      have h2 := manyl_bounds js (n + pMany j (last - n)) last
      omega
    · omega
theorem manyp_bounds : ∀ (l : List (Bs × J)) (n last : Int), n ≤ pManyp n l last ∧ (pManyp n l last ≤ n ∨ pManyp n l last ≤ last + 1)
  | [], n, last => by unfold pManyp; omega
  | (_, j) :: js, n, last => by
    unfold pManyp
    split
    · have h1 := many_bounds j (last - n)
      have h2 := manyp_bounds js (n + pMany j (last - n)) last
      omega
    · omega
end
mutual
/-- whole numbers are of 64 bits -/
def ints : J → Bool
  | .mk _ n _ l p => (decide (-9223372036854775808 ≤ n) && decide (n ≤ 9223372036854775807)) && (intsl l && intsp p)
def intsl : List J → Bool
  | [] => true
  | j :: js => ints j && intsl js
def intsp : List (Bs × J) → Bool
  | [] => true
  | (_, j) :: ps => ints j && intsp ps
end
mutual
/-- what is not heavy fits -/
theorem fits_light : ∀ (j : J) (last : Int), last ≤ 1000 → ints j = true → pLong j = false → pMany j last ≤ last → fits 67108864 j = true
  | .mk k n t l p, last, h0, hi, hl, hm => by
    unfold pMany at hm
    unfold pLong at hl
    unfold ints at hi
    simp only [Bool.or_eq_false_iff, decide_eq_false_iff_not, Bool.and_eq_true, decide_eq_true_eq] at hl hi
    have b1 := manyl_bounds l 1 last
    have b2 := manyp_bounds p (pManyl 1 l last) last
    have b3 : pManyl 1 l last ≤ last := by omega
    obtain ⟨f1, n1⟩ := fitsl_light l 1 last h0 (by omega) hi.2.1 hl.2.1 b3
    obtain ⟨f2, n2⟩ := fitsp_light p (pManyl 1 l last) last h0 (by omega) hi.2.2 hl.2.2 hm
    unfold fits
    rw [f1, f2]
    simp only [Bool.and_eq_true, decide_eq_true_eq, and_true]
    omega
theorem fitsl_light : ∀ (l : List J) (n last : Int), last ≤ 1000 → 1 ≤ n → intsl l = true → pLongl l = false → pManyl n l last ≤ last → fitsl 67108864 l = true ∧ n + l.length ≤ last
  | [], n, last, h0, h1, hi, hl, hm => by
    unfold pManyl at hm
    exact ⟨by unfold fitsl; rfl, by simpa using hm⟩
  | j :: js, n, last, h0, h1, hi, hl, hm => by
    unfold pManyl at hm
    unfold pLongl at hl
    unfold intsl at hi
    simp only [Bool.or_eq_false_iff, Bool.and_eq_true] at hl hi
    split at hm
    · rename_i hn
      have b0 := many_bounds j (last - n)
      have b1 := manyl_bounds js (n + pMany j (last - n)) last
      obtain ⟨f1, n1⟩ := fitsl_light js (n + pMany j (last - n)) last h0 (by omega) hi.2 hl.2 hm
      have f2 : fits 67108864 j = true := fits_light j (last - n) (by omega) hi.1 hl.1 (by omega)
      unfold fitsl
      rw [f1, f2]
      refine ⟨rfl, ?_⟩
      simp only [List.length_cons]
      omega
    · omega
theorem fitsp_light : ∀ (l : List (Bs × J)) (n last : Int), last ≤ 1000 → 1 ≤ n → intsp l = true → pLongp l = false → pManyp n l last ≤ last → fitsp 67108864 l = true ∧ n + l.length ≤ last
  | [], n, last, h0, h1, hi, hl, hm => by
    unfold pManyp at hm
    exact ⟨by unfold fitsp; rfl, by simpa using hm⟩
  | (nm, j) :: js, n, last, h0, h1, hi, hl, hm => by
    unfold pManyp at hm
    unfold pLongp at hl
    unfold intsp at hi
    simp only [Bool.or_eq_false_iff, Bool.and_eq_true, decide_eq_false_iff_not] at hl hi
    split at hm
    · rename_i hn
      have b0 := many_bounds j (last - n)
      have b1 := manyp_bounds js (n + pMany j (last - n)) last
      obtain ⟨f1, n1⟩ := fitsp_light js (n + pMany j (last - n)) last h0 (by omega) hi.2 hl.2 hm
      have f2 : fits 67108864 j = true := fits_light j (last - n) (by omega) hi.1 hl.1.2 (by omega)
      unfold fitsp
      rw [f1, f2]
      refine ⟨?_, ?_⟩
      · simp only [Bool.and_true, decide_eq_true_eq]
        omega
      · simp only [List.length_cons]
        omega
    · omega
end
end Go.Proofs.YtcddlemkimbkcaaGreatDoor
