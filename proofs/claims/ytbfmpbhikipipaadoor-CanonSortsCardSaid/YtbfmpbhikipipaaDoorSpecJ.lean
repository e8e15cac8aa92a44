/-
  Values of texts, as plain data.
-/
import Derived.Test.YtbfmpbhikipipaaDoorSpecJson
namespace Go.Proofs.YtbfmpbhikipipaaDoor
set_option linter.unusedVariables false
set_option linter.unusedSimpArgs false
set_option linter.unusedSectionVars false

/-- a value: its kind, its number, its text, its list, its pairs -/
inductive J where
  | mk (kind int : Int) (text : Bs) (list : List J) (pairs : List (Bs × J))
namespace J
def kind : J → Int | mk k _ _ _ _ => k
def int : J → Int | mk _ n _ _ _ => n
def text : J → Bs | mk _ _ t _ _ => t
def list : J → List J | mk _ _ _ l _ => l
def pairs : J → List (Bs × J) | mk _ _ _ _ p => p
def zero : J := mk 0 0 [] [] []
end J

/-- the figures that come next: the number, how many, what is left -/
def sDigits : Nat → Nat → Bs → Nat × Nat × Bs
  | n, k, [] => (n, k, [])
  | n, k, x :: l => if 48 ≤ x.toNat ∧ x.toNat ≤ 57 then sDigits (if n ≤ 9007199254740991 then 10 * n + (x.toNat - 48) else n) (k + 1) l else (n, k, x :: l)
/-- a number behind its sign -/
def sNumAt (minus : Bool) (bad : Bool) (s : Bs) : J × St :=
  match s with
  | [] => (J.zero, ⟨[], true⟩)
  | y :: m =>
    if 48 ≤ y.toNat ∧ y.toNat ≤ 57 then
      match sDigits 0 0 (y :: m) with
      | (n, k, s2) => (.mk 2 (if minus then -(n : Int) else n) [] [] [], ⟨s2, bad || (decide (9007199254740991 < n) || (decide (y = 48) && (decide (1 < k) || minus)))⟩)
    else (J.zero, ⟨y :: m, true⟩)
def sNumber (st : St) : J × St :=
  match st.s with
  | [] => (J.zero, st)
  | x :: l => if x = 45 then sNumAt true st.bad l else sNumAt false st.bad (x :: l)

section
variable {α : Type}
/-- what stands between two signs: 'one' by one -/
def sLoop (one : St → α → St × α) (shut : UInt8) : Nat → St → α → St × α
  | 0, st, a => (st, a)
  | k + 1, st, a =>
    if st.bad then (st, a) else
    match one st a with
    | (st1, a1) =>
      if st1.bad then (st1, a1) else
      match sEat shut st1.s with
      | some l => (⟨l, false⟩, a1)
      | none => match sEat 44 (sBlanks st1.s) with
        | some l => sLoop one shut k ⟨l, false⟩ a1
        | none => sLoop one shut k ⟨sBlanks (sBlanks st1.s), true⟩ a1
/-- ahead of the loop: the sign that opens; as deep as d -/
def sOpen (op : UInt8) (d : Int) (st : St) : St :=
  match sEat op st.s with
  | some l => ⟨l, st.bad || decide (8 < d)⟩
  | none => ⟨sBlanks st.s, true⟩
def sEach (one : St → α → St × α) (op shut : UInt8) (d : Int) (st : St) (a : α) : St × α :=
  match sEat shut (sOpen op d st).s with
  | some l => (⟨l, (sOpen op d st).bad⟩, a)
  | none => sLoop one shut ((sOpen op d st).s.length + 2) ⟨sBlanks (sOpen op d st).s, (sOpen op d st).bad⟩ a
end
/-- one of a list -/
def sItem (val : St → J × St) (st : St) (a : List J) : St × List J := ((val st).2, a ++ [(val st).1])
/-- behind a name: it is new, and a colon follows -/
def sColon (names : List Bs) (nm : Bs) (st : St) : St :=
  if names.contains nm then ⟨st.s, true⟩
  else match sEat 58 st.s with
    | some l => ⟨l, st.bad⟩
    | none => ⟨sBlanks st.s, true⟩
/-- one of an object -/
def sPair (val : St → J × St) (st : St) (a : List (Bs × J)) : St × List (Bs × J) :=
  match sText ⟨sBlanks st.s, st.bad⟩ with
  | (nm, st1) => match val (sColon (a.map (·.1)) nm st1) with
    | (x, st2) => (st2, a ++ [(nm, x)])
def sNull : Bs := [110, 117, 108, 108]
def sTrue : Bs := [116, 114, 117, 101]
def sFalse : Bs := [102, 97, 108, 115, 101]
/-- what stands behind a value's first sign -/
def sRead (val : St → J × St) (d : Int) (c : UInt8) (st : St) : J × St :=
  if c = 110 then (J.zero, sMust sNull st)
  else if c = 116 then (.mk 1 1 [] [] [], sMust sTrue st)
  else if c = 102 then (.mk 1 0 [] [] [], sMust sFalse st)
  else if c = 34 then (.mk 3 0 (sText st).1 [] [], (sText st).2)
  else if c = 91 then (.mk 4 0 [] (sEach (sItem val) 91 93 (d + 1) st []).2 [], (sEach (sItem val) 91 93 (d + 1) st []).1)
  else if c = 123 then (.mk 5 0 [] [] (sEach (sPair val) 123 125 (d + 1) st []).2, (sEach (sPair val) 123 125 (d + 1) st []).1)
  else sNumber st
/-- a value, d lists and objects deep -/
def sValue : Nat → Int → St → J × St
  | 0, _, st => (J.zero, st)
  | f + 1, d, st =>
    match sBlanks st.s with
    | [] => (J.zero, ⟨[], true⟩)
    | c :: l => if st.bad then (J.zero, ⟨c :: l, true⟩) else sRead (sValue f (d + 1)) d c ⟨c :: l, false⟩
/-- the value of a text, if it is one -/
def sParse (s : Bs) : Option J :=
  match sValue 10 0 ⟨s, false⟩ with
  | (v, st) => if st.bad ∨ sBlanks st.s ≠ [] then none else some v
end Go.Proofs.YtbfmpbhikipipaaDoor
