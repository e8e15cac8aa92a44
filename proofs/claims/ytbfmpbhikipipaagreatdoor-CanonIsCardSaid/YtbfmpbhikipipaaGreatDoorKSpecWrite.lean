/-
  Canonical texts, as plain data.
-/
import Derived.Test.YtbfmpbhikipipaaGreatDoorKSpecSound
import Derived.Lib.ItoaNum
import Derived.Lib.Small
namespace Go.Proofs.YtbfmpbhikipipaaGreatDoor
set_option linter.unusedVariables false
set_option linter.unusedSimpArgs false
set_option linter.unusedSectionVars false

def fig (n : Nat) : UInt8 := UInt8.ofNat (if n < 10 then 48 + n else 87 + n)
/-- what stands for a byte; nothing: itself -/
def pEsc (c : UInt8) : Bs :=
  if c = 34 then [92, 34] else if c = 92 then [92, 92] else if c = 8 then [92, 98] else if c = 9 then [92, 116] else if c = 10 then [92, 110]
  else if c = 12 then [92, 102] else if c = 13 then [92, 114] else if c.toNat < 32 then [92, 117, 48, 48, fig (c.toNat / 16), fig (c.toNat % 16)] else []
def pEscs : Bs → Bs
  | [] => []
  | c :: l => (if pEsc c = [] then [c] else pEsc c) ++ pEscs l
def pQuote (s : Bs) : Bs := 34 :: pEscs s ++ [34]
end Go.Proofs.YtbfmpbhikipipaaGreatDoor
namespace Go.Proofs.YtbfmpbhikipipaaGreatDoor
set_option linter.unusedVariables false
set_option linter.unusedSimpArgs false
set_option linter.unusedSectionVars false

mutual
def pWrite : J → Bs
  | .mk k n t l p =>
    if k = 0 then [110, 117, 108, 108]
    else if k = 1 then Lib.formatBool (n == 1)
    else if k = 2 then Lib.itoa n
    else if k = 3 then pQuote t
    else if k = 4 then (if l.isEmpty then [91] else pWrites 91 l) ++ [93]
    else if k = 5 then (if p.isEmpty then [123] else pWritep 123 p) ++ [125]
    else []
def pWrites : UInt8 → List J → Bs
  | _, [] => []
  | c, j :: js => c :: pWrite j ++ pWrites 44 js
def pWritep : UInt8 → List (Bs × J) → Bs
  | _, [] => []
  | c, (nm, j) :: ps => c :: pQuote nm ++ [58] ++ pWrite j ++ pWritep 44 ps
end
/-- a pair is set in among sorted ones, behind those of its name -/
def pIns (x : Bs × J) : List (Bs × J) → List (Bs × J)
  | [] => [x]
  | y :: l => if x.1 < y.1 then x :: y :: l else y :: pIns x l
end Go.Proofs.YtbfmpbhikipipaaGreatDoor
