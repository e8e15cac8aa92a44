/-
  Canonical texts, as plain data.
-/
import Derived.Test.YtbfmpbhikipipaaDoorSpecSound
namespace Go.Proofs.YtbfmpbhikipipaaDoor
set_option linter.unusedVariables false
set_option linter.unusedSimpArgs false
set_option linter.unusedSectionVars false

def fig (n : Nat) : UInt8 := UInt8.ofNat (if n < 10 then 48 + n else 87 + n)
/-- what stands for a byte; nothing: itself -/
def pEsc (c : UInt8) : Bs :=
  if c = 34 then [92, 34] else if c = 92 then [92, 92] else if c = 8 then [92, 98] else if c = 9 then [92, 116] else if c = 10 then [92, 110]
  else if c = 12 then [92, 102] else if c = 13 then [92, 114] else if c.toNat < 32 then [92, 117, 48, 48, fig (c.toNat / 16), fig (c.toNat % 16)] else []
def pEscs : Bs → Bs
  | [] => []
  | c :: l => (if pEsc c = [] then [c] else pEsc c) ++ pEscs l
def pQuote (s : Bs) : Bs := 34 :: pEscs s ++ [34]
end Go.Proofs.YtbfmpbhikipipaaDoor
