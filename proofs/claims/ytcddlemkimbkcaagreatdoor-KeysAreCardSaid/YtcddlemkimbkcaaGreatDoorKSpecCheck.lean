/-
  Which entries are ones (entry.Check), as plain data; a statement's payload apart.
-/
import Derived.Test.YtcddlemkimbkcaaGreatDoorKSpecSigned
namespace Go.Proofs.YtcddlemkimbkcaaGreatDoor
set_option linter.unusedVariables false
set_option linter.unusedSimpArgs false
set_option linter.unusedSectionVars false
open Go.RowKit
/-- the same signature? -/
def sgEq (a b : Sg) : Bool := a.id == b.id && (a.key == b.key && a.sig == b.sig)
def sgsEq : List Sg → List Sg → Bool
  | [], [] => true
  | a :: l, b :: m => sgEq a b && sgsEq l m
  | _, _ => false
theorem sgEq_same (a : Sg) : sgEq a a = true := by simp [sgEq]
theorem sgsEq_same : ∀ l : List Sg, sgsEq l l = true
  | [] => rfl
  | a :: l => by rw [sgsEq, sgEq_same, sgsEq_same l]; rfl
theorem sgsEq_len : ∀ (l m : List Sg), l.length ≠ m.length → sgsEq l m = false
  | [], [], h => absurd rfl h
  | [], _ :: _, _ => rfl
  | _ :: _, [], _ => rfl
  | a :: l, b :: m, h => by
    rw [sgsEq, sgsEq_len l m (by intro h2; exact h (by simp [h2])), Bool.and_false]
theorem sgsEq_at : ∀ (l m : List Sg), l.length = m.length → ∀ i (h : i < l.length) (h2 : i < m.length), sgsEq (l.drop i) (m.drop i) = (sgEq l[i] m[i] && sgsEq (l.drop (i + 1)) (m.drop (i + 1))) := by
  intro l m hl i h h2
  rw [List.drop_eq_getElem_cons h, List.drop_eq_getElem_cons h2, sgsEq]
/-- the same entry? -/
def enEq (a b : En) : Bool := decide (a.kind = b.kind) && (a.digest == b.digest && (a.typ == b.typ && (a.payload == b.payload && (decide (a.op = b.op) && (a.ident == b.ident && (a.key == b.key && sgsEq a.sigs b.sigs))))))
/-- what an entry has of its kind, taken away -/
def pBlank (e : En) : En :=
  if e.kind = 1 then { e with digest := zero32 }
  else if e.kind = 2 then { e with typ := [], payload := [] }
  else if e.kind = 3 then { e with payload := [] }
  else if e.kind = 4 then { e with key := if e.op = 3 then e.key else zero32, op := 0, ident := [] }
  else e
/-- an entry of a kind and signatures, and of nothing else -/
def enOnly (k : Int) (l : List Sg) : En := ⟨k, zero32, [], [], 0, [], zero32, l⟩
/-- is what it has of its kind as told? (sub: a statement's payload is one) -/
def pOwn (sub : Bs → Bool) (e : En) : Bool :=
  if e.kind = 1 then true
  else if e.kind = 2 then pTyped e.typ && decide (e.payload.length ≤ 2048)
  else if e.kind = 3 then sub e.payload
  else if e.kind = 4 then decide (1 ≤ e.op) && (decide (e.op ≤ 3) && pNamed e.ident)
  else false
def pCheck (sub : Bs → Bool) (e : En) : Bool := pOwn sub e && (pSigned e.sigs && enEq (pBlank e) (enOnly e.kind e.sigs))
/-- an entry's cells: pv, sv are its payload and its signatures -/
def En.cells (e : En) (pv sv : Value) : List Value :=
  [.int .i64 e.kind] ++ (Lib.byteCells e.digest ++ ([.string ⟨e.typ.toArray⟩, pv, .int .i64 e.op, .string ⟨e.ident.toArray⟩] ++ (Lib.byteCells e.key ++ [sv])))
theorem En.size {e : En} (h : e.ok) (pv sv : Value) : (e.cells pv sv).length = 70 := by
  obtain ⟨h1, h2, -⟩ := h
  simp [En.cells, Lib.byteCells, h1, h2]
theorem zero32_len : zero32.length = 32 := rfl
theorem pBlank_ok {e : En} (h : e.ok) : (pBlank e).ok := by
  obtain ⟨h1, h2, h3⟩ := h
  unfold pBlank
  repeat' split
  all_goals refine ⟨?_, ?_, h3⟩
  all_goals first | exact h1 | exact h2 | rfl | (simp only; split <;> first | exact h2 | rfl)
theorem enOnly_ok {k : Int} {l : List Sg} (h : ∀ s ∈ l, s.ok) : (enOnly k l).ok := ⟨rfl, rfl, h⟩
end Go.Proofs.YtcddlemkimbkcaaGreatDoor
