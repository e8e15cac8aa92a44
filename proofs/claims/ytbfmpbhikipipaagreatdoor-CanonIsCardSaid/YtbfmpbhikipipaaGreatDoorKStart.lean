/-
  What the row's list gives: the package-level tables; a world in which they lie; a walk's frame as the form asks it.
-/
import Derived.Test.YtbfmpbhikipipaaGreatDoorRows
import Derived.Test.YtbfmpbhikipipaaGreatDoorKReader
import Derived.Lib.LaidU8
import Derived.ProofKit
import Derived.OpenShut
import Derived.Deep.DeepHandedRow
namespace Go.Proofs.YtbfmpbhikipipaaGreatDoor
set_option linter.unusedVariables false
set_option linter.unusedSimpArgs false
set_option linter.unusedSectionVars false
attribute [local instance] oldZero
open Go.RowKit

theorem Tryz.typ0 : (Tryz.prog.globals[0]?).map (·.type) = some 98 := by kernel_rfl
theorem Tryz.typ1 : (Tryz.prog.globals[1]?).map (·.type) = some 101 := by kernel_rfl
theorem Tryz.typ2 : (Tryz.prog.globals[2]?).map (·.type) = some 133 := by kernel_rfl
theorem Tryz.name0 : Tryz.prog.globalNamed "unicode/utf8.first" = some 0 := by kernel_rfl
theorem Tryz.name1 : Tryz.prog.globalNamed "unicode/utf8.acceptRanges" = some 1 := by kernel_rfl
theorem Tryz.cells0 : Tryz.prog.cellsOf 98 = 256 := by kernel_rfl
theorem Tryz.cellsB : Tryz.prog.cellsOf 5 = 1 := by kernel_rfl
theorem Tryz.cellsA : Tryz.prog.cellsOf 100 = 2 := by kernel_rfl
theorem Tryz.cellsQ : Tryz.prog.cellsOf 121 = 1 := by kernel_rfl
theorem Tryz.cells2 : Tryz.prog.cellsOf 133 = 20 := by kernel_rfl

theorem utf8_of_reads {w : World} (h3 : Lib.VarReads Tryz.prog w "unicode/utf8.first" Lib.firstData) (h4 : Lib.VarReads Tryz.prog w "unicode/utf8.acceptRanges" Lib.acceptData) :
    Lib.Utf8Tabs 0 1 w := by
  refine ⟨fun c hc => ?_, fun i hi => ?_⟩
  · obtain ⟨g, t, cs, fuel, p, hg, hty, hvar, hd⟩ := h3
    obtain rfl := Option.some.inj (Tryz.name0.symm.trans hg)
    obtain rfl := Option.some.inj (Tryz.typ0.symm.trans hty)
    have hcs := Lib.cells_of_tab Tryz.underlying98 Tryz.underlying5 Tryz.cellsB Tryz.cells0 hd
    rw [World.var?_cell hg hvar c, ← Array.getElem?_toList, hcs]
    simp [Lib.firstTab, hc]
  · obtain ⟨g, t, cs, fuel, p, hg, hty, hvar, hd⟩ := h4
    obtain rfl := Option.some.inj (Tryz.name1.symm.trans hg)
    obtain rfl := Option.some.inj (Tryz.typ1.symm.trans hty)
    obtain ⟨fuel', d, q, hdi, he⟩ := Lib.array_elem Tryz.underlying101 hd i hi
    simp only [List.getElem?_map, List.getElem?_range hi, Option.map_some, Option.some.injEq] at hdi
    subst hdi
    rw [Tryz.cellsA] at he
    have hcs := Lib.ints_of_struct Tryz.underlying100 (fun j f hj => by
      match j, hj with
      | 0, hj => simp at hj; subst hj; exact ⟨Tryz.underlying5, rfl, Tryz.cellsB⟩
      | 1, hj => simp at hj; subst hj; exact ⟨Tryz.underlying5, rfl, Tryz.cellsB⟩
      | j + 2, hj => simp at hj) (by rw [Tryz.cellsA]; rfl) he
    have e0 := congrArg (·[0]?) hcs
    have e1 := congrArg (·[1]?) hcs
    simp only [List.getElem?_take, List.getElem?_drop] at e0 e1
    constructor
    · rw [World.var?_cell hg hvar (2 * i), ← Array.getElem?_toList]
      simpa [Nat.mul_comm] using e0
    · rw [World.var?_cell hg hvar (2 * i + 1), ← Array.getElem?_toList]
      simpa [Nat.mul_comm] using e1
theorem pow10_of_reads {w : World} (h : Lib.VarReads Tryz.prog w "internal/strconv.uint64pow10" (Lib.tabData .u64 Lib.pow10Tab)) : Lib.TabIs Tryz.prog w "internal/strconv.uint64pow10" .u64 Lib.pow10Tab := by
  obtain ⟨g, t, cs, fuel, p, hg, hty, hvar, hd⟩ := h
  obtain rfl := Option.some.inj (Tryz.pow10At.symm.trans hg)
  obtain rfl := Option.some.inj (Tryz.typ2.symm.trans hty)
  unfold Lib.TabIs
  rw [hvar, ← Lib.cells_of_tab Tryz.underlying133 Tryz.underlying121 Tryz.cellsQ Tryz.cells2 hd]

/-- what a walk that turns nothing of old keeps, as the form says it -/
theorem fr_kept {w w' : World} (h : Fr NoB w w') (may : MemPlace → Prop) : w.keptBut w' may := by
  refine ⟨h.os, h.output, fun i hi => ?_⟩
  obtain ⟨o, ho⟩ := get_some hi
  rw [ho, h.block i o ho (fun h => h)]
  cases o <;> simp

/-- these cells in a variable's block -/
def setCs (cs : Array Value) : Obj → Obj
  | .cells _ t f => .cells cs t f
  | o => o
def u8s (zs : List Int) : Array Value := (zs.map fun z => Value.int .u8 z).toArray
def acceptCells : Array Value := ((List.range 16).flatMap fun i => [Value.int .u8 (Lib.accLo i : Int), Value.int .u8 (Lib.accHi i : Int)]).toArray
def tabOf : DataW Unit → List Int
  | .agg l => l.map fun d => match d with | .lit (.int _ z) => z | _ => 0
  | _ => []
/-- a world in which the five tables lie -/
noncomputable def laidWorld (os : Os) : World :=
  { World.holding Tryz.prog os ⟨#[], #[], []⟩ with heap := (((((World.holding Tryz.prog os ⟨#[], #[], []⟩).heap.modify 0 (setCs (u8s Lib.firstTab))).modify 1 (setCs acceptCells)).modify 2 (setCs (Lib.pow10Tab.map fun z => Value.int .u64 z).toArray)).modify 4 (setCs (u8s (tabOf Rows.laid_math_bits_deBruijn32tab)))).modify 5 (setCs (u8s (tabOf Rows.laid_math_bits_deBruijn64tab))) }
end Go.Proofs.YtbfmpbhikipipaaGreatDoor
