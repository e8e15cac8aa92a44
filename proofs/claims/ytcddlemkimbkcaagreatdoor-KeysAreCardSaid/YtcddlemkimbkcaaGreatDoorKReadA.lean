/-
  From an array of bytes that can be read as data to bytes; a world in which the tables lie; what a walk keeps.
-/
import Derived.Test.YtcddlemkimbkcaaGreatDoorKArr
import Derived.Test.YtcddlemkimbkcaaGreatDoorRows
import Derived.Lib.LaidU8
import Derived.ProofKit
import Derived.OpenShut
import Derived.Deep.DeepHandedRow
namespace Go.Proofs.YtcddlemkimbkcaaGreatDoor
set_option linter.unusedVariables false
set_option linter.unusedSimpArgs false
set_option linter.unusedSectionVars false
open Go.ChangeShapes Go.WideShapes Go.ChangeAt Go.RowKit
section
variable {H : Type} {enc : TypeId × Value → H}
theorem Tryz.cellsU8 : Tryz.prog.cellsOf 5 = 1 := by kernel_rfl
theorem Tryz.cellsSum : Tryz.prog.cellsOf 23 = 32 := by kernel_rfl
theorem Tryz.cellsKey : Tryz.prog.cellsOf 24 = 32 := by kernel_rfl
theorem Tryz.cellsWide : Tryz.prog.cellsOf 52 = 64 := by kernel_rfl
/-- the cells of an array of bytes that is read -/
theorem read_arr_cells {W : World} {base : Nat} {sp : Nat → Bool} {held : Bool} {T n fuel : Nat} (hT : Tryz.prog.underlying T = some (.array n 5)) {cs : List Value} {x : DataW H × List MemPlace} (hl : cs.length = n)
    (h : DataW.trod enc Tryz.prog W base sp held fuel T cs = some x) : ∃ l : Bs, l.length = n ∧ cs = Lib.byteCells l := by
  obtain ⟨xs, m, rfl, rfl, -, hxl, hx⟩ := DataW.trod_array hT h
  have hc : ∀ i, i < n → ∃ a : Int, cs[i]? = some (.int .u8 a) ∧ 0 ≤ a ∧ a ≤ 255 := fun i hi => by
    have h1 := hx i hi
    rw [Tryz.cellsU8, Nat.mul_one, List.getElem?_eq_getElem (by omega)] at h1
    obtain ⟨a, ea, -, wa⟩ := DataW.trod_int Tryz.underlying5 h1
    have h0 := congrArg (·[0]?) ea
    simp only [List.getElem?_take, List.getElem?_drop, List.getElem?_cons_zero, Nat.add_zero, Nat.zero_lt_one, if_true] at h0
    exact ⟨a, h0, bounds_u8 wa⟩
  refine ⟨cs.map (fun c => match c with | .int _ z => UInt8.ofNat z.toNat | _ => 0), by simpa using hl, ?_⟩
  apply List.ext_getElem?
  intro i
  unfold Lib.byteCells
  rw [List.getElem?_map, List.getElem?_map]
  rcases Nat.lt_or_ge i n with hi | hi
  · obtain ⟨a, ha, h0, h1⟩ := hc i hi
    have e : ((UInt8.ofNat a.toNat).toNat : Int) = a := by
      have h2 : (UInt8.ofNat a.toNat).toNat = a.toNat % 256 := by simp
      omega
    rw [ha, Option.map_some, Option.map_some]
    show some (Value.int .u8 a) = some (Value.int .u8 ((UInt8.ofNat a.toNat).toNat : Int))
    rw [e]
  · rw [List.getElem?_eq_none (by omega)]
    rfl
set_option maxRecDepth 100000 in
theorem read_arr {W : World} {base : Nat} {T n : Nat} (hT : Tryz.prog.underlying T = some (.array n 5)) (hc : Tryz.prog.cellsOf T = n) {v : Value} {d : DataW H} {p : List MemPlace} (hval : Value.okWide Tryz.prog W .any base T v)
    (h : DataW.Trod enc Tryz.prog W 0 (fun _ => true) true T v d p) : ∃ l : Bs, l.length = n ∧ v = .agg (Lib.byteCells l).toArray := by
  simp only [Value.okWide, hT] at hval
  obtain ⟨cs, rfl, hsz, -⟩ := hval
  obtain ⟨fuel, hf⟩ := h
  obtain ⟨l, hl, he⟩ := read_arr_cells hT (by simpa [Value.cells] using hsz.trans hc) hf
  exact ⟨l, hl, by rw [← he]; simp [Value.cells]⟩
end
/-- what a walk that turns nothing of old keeps, as the form says it -/
theorem fr_kept2 {w w' : World} (h : Fr NoB w w') (may : MemPlace → Prop) : w.keptBut w' may := by
  refine ⟨h.os, h.output, fun i hi => ?_⟩
  obtain ⟨o, ho⟩ := get_some hi
  rw [ho, h.block i o ho (fun h => h)]
  cases o <;> simp
/-- these cells in a variable's block -/
def setCs2 (cs : Array Value) : Obj → Obj
  | .cells _ t f => .cells cs t f
  | o => o
def u8s2 (zs : List Int) : Array Value := (zs.map fun z => Value.int .u8 z).toArray
def acceptCells2 : Array Value := ((List.range 16).flatMap fun i => [Value.int .u8 (Lib.accLo i : Int), Value.int .u8 (Lib.accHi i : Int)]).toArray
/-- a world in which the two tables lie -/
noncomputable def laidWorld2 (os : Os) : World :=
  { World.holding Tryz.prog os ⟨#[], #[], []⟩ with heap := (((World.holding Tryz.prog os ⟨#[], #[], []⟩).heap.modify 1 (setCs2 (u8s2 Lib.firstTab))).modify 2 (setCs2 acceptCells2)) }
end Go.Proofs.YtcddlemkimbkcaaGreatDoor
