/-
  What the row's list gives where only the tables of unicode/utf8 are laid.
-/
import Derived.Test.YtcddlemkimbkcaaGreatDoorRows
import Derived.Test.YtcddlemkimbkcaaGreatDoorKReader
import Derived.Lib.LaidU8
import Derived.ProofKit
import Derived.OpenShut
import Derived.Deep.DeepHandedRow
namespace Go.Proofs.YtcddlemkimbkcaaGreatDoor
set_option linter.unusedVariables false
set_option linter.unusedSimpArgs false
set_option linter.unusedSectionVars false
open Go.RowKit
theorem Tryz.typ0b : (Tryz.prog.globals[1]?).map (·.type) = some 373 := by kernel_rfl
theorem Tryz.typ1b : (Tryz.prog.globals[2]?).map (·.type) = some 376 := by kernel_rfl
theorem Tryz.name0b : Tryz.prog.globalNamed "unicode/utf8.first" = some 1 := by kernel_rfl
theorem Tryz.name1b : Tryz.prog.globalNamed "unicode/utf8.acceptRanges" = some 2 := by kernel_rfl
theorem Tryz.cells0b : Tryz.prog.cellsOf 373 = 256 := by kernel_rfl
theorem Tryz.cellsBb : Tryz.prog.cellsOf 5 = 1 := by kernel_rfl
theorem Tryz.cellsAb : Tryz.prog.cellsOf 375 = 2 := by kernel_rfl
theorem utf8_of_reads2 {w : World} (h3 : Lib.VarReads Tryz.prog w "unicode/utf8.first" Lib.firstData) (h4 : Lib.VarReads Tryz.prog w "unicode/utf8.acceptRanges" Lib.acceptData) :
    Lib.Utf8Tabs 1 2 w := by
  refine ⟨fun c hc => ?_, fun i hi => ?_⟩
  · obtain ⟨g, t, cs, fuel, p, hg, hty, hvar, hd⟩ := h3
    obtain rfl := Option.some.inj (Tryz.name0b.symm.trans hg)
    obtain rfl := Option.some.inj (Tryz.typ0b.symm.trans hty)
    have hcs := Lib.cells_of_tab Tryz.underlying373 Tryz.underlying5 Tryz.cellsBb Tryz.cells0b hd
    rw [World.var?_cell hg hvar c, ← Array.getElem?_toList, hcs]
    simp [Lib.firstTab, hc]
  · obtain ⟨g, t, cs, fuel, p, hg, hty, hvar, hd⟩ := h4
    obtain rfl := Option.some.inj (Tryz.name1b.symm.trans hg)
    obtain rfl := Option.some.inj (Tryz.typ1b.symm.trans hty)
    obtain ⟨fuel', d, q, hdi, he⟩ := Lib.array_elem Tryz.underlying376 hd i hi
    simp only [List.getElem?_map, List.getElem?_range hi, Option.map_some, Option.some.injEq] at hdi
    subst hdi
    rw [Tryz.cellsAb] at he
    have hcs := Lib.ints_of_struct Tryz.underlying375 (fun j f hj => by
      match j, hj with
      | 0, hj => simp at hj; subst hj; exact ⟨Tryz.underlying5, rfl, Tryz.cellsBb⟩
      | 1, hj => simp at hj; subst hj; exact ⟨Tryz.underlying5, rfl, Tryz.cellsBb⟩
      | j + 2, hj => simp at hj) (by rw [Tryz.cellsAb]; rfl) he
    have e0 := congrArg (·[0]?) hcs
    have e1 := congrArg (·[1]?) hcs
    simp only [List.getElem?_take, List.getElem?_drop] at e0 e1
    constructor
    · rw [World.var?_cell hg hvar (2 * i), ← Array.getElem?_toList]
      simpa [Nat.mul_comm] using e0
    · rw [World.var?_cell hg hvar (2 * i + 1), ← Array.getElem?_toList]
      simpa [Nat.mul_comm] using e1
/-- the tables lie, and the variables' blocks are there -/
theorem start2 {L : List (String × DataW Unit)} {W : World} (h : laidMet Tryz.prog L W) (h1 : ("unicode/utf8.first", Rows.laid_unicode_utf8_first) ∈ L) (h2 : ("unicode/utf8.acceptRanges", Rows.laid_unicode_utf8_acceptRanges) ∈ L) : @Gl ⟨W.heap.size⟩ W := by
  letI : OldK := ⟨W.heap.size⟩
  have h' := h
  have r1 : Lib.VarReads Tryz.prog W "unicode/utf8.first" Lib.firstData := Lib.laidMet.reads h' (by
    rw [show Lib.firstData = Rows.laid_unicode_utf8_first by kernel_rfl]
    exact h1)
  have r2 : Lib.VarReads Tryz.prog W "unicode/utf8.acceptRanges" Lib.acceptData := Lib.laidMet.reads h' (by
    rw [show Lib.acceptData = Rows.laid_unicode_utf8_acceptRanges by kernel_rfl]
    exact h2)
  refine Gl.of ⟨?_, utf8_of_reads2 r1 r2⟩ (Nat.le_refl _)
  obtain ⟨g, t, cs, fuel, p, hg, hty, hvar, hd⟩ := r2
  obtain rfl := Option.some.inj (Tryz.name1b.symm.trans hg)
  unfold World.var? at hvar
  rw [Tryz.name1b] at hvar
  simp only [Option.bind_some] at hvar
  rcases Nat.lt_or_ge 2 W.heap.size with hlt | hge
  · exact hlt
  · rw [Array.getElem?_eq_none hge] at hvar
    simp at hvar
end Go.Proofs.YtcddlemkimbkcaaGreatDoor
