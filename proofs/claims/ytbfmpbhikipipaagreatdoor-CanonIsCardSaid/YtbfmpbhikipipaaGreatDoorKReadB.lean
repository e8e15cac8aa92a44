/-
  From a slice of bytes that can be read as data to bytes.
-/
import Derived.Test.YtbfmpbhikipipaaGreatDoorKBytes
import Derived.ProofKit
import Derived.OpenShut
import Derived.SizedLaws
import Derived.Stood8
namespace Go.Proofs.YtbfmpbhikipipaaGreatDoor
set_option linter.unusedVariables false
set_option linter.unusedSimpArgs false
set_option linter.unusedSectionVars false
open Go.ChangeShapes Go.WideShapes Go.ChangeAt Go.RowKit
variable [OldK]
theorem Tryz.cellsU8 : Tryz.prog.cellsOf 5 = 1 := by kernel_rfl
section
variable {H : Type} {enc : TypeId × Value → H}
set_option maxRecDepth 100000 in
theorem read_bytes {W : World} (hK : W.heap.size ≤ OldK.k) {base : Nat} {v1 : Value} {d1 : DataW H} {p1 : List MemPlace} (hval : Value.okWide Tryz.prog W .any base 28 v1)
    (h1 : DataW.Trod enc Tryz.prog W 0 (fun _ => true) true 28 v1 d1 p1) :
    ∃ l : Bs, SB (fun _ => True) l v1 W ∧ (v1 = .slice none 0 0 ∨ ∃ ad n c, v1 = .slice (some ad) n c) ∧ (l = [] ∨ ∃ es sp, d1 = .slice es sp ∧ es.length = l.length) := by
  have hval0 := hval
  obtain ⟨a1, len, cap, rfl⟩ := okWide_slice Tryz.underlying28 hval
  obtain ⟨fuel, hf⟩ := h1
  rcases open_ints Tryz.underlying28 Tryz.underlying5 Tryz.cellsU8 hf with ⟨hcs, hx⟩ | ⟨a, len', cap', zs, hcs, _, hl, hm, hz, hx, hcell, hwz⟩
  · simp [Value.cells] at hcs
    obtain ⟨rfl, rfl, rfl⟩ := hcs
    exact ⟨[], SB.nil _ _ _, .inl rfl, .inl rfl⟩
  · simp [Value.cells] at hcs
    obtain ⟨rfl, rfl, rfl⟩ := hcs
    simp only [Prod.mk.injEq] at hx
    obtain ⟨rfl, rfl⟩ := hx
    simp only [if_true] at hz
    have hlen : ((zs.take len).map fun n => UInt8.ofNat n.toNat).length = len := by simp; omega
    simp only [Value.okWide, Tryz.underlying28, Cell.okWide, Cell.ok] at hval0
    obtain ⟨-, -, -, hspot, row, cells, hsh, -⟩ := hval0
    obtain ⟨b, o, spot⟩ := a
    simp only at hspot
    subst hspot
    obtain ⟨C, T, f, hb⟩ : ∃ C T f, W.heap[b]? = some (.cells C T f) := by
      unfold World.shape? at hsh
      simp only at hsh
      split at hsh
      · rename_i C T f hb
        exact ⟨_, _, _, hb⟩
      · simp at hsh
    refine ⟨(zs.take len).map fun n => UInt8.ofNat n.toNat, ⟨some ⟨b, o, none⟩, cap, by rw [hlen], by rw [hlen]; exact hl, .inr ⟨b, o, C, T, f, rfl, trivial, ⟨hb, .inr (by have := get_lt hb; omega)⟩, fun j hj => ?_⟩⟩, .inr ⟨_, _, _, rfl⟩, .inr ⟨_, _, rfl, by rw [hlen]; simp [lits]; omega⟩⟩
    rw [hlen] at hj
    have hcj := hcell j (by omega)
    rw [Addr.add_lit] at hcj
    have hcj2 : C[o + j]? = some (.int .u8 (zs.getD j 0)) := by
      have h := hcj
      simp only [World.cell?, hb] at h
      exact h
    rw [hcj2]
    have hr := range_u8 hwz j
    simp only [List.getElem_map, List.getElem_take]
    have e : zs.getD j 0 = zs[j]'(by omega) := by simp [List.getD, List.getElem?_eq_getElem (show j < zs.length by omega)]
    rw [List.getD_eq_getElem?_getD] at e
    rw [e] at hr
    rw [List.getD_eq_getElem?_getD, e]
    congr 2
    simp only [UInt8.toNat_ofNat']
    omega
end
end Go.Proofs.YtbfmpbhikipipaaGreatDoor
