/-
  The walk of entry.Signer.
-/
import Derived.Test.YtcddlemkimbkcaaGreatDoorKNamed
import Derived.Test.YtcddlemkimbkcaaGreatDoorKHex
namespace Go.Proofs.YtcddlemkimbkcaaGreatDoor
set_option linter.unusedVariables false
set_option linter.unusedSimpArgs false
set_option linter.unusedSectionVars false
open Go.RowKit
variable [OldK]
/-- a signature's cells -/
def Sg.cells (s : Sg) : Array Value := #[.string ⟨s.id.toArray⟩] ++ ((Lib.byteCells s.key).toArray ++ (Lib.byteCells s.sig).toArray)
theorem Sg.size {s : Sg} (h : s.ok) : s.cells.size = 97 := by
  obtain ⟨h1, h2⟩ := h
  simp [Sg.cells, Lib.byteCells, h1, h2]
theorem Sg.cell0 (s : Sg) : s.cells[0]? = some (.string ⟨s.id.toArray⟩) := by
  simp [Sg.cells]
theorem Sg.cellK {s : Sg} (j : Nat) (x : UInt8) (h : s.key[j]? = some x) : s.cells[1 + j]? = some (.int .u8 x.toNat) := by
  have hj : j < s.key.length := by
    rcases Nat.lt_or_ge j s.key.length with h1 | h1
    · exact h1
    · rw [List.getElem?_eq_none h1] at h; simp at h
  unfold Sg.cells
  rw [Array.getElem?_append_right (by simp), Array.getElem?_append_left (by simp [Lib.byteCells]; omega)]
  simp [Lib.byteCells, h]
theorem Tryz.sizeSig : (Tryz.prog.info? 54).map (·.size) = some 97 := by kernel_rfl
set_option maxRecDepth 100000 in
set_option maxHeartbeats 1000000 in
theorem signer_c (s : Sg) (w : World) (hok : s.ok) (hlen : s.id.length ≤ 1000000) :
    Calls Tryz.prog 118 #[.agg s.cells] w fun e w' => e = .returned (.string ⟨(pSigner s).toArray⟩) ∧ Fr NoB w w' := by
  have hsz := Sg.size hok
  have h0 := Sg.cell0 s
  have hk : ∀ j x, s.key[j]? = some x → s.cells[1 + j]? = some (.int .u8 x.toNat) := Sg.cellK
  have hkl := hok.1
  obtain ⟨cs, hcs⟩ : ∃ cs, s.cells = cs := ⟨_, rfl⟩
  rw [hcs] at hsz h0 hk ⊢
  have h0' : ∀ h, cs[0]'h = .string ⟨s.id.toArray⟩ := fun h => by
    rw [Array.getElem?_eq_getElem h] at h0
    exact Option.some.inj h0
  clear h0 hcs hok
  obtain ⟨id, hid⟩ : ∃ id, s.id = id := ⟨_, rfl⟩
  unfold pSigner
  rw [hid] at h0' hlen ⊢
  obtain ⟨key, hkey⟩ : ∃ key, s.key = key := ⟨_, rfl⟩
  rw [hkey] at hk hkl ⊢
  clear hid hkey
  have hF := (Fr.refl (M := NoB)).alloc (w := w) (.cells cs 54)
  have HF := Lib.hid hF
  clear hF
  cases id with
  | cons c r =>
    have hne : (c :: r : Bs).isEmpty = false := rfl
    rw [if_neg (by simp)]
    obtain ⟨l, hl⟩ : ∃ l, (c :: r : Bs) = l := ⟨_, rfl⟩
    rw [hl] at h0' hne hlen ⊢
    clear hl
    go_enter Tryz.func118, Tryz.ntmps118
    go_wp2_with fail
    go_ret
    exact ⟨rfl, HF.out⟩
  | nil =>
    rw [if_pos rfl]
    go_enter Tryz.func118, Tryz.ntmps118
    go_wp2_with fail
    have hx := @hex_c ⟨w.heap.size + 1⟩ (fun _ => True) key (.slice (some ⟨w.heap.size, 1, none⟩) 32 32) (w.alloc (.cells cs 54)) ⟨some ⟨w.heap.size, 1, none⟩, 32, by rw [hkl], by omega, .inr ⟨w.heap.size, 1, cs, _, _, rfl, trivial, ⟨heap_alloc_new w _, .inr (Nat.lt_succ_self _)⟩, fun j hj => hk j _ (List.getElem?_eq_getElem hj)⟩⟩ (by omega)
    refine hx.mono ?_
    rintro e w2 ⟨rfl, hF2⟩
    have HF2 := Lib.hid (HF.out.trans' hF2)
    have hxl : (hexS key).length ≤ 100 := by rw [hexS_len]; omega
    obtain ⟨X, hX⟩ : ∃ X, hexS key = X := ⟨_, rfl⟩
    rw [hX] at hxl ⊢
    have HX := Lib.hid hX
    clear hF2 hx hX hk hkl
    go_wp2_with fail
    go_ret
    refine ⟨?_, HF2.out⟩
    have hs : (ByteArray.mk #[107, 101, 121, 58]) ++ (ByteArray.mk X.toArray) = ⟨(sKey ++ X).toArray⟩ := by
      apply ByteArray.ext
      simp [sKey]
    simp [hs, HX.out]
end Go.Proofs.YtcddlemkimbkcaaGreatDoor
