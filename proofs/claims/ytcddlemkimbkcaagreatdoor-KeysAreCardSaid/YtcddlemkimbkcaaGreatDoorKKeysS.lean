/-
  The walks of keys' texts: Digest, Key, Identity; the program's and the reference's; the reference's Named.
-/
import Derived.Test.YtcddlemkimbkcaaGreatDoorKRefUnhex
import Derived.Test.YtcddlemkimbkcaaGreatDoorKSpecKeys
import Derived.Test.YtcddlemkimbkcaaGreatDoorKSigner
namespace Go.Proofs.YtcddlemkimbkcaaGreatDoor
set_option linter.unusedVariables false
set_option linter.unusedSimpArgs false
set_option linter.unusedSectionVars false
open Go.RowKit
variable [OldK]
set_option maxRecDepth 100000 in
set_option maxHeartbeats 1000000 in
theorem kDigest_c (d : Bs) (w : World) (hd : d.length = 32) :
    Calls Tryz.prog 18 #[.agg (Lib.byteCells d).toArray] w fun e w' => e = .returned (.string ⟨(sSha ++ hexS d).toArray⟩) ∧ Fr NoB w w' := by
  have hx := @hex_c ⟨w.heap.size + 1⟩ (fun _ => True) d (.slice (some ⟨w.heap.size, 0, none⟩) 32 32) (w.alloc (.cells (Lib.byteCells d).toArray 23)) ⟨some ⟨w.heap.size, 0, none⟩, 32, by rw [hd], by omega, .inr ⟨w.heap.size, 0, (Lib.byteCells d).toArray, _, _, rfl, trivial, ⟨heap_alloc_new w _, .inr (Nat.lt_succ_self _)⟩, fun j hj => by simp [Lib.byteCells, hj]⟩⟩ (by omega)
  obtain ⟨cs, hcs⟩ : ∃ cs, (Lib.byteCells d).toArray = cs := ⟨_, rfl⟩
  have hsz : cs.size = 32 := by rw [← hcs]; simp [Lib.byteCells, hd]
  rw [hcs] at hx ⊢
  have hxl : (hexS d).length ≤ 100 := by rw [hexS_len]; omega
  obtain ⟨X, hX⟩ : ∃ X, hexS d = X := ⟨_, rfl⟩
  rw [hX] at hx hxl ⊢
  have hF := (Fr.refl (M := NoB)).alloc (w := w) (.cells cs 23)
  have HF := Lib.hid hF
  have Hx := Lib.hid hx
  clear hF hx hcs hX hd
  go_enter Tryz.func18, Tryz.ntmps18
  go_wp2_with fail
  refine Hx.out.mono ?_
  rintro e w2 ⟨rfl, hF2⟩
  have HF2 := Lib.hid (HF.out.trans' hF2)
  clear hF2
  go_wp2_with fail
  go_ret
  refine ⟨?_, HF2.out⟩
  have hs : (ByteArray.mk #[115, 104, 97, 50, 53, 54, 58]) ++ (ByteArray.mk X.toArray) = ⟨(sSha ++ X).toArray⟩ := by
    apply ByteArray.ext
    simp [sSha]
  simp [hs]
set_option maxRecDepth 100000 in
set_option maxHeartbeats 1000000 in
theorem kKey_c (d : Bs) (w : World) (hd : d.length = 32) :
    Calls Tryz.prog 20 #[.agg (Lib.byteCells d).toArray] w fun e w' => e = .returned (.string ⟨(sKey ++ hexS d).toArray⟩) ∧ Fr NoB w w' := by
  have hx := @hex_c ⟨w.heap.size + 1⟩ (fun _ => True) d (.slice (some ⟨w.heap.size, 0, none⟩) 32 32) (w.alloc (.cells (Lib.byteCells d).toArray 24)) ⟨some ⟨w.heap.size, 0, none⟩, 32, by rw [hd], by omega, .inr ⟨w.heap.size, 0, (Lib.byteCells d).toArray, _, _, rfl, trivial, ⟨heap_alloc_new w _, .inr (Nat.lt_succ_self _)⟩, fun j hj => by simp [Lib.byteCells, hj]⟩⟩ (by omega)
  obtain ⟨cs, hcs⟩ : ∃ cs, (Lib.byteCells d).toArray = cs := ⟨_, rfl⟩
  have hsz : cs.size = 32 := by rw [← hcs]; simp [Lib.byteCells, hd]
  rw [hcs] at hx ⊢
  have hxl : (hexS d).length ≤ 100 := by rw [hexS_len]; omega
  obtain ⟨X, hX⟩ : ∃ X, hexS d = X := ⟨_, rfl⟩
  rw [hX] at hx hxl ⊢
  have hF := (Fr.refl (M := NoB)).alloc (w := w) (.cells cs 24)
  have HF := Lib.hid hF
  have Hx := Lib.hid hx
  clear hF hx hcs hX hd
  go_enter Tryz.func20, Tryz.ntmps20
  go_wp2_with fail
  refine Hx.out.mono ?_
  rintro e w2 ⟨rfl, hF2⟩
  have HF2 := Lib.hid (HF.out.trans' hF2)
  clear hF2
  go_wp2_with fail
  go_ret
  refine ⟨?_, HF2.out⟩
  have hs : (ByteArray.mk #[107, 101, 121, 58]) ++ (ByteArray.mk X.toArray) = ⟨(sKey ++ X).toArray⟩ := by
    apply ByteArray.ext
    simp [sKey]
  simp [hs]
set_option maxRecDepth 100000 in
set_option maxHeartbeats 1000000 in
theorem rDigest_c (d : Bs) (w : World) (hd : d.length = 32) :
    Calls Tryz.prog 19 #[.agg (Lib.byteCells d).toArray] w fun e w' => e = .returned (.string ⟨(sSha ++ hexS d).toArray⟩) ∧ Fr NoB w w' := by
  have hx := @refHex_c ⟨w.heap.size + 1⟩ (fun _ => True) d (.slice (some ⟨w.heap.size, 0, none⟩) 32 32) (w.alloc (.cells (Lib.byteCells d).toArray 23)) ⟨some ⟨w.heap.size, 0, none⟩, 32, by rw [hd], by omega, .inr ⟨w.heap.size, 0, (Lib.byteCells d).toArray, _, _, rfl, trivial, ⟨heap_alloc_new w _, .inr (Nat.lt_succ_self _)⟩, fun j hj => by simp [Lib.byteCells, hj]⟩⟩ (by omega)
  obtain ⟨cs, hcs⟩ : ∃ cs, (Lib.byteCells d).toArray = cs := ⟨_, rfl⟩
  have hsz : cs.size = 32 := by rw [← hcs]; simp [Lib.byteCells, hd]
  rw [hcs] at hx ⊢
  have hxl : (hexS d).length ≤ 100 := by rw [hexS_len]; omega
  obtain ⟨X, hX⟩ : ∃ X, hexS d = X := ⟨_, rfl⟩
  rw [hX] at hx hxl ⊢
  have hF := (Fr.refl (M := NoB)).alloc (w := w) (.cells cs 23)
  have HF := Lib.hid hF
  have Hx := Lib.hid hx
  clear hF hx hcs hX hd
  go_enter Tryz.func19, Tryz.ntmps19
  go_wp2_with fail
  refine Hx.out.mono ?_
  rintro e w2 ⟨rfl, hF2⟩
  have HF2 := Lib.hid (HF.out.trans' hF2)
  clear hF2
  go_wp2_with fail
  go_ret
  refine ⟨?_, HF2.out⟩
  have hs : (ByteArray.mk #[115, 104, 97, 50, 53, 54, 58]) ++ (ByteArray.mk X.toArray) = ⟨(sSha ++ X).toArray⟩ := by
    apply ByteArray.ext
    simp [sSha]
  simp [hs]
set_option maxRecDepth 100000 in
set_option maxHeartbeats 1000000 in
theorem rKey_c (d : Bs) (w : World) (hd : d.length = 32) :
    Calls Tryz.prog 21 #[.agg (Lib.byteCells d).toArray] w fun e w' => e = .returned (.string ⟨(sKey ++ hexS d).toArray⟩) ∧ Fr NoB w w' := by
  have hx := @refHex_c ⟨w.heap.size + 1⟩ (fun _ => True) d (.slice (some ⟨w.heap.size, 0, none⟩) 32 32) (w.alloc (.cells (Lib.byteCells d).toArray 24)) ⟨some ⟨w.heap.size, 0, none⟩, 32, by rw [hd], by omega, .inr ⟨w.heap.size, 0, (Lib.byteCells d).toArray, _, _, rfl, trivial, ⟨heap_alloc_new w _, .inr (Nat.lt_succ_self _)⟩, fun j hj => by simp [Lib.byteCells, hj]⟩⟩ (by omega)
  obtain ⟨cs, hcs⟩ : ∃ cs, (Lib.byteCells d).toArray = cs := ⟨_, rfl⟩
  have hsz : cs.size = 32 := by rw [← hcs]; simp [Lib.byteCells, hd]
  rw [hcs] at hx ⊢
  have hxl : (hexS d).length ≤ 100 := by rw [hexS_len]; omega
  obtain ⟨X, hX⟩ : ∃ X, hexS d = X := ⟨_, rfl⟩
  rw [hX] at hx hxl ⊢
  have hF := (Fr.refl (M := NoB)).alloc (w := w) (.cells cs 24)
  have HF := Lib.hid hF
  have Hx := Lib.hid hx
  clear hF hx hcs hX hd
  go_enter Tryz.func21, Tryz.ntmps21
  go_wp2_with fail
  refine Hx.out.mono ?_
  rintro e w2 ⟨rfl, hF2⟩
  have HF2 := Lib.hid (HF.out.trans' hF2)
  clear hF2
  go_wp2_with fail
  go_ret
  refine ⟨?_, HF2.out⟩
  have hs : (ByteArray.mk #[107, 101, 121, 58]) ++ (ByteArray.mk X.toArray) = ⟨(sKey ++ X).toArray⟩ := by
    apply ByteArray.ext
    simp [sKey]
  simp [hs]
theorem kIdentity_c (s : Bs) (w : World) (hlen : s.length ≤ 1000000000) :
    Calls Tryz.prog 22 #[.string ⟨s.toArray⟩] w fun e w' => e = .returned (.string ⟨(sId ++ s).toArray⟩) ∧ w = w' := by
  have hsz : (ByteArray.mk s.toArray).size = s.length := rfl
  go_enter Tryz.func22, Tryz.ntmps22
  go_wp2_with fail
  go_ret
  refine ⟨?_, rfl⟩
  have hs : (ByteArray.mk #[105, 100, 58]) ++ (ByteArray.mk s.toArray) = ⟨(sId ++ s).toArray⟩ := by
    apply ByteArray.ext
    simp [sId]
  simp [hs]
end Go.Proofs.YtcddlemkimbkcaaGreatDoor
