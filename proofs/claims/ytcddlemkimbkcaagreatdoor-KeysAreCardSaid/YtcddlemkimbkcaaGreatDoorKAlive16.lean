/-
  The walk of chapter 16's fixed fact.
-/
import Derived.Test.YtcddlemkimbkcaaGreatDoorKKeysOf
import Derived.OrdersHeld
import Derived.Deep.RegionHeld3
namespace Go.Proofs.YtcddlemkimbkcaaGreatDoor
set_option linter.unusedVariables false
set_option linter.unusedSimpArgs false
set_option linter.unusedSectionVars false
open Go.RowKit Go.Sort
variable [OldK]
def alice : Bs := [97, 108, 105, 99, 101]
def sgAlice : Sg := ⟨alice, zero32, zero64⟩
def enAlice : En := ⟨1, zero32, [], [], 0, [], zero32, [sgAlice]⟩
theorem enAlice_ok : enAlice.ok := ⟨rfl, rfl, fun s hs => by
  simp only [enAlice, List.mem_singleton] at hs
  subst hs
  exact ⟨rfl, rfl⟩⟩
set_option maxRecDepth 100000 in
set_option maxHeartbeats 2000000 in
theorem one16_c (w : World) : Calls Tryz.prog 57 #[] w fun e w' => (∃ g, e = .returned (.agg (enAlice.cells (.slice none 0 0) (.slice (some ⟨g, 0, none⟩) 1 1)).toArray) ∧ GS (fun k => w.heap.size ≤ k) [sgAlice] (.slice (some ⟨g, 0, none⟩) 1 1) w') ∧ Fr NoB w w' := by
  obtain ⟨d, hu, hd⟩ := Tryz.rowEntry
  have Hu := Lib.hid hu
  have Hd := Lib.hid hd
  clear hu hd
  have hA : (w.alloc (.cells Tryz.zeroCells39 39)).heap.size = w.heap.size + 1 := by rw [World.size_alloc]
  have hz1 := heap_alloc_new w (.cells Tryz.zeroCells39 39)
  have hz2 := heap_alloc_new (w.alloc (.cells Tryz.zeroCells39 39)) (.cells sgAlice.cells 54)
  rw [hA] at hz2
  have hz3 : ((w.alloc (.cells Tryz.zeroCells39 39)).alloc (.cells sgAlice.cells 54)).heap[w.heap.size]? = some (.cells Tryz.zeroCells39 39) := by
    rw [Below.heap_alloc _ _ _ (by omega)]; exact hz1
  have HTq := Lib.hid (show ((w.alloc (.cells Tryz.zeroCells39 39)).alloc (.cells sgAlice.cells 54)).there w.heap.size 0 (enAlice.cells (.slice none 0 0) (.slice (some ⟨w.heap.size + 1, 0, none⟩) 1 1)).toArray.size from there_block hz3 (by rw [List.size_toArray, En.size enAlice_ok]; exact Nat.le_refl _))
  have Hz := Lib.hid (show (Tryz.prog.info? 39).map (·.size) = some (enAlice.cells (.slice none 0 0) (.slice (some ⟨w.heap.size + 1, 0, none⟩) 1 1)).length by rw [Tryz.sizeEntry, En.size enAlice_ok])
  have Hz2 := Lib.hid (show (Tryz.prog.info? 39).map (·.size) = some (enAlice.cells (.slice none 0 0) (.slice (some ⟨w.heap.size + 1, 0, none⟩) 1 1)).toArray.size by rw [Tryz.sizeEntry, List.size_toArray, En.size enAlice_ok])
  have HO := Lib.hid (En.one (e := enAlice) (pv := .slice none 0 0) (sv := .slice (some ⟨w.heap.size + 1, 0, none⟩) 1 1) rfl rfl)
  have HA := Lib.hid hA
  have Hz3 := Lib.hid hz2
  clear hA hz1 hz2 hz3
  go_enter Tryz.func57, Tryz.ntmps57
  go_wp2_with (first
      | ((with_reducible refine wpList_buildTo ?_ 54 _ rfl _ rfl sgAlice.cells ?_ ?_); rfl; kernel_rfl)
      | ((with_reducible refine Great.wpList_buildSliceTo ?_ 37 54 1 _ rfl (w.heap.size + 1) HA.out _ rfl Tryz.underlying37 sgAlice.cells ?_ ?_); rfl; kernel_rfl)
      | ((with_reducible refine wpList_buildTo ?_ 39 _ rfl _ rfl (enAlice.cells (.slice none 0 0) (.slice (some ⟨w.heap.size + 1, 0, none⟩) 1 1)).toArray ?_ ?_); rfl; kernel_rfl)
      | ((with_reducible refine wpList_store_mid ?_ 39 _ _ rfl w.heap.size 0 (enAlice.cells (.slice none 0 0) (.slice (some ⟨w.heap.size + 1, 0, none⟩) 1 1)).toArray ?_ ?_ HTq.out Hz2.out HO.out ?_); rfl; rfl; rfl))
  obtain ⟨C, hC⟩ : ∃ C, enAlice.cells (.slice none 0 0) (.slice (some ⟨w.heap.size + 1, 0, none⟩) 1 1) = C := ⟨_, rfl⟩
  have HC := Lib.hid hC
  rw [hC] at HTq Hz ⊢
  have hld := run_loadVar_mid (P := Tryz.prog) _ w.heap.size 0 39 C d (World.rangeAt_setCells_same _ w.heap.size 0 C (by simpa using HTq.out)) Hu.out Hd.out Hz.out
  have hF : Fr NoB w ((((w.alloc (.cells Tryz.zeroCells39 39)).alloc (.cells sgAlice.cells 54)).setCells w.heap.size 0 C)) := ((Fr.refl.alloc _).alloc _).trans (setCells_fr _ _ _ _) (fun k _ hm => .inr (by omega))
  refine bodyPost_ret (v := .agg C.toArray) ?_ rfl ⟨⟨w.heap.size + 1, by rw [HC.out], ?_⟩, hF⟩
  · rw [results_cell1 rfl]
    simp [asAddr, Result.andThen, hld, Act.put]
  · have h0 : GS (fun k => w.heap.size + 1 ≤ k) [sgAlice] (.slice (some ⟨w.heap.size + 1, 0, none⟩) 1 1) ((w.alloc (.cells Tryz.zeroCells39 39)).alloc (.cells sgAlice.cells 54)) := by
      refine ⟨_, _, rfl, Nat.le_refl _, .inr ⟨w.heap.size + 1, 0, rfl, Nat.le_refl _, get_lt Hz3.out, fun i hi => ?_⟩⟩
      obtain rfl : i = 0 := by simpa using hi
      exact range_block Hz3.out
    obtain ⟨a, c, e1, e2, h | ⟨b, o, e3, hb, hrest⟩⟩ := h0.fr (setCells_fr w.heap.size C 0 _) (fun k _ hk hm => by omega)
    · exact absurd h.1 (by simp)
    · exact ⟨a, c, e1, e2, .inr ⟨b, o, e3, by omega, hrest⟩⟩
theorem check_alice : pCheck (fun _ => false) enAlice = true := by
  have h1 : pSigned [sgAlice] = true := by decide +kernel
  have h2 : enEq (pBlank enAlice) (enOnly 1 [sgAlice]) = true := by
    unfold enEq pBlank enAlice enOnly
    simp [sgsEq_same]
  unfold pCheck
  show (pOwn _ enAlice && (pSigned [sgAlice] && enEq (pBlank enAlice) (enOnly 1 [sgAlice]))) = _
  rw [h1, h2]
  rfl
def kAlice : Bs := sId ++ alice
def kZero : Bs := sSha ++ hexS zero32
theorem keys_alice : pKeys1 enAlice = [kAlice, kZero] := by
  have h1 : enAlice.sigs.map kSigner ++ [sSha ++ hexS enAlice.digest] = [kAlice, kZero] := rfl
  unfold pKeys1
  rw [h1]
  have hle : kAlice ≤ kZero := by decide +kernel
  have h2 : sortS [kAlice, kZero] = [kAlice, kZero] := by
    unfold sortS
    refine List.mergeSort_of_pairwise ?_
    simp [hle]
  rw [h2]
  refine Lib.compact_all _ (fun j hj => ?_)
  have : j = 0 ∨ j = 1 := by simp at hj; omega
  rcases this with rfl | rfl
  · exact Lib.keeps_lt_one _ 0 (by omega)
  · refine Lib.keeps_pos ?_
    show kZero ≠ kAlice
    decide +kernel
set_option maxRecDepth 100000 in
set_option maxHeartbeats 2000000 in
theorem alive16_c (w : World) : Calls Tryz.prog 15 #[] w fun e w' => e = .returned (.bool true) ∧ Fr NoB w w' := by
  have Ho := Lib.hid (one16_c w)
  have Hd := Lib.hid (fun W => kDigest_c zero32 W rfl)
  obtain ⟨K0, hK0⟩ : ∃ K, kAlice = K := ⟨_, rfl⟩
  obtain ⟨K1, hK1⟩ : ∃ K, kZero = K := ⟨_, rfl⟩
  have HK := Lib.hid (show pKeys1 enAlice = [K0, K1] by rw [← hK0, ← hK1]; exact keys_alice)
  have q0 : (K0 == [105, 100, 58, 97, 108, 105, 99, 101]) = true := by rw [← hK0]; rfl
  have q1 : K1.length = 71 := by rw [← hK1]; rfl
  have Hd2 : Hid (∀ W, Calls Tryz.prog 18 #[.agg #[.int .u8 0, .int .u8 0, .int .u8 0, .int .u8 0, .int .u8 0, .int .u8 0, .int .u8 0, .int .u8 0, .int .u8 0, .int .u8 0, .int .u8 0, .int .u8 0, .int .u8 0, .int .u8 0, .int .u8 0, .int .u8 0, .int .u8 0, .int .u8 0, .int .u8 0, .int .u8 0, .int .u8 0, .int .u8 0, .int .u8 0, .int .u8 0, .int .u8 0, .int .u8 0, .int .u8 0, .int .u8 0, .int .u8 0, .int .u8 0, .int .u8 0, .int .u8 0]] W fun e w' => e = .returned (.string ⟨K1.toArray⟩) ∧ Fr NoB W w') := Lib.hid (fun W => by rw [← hK1]; exact Hd.out W)
  clear hK0 hK1 Hd
  go_enter Tryz.func15, Tryz.ntmps15
  go_wp2_with fail
  refine Ho.out.mono ?_
  rintro e w1 ⟨⟨g, rfl, hgs⟩, hF1⟩
  have hof := keysOf1_c (fun _ => True) _ enAlice (.slice none 0 0) (.slice (some ⟨g, 0, none⟩) 1 1) w1 rfl enAlice_ok (SB.nil _ w1 0) hgs check_alice (Nat.zero_le _) (Nat.zero_le _) (Nat.zero_le _) (by show 1 ≤ 1000; omega) (fun s hs => by
    simp only [enAlice, List.mem_singleton] at hs
    subst hs
    show 5 ≤ 1000000; omega)
  rw [HK.out] at hof
  have Hof := Lib.hid hof
  have HF1 := Lib.hid hF1
  clear hgs hof hF1
  go_wp2_with fail
  refine Hof.out.mono ?_
  rintro r w2 ⟨⟨v, rfl, a, c, rfl, hc, h | ⟨b, o, rfl, hb, hbs, hcell⟩⟩, hF2⟩
  · exact absurd h.1 (by simp)
  have k0 := hcell 0 K0 rfl
  have k1 := hcell 1 K1 rfl
  rw [Nat.add_zero] at k0
  have HF2 := Lib.hid (HF1.out.trans' hF2)
  have hc2 : 2 ≤ c := hc
  clear hcell hF2 hc
  have HH := Lib.hid (show w2.drew.cell? ⟨b, o, none⟩ = some (.string ⟨K0.toArray⟩) ∧ w2.drew.cell? ⟨b, o + 1, none⟩ = some (.string ⟨K1.toArray⟩) from ⟨by simpa using k0, by simpa using k1⟩)
  clear k0 k1
  go_upto_region 2 with (fail)
  refine wp_region_held_drew (S := fun V => V.cell? ⟨b, o, none⟩ = some (.string ⟨K0.toArray⟩) ∧ V.cell? ⟨b, o + 1, none⟩ = some (.string ⟨K1.toArray⟩)) (by kernel_rfl) HH.out (fun hHeld => ?_)
  simp only [List.size_toArray, List.length_cons, List.length_nil]
  refine wpAnyH_take (i := 0) (v := ?_) rfl (by kernel_rfl) (by kernel_rfl) (by kernel_rfl) (fun _ _ _ h => h) (Or.inl ⟨by rfl, ?_⟩) hHeld ?_
  rotate_left
  · intro W hSw
    obtain ⟨hs0, hs1⟩ := hSw
    try simp only [List.getElem_toArray, List.getElem_cons_zero, List.getElem_cons_succ]
    go_simp
    try rw [if_neg (by omega)]
    try with_reducible rfl
  try simp only [Act.put, List.setIfInBounds_toArray, List.set_cons_zero, List.set_cons_succ, List.getElem_toArray, List.getElem_cons_zero, List.getElem_cons_succ]
  refine wpAnyH_take (i := 1) (v := ?_) rfl (by kernel_rfl) (by kernel_rfl) (by kernel_rfl) (fun _ _ _ h => h) (Or.inl ⟨by rfl, ?_⟩) hHeld ?_
  rotate_left
  · intro W hSw
    obtain ⟨hs0, hs1⟩ := hSw
    try simp only [List.getElem_toArray, List.getElem_cons_zero, List.getElem_cons_succ]
    go_simp
    try rw [if_neg (by omega)]
    try with_reducible rfl
  try simp only [Act.put, List.setIfInBounds_toArray, List.set_cons_zero, List.set_cons_succ, List.getElem_toArray, List.getElem_cons_zero, List.getElem_cons_succ]
  refine wpAnyH_take (i := 2) (v := ?_) rfl (by kernel_rfl) (by kernel_rfl) (by kernel_rfl) (fun _ _ _ h => h) (Or.inl ⟨by rfl, ?_⟩) hHeld ?_
  rotate_left
  · intro W hSw
    obtain ⟨hs0, hs1⟩ := hSw
    try simp only [List.getElem_toArray, List.getElem_cons_zero, List.getElem_cons_succ]
    go_simp
    try rw [if_neg (by omega)]
    try with_reducible rfl
  try simp only [Act.put, List.setIfInBounds_toArray, List.set_cons_zero, List.set_cons_succ, List.getElem_toArray, List.getElem_cons_zero, List.getElem_cons_succ]
  refine wpAnyH_take (i := 3) (v := ?_) rfl (by kernel_rfl) (by kernel_rfl) (by kernel_rfl) (fun _ _ _ h => h) (Or.inl ⟨by rfl, ?_⟩) hHeld ?_
  rotate_left
  · intro W hSw
    obtain ⟨hs0, hs1⟩ := hSw
    try simp only [List.getElem_toArray, List.getElem_cons_zero, List.getElem_cons_succ]
    go_simp
    try rw [if_neg (by omega)]
    try with_reducible rfl
  try simp only [Act.put, List.setIfInBounds_toArray, List.set_cons_zero, List.set_cons_succ, List.getElem_toArray, List.getElem_cons_zero, List.getElem_cons_succ]
  refine wpAnyH_take (i := 4) (v := ?_) rfl (by kernel_rfl) (by kernel_rfl) (by kernel_rfl) (fun _ _ _ h => h) (Or.inl ⟨by rfl, ?_⟩) hHeld ?_
  rotate_left
  · intro W hSw
    obtain ⟨hs0, hs1⟩ := hSw
    try simp only [List.getElem_toArray, List.getElem_cons_zero, List.getElem_cons_succ]
    go_simp
    try rw [if_neg (by omega)]
    try with_reducible rfl
  try simp only [Act.put, List.setIfInBounds_toArray, List.set_cons_zero, List.set_cons_succ, List.getElem_toArray, List.getElem_cons_zero, List.getElem_cons_succ]
  refine wpAnyH_take (i := 5) (v := ?_) rfl (by kernel_rfl) (by kernel_rfl) (by kernel_rfl) (fun _ _ _ h => h) (Or.inl ⟨by rfl, ?_⟩) hHeld ?_
  rotate_left
  · intro W hSw
    obtain ⟨hs0, hs1⟩ := hSw
    try simp only [List.getElem_toArray, List.getElem_cons_zero, List.getElem_cons_succ]
    go_simp
    try rw [if_neg (by omega)]
    try with_reducible rfl
  try simp only [Act.put, List.setIfInBounds_toArray, List.set_cons_zero, List.set_cons_succ, List.getElem_toArray, List.getElem_cons_zero, List.getElem_cons_succ]
  refine wpAnyH_take (i := 6) (v := ?_) rfl (by kernel_rfl) (by kernel_rfl) (by kernel_rfl) (fun _ _ _ h => h) (Or.inl ⟨by rfl, ?_⟩) hHeld ?_
  rotate_left
  · intro W hSw
    obtain ⟨hs0, hs1⟩ := hSw
    try simp only [List.getElem_toArray, List.getElem_cons_zero, List.getElem_cons_succ]
    go_simp
    try rw [if_neg (by omega)]
    try with_reducible rfl
  try simp only [Act.put, List.setIfInBounds_toArray, List.set_cons_zero, List.set_cons_succ, List.getElem_toArray, List.getElem_cons_zero, List.getElem_cons_succ]
  refine wpAnyH_take (i := 7) (v := ?_) rfl (by kernel_rfl) (by kernel_rfl) (by kernel_rfl) (fun _ _ _ h => h) (Or.inl ⟨by rfl, ?_⟩) hHeld ?_
  rotate_left
  · intro W hSw
    obtain ⟨hs0, hs1⟩ := hSw
    try simp only [List.getElem_toArray, List.getElem_cons_zero, List.getElem_cons_succ]
    go_simp
    try rw [if_neg (by omega)]
    try with_reducible rfl
  try simp only [Act.put, List.setIfInBounds_toArray, List.set_cons_zero, List.set_cons_succ, List.getElem_toArray, List.getElem_cons_zero, List.getElem_cons_succ]
  refine wpAnyH_take (i := 8) (v := ?_) rfl (by kernel_rfl) (by kernel_rfl) (by kernel_rfl) (fun _ _ _ h => h) (Or.inl ⟨by rfl, ?_⟩) hHeld ?_
  rotate_left
  · intro W hSw
    obtain ⟨hs0, hs1⟩ := hSw
    try simp only [List.getElem_toArray, List.getElem_cons_zero, List.getElem_cons_succ]
    go_simp
    try rw [if_neg (by omega)]
    try with_reducible rfl
  try simp only [Act.put, List.setIfInBounds_toArray, List.set_cons_zero, List.set_cons_succ, List.getElem_toArray, List.getElem_cons_zero, List.getElem_cons_succ]
  refine wpAnyH_take (i := 9) (v := ?_) rfl (by kernel_rfl) (by kernel_rfl) (by kernel_rfl) (fun _ _ _ h => h) (Or.inl ⟨by rfl, ?_⟩) hHeld ?_
  rotate_left
  · intro W hSw
    obtain ⟨hs0, hs1⟩ := hSw
    try simp only [List.getElem_toArray, List.getElem_cons_zero, List.getElem_cons_succ]
    go_simp
    try rw [if_neg (by omega)]
    try with_reducible rfl
  try simp only [Act.put, List.setIfInBounds_toArray, List.set_cons_zero, List.set_cons_succ, List.getElem_toArray, List.getElem_cons_zero, List.getElem_cons_succ]
  refine wpAnyH_take (i := 10) (v := ?_) rfl (by kernel_rfl) (by kernel_rfl) (by kernel_rfl) (fun _ _ _ h => h) (Or.inl ⟨by rfl, ?_⟩) hHeld ?_
  rotate_left
  · intro W hSw
    obtain ⟨hs0, hs1⟩ := hSw
    try simp only [List.getElem_toArray, List.getElem_cons_zero, List.getElem_cons_succ]
    go_simp
    try rw [if_neg (by omega)]
    try with_reducible rfl
  try simp only [Act.put, List.setIfInBounds_toArray, List.set_cons_zero, List.set_cons_succ, List.getElem_toArray, List.getElem_cons_zero, List.getElem_cons_succ]
  refine wpAnyH_take (i := 11) (v := ?_) rfl (by kernel_rfl) (by kernel_rfl) (by kernel_rfl) (fun _ _ _ h => h) (Or.inl ⟨by rfl, ?_⟩) hHeld ?_
  rotate_left
  · intro W hSw
    obtain ⟨hs0, hs1⟩ := hSw
    try simp only [List.getElem_toArray, List.getElem_cons_zero, List.getElem_cons_succ]
    go_simp
    try rw [if_neg (by omega)]
    try with_reducible rfl
  try simp only [Act.put, List.setIfInBounds_toArray, List.set_cons_zero, List.set_cons_succ, List.getElem_toArray, List.getElem_cons_zero, List.getElem_cons_succ]
  refine wpAnyH_take (i := 12) (v := ?_) rfl (by kernel_rfl) (by kernel_rfl) (by kernel_rfl) (fun _ _ _ h => h) (Or.inl ⟨by rfl, ?_⟩) hHeld ?_
  rotate_left
  · intro W hSw
    obtain ⟨hs0, hs1⟩ := hSw
    try simp only [List.getElem_toArray, List.getElem_cons_zero, List.getElem_cons_succ]
    go_simp
    try rw [if_neg (by omega)]
    try with_reducible rfl
  try simp only [Act.put, List.setIfInBounds_toArray, List.set_cons_zero, List.set_cons_succ, List.getElem_toArray, List.getElem_cons_zero, List.getElem_cons_succ]
  refine wpAnyH_take (i := 13) (v := ?_) rfl (by kernel_rfl) (by kernel_rfl) (by kernel_rfl) (fun _ _ _ h => h) (Or.inl ⟨by rfl, ?_⟩) hHeld ?_
  rotate_left
  · intro W hSw
    obtain ⟨hs0, hs1⟩ := hSw
    try simp only [List.getElem_toArray, List.getElem_cons_zero, List.getElem_cons_succ]
    go_simp
    try rw [if_neg (by omega)]
    try with_reducible rfl
  try simp only [Act.put, List.setIfInBounds_toArray, List.set_cons_zero, List.set_cons_succ, List.getElem_toArray, List.getElem_cons_zero, List.getElem_cons_succ]
  refine wpAnyH_take (i := 14) (v := ?_) rfl (by kernel_rfl) (by kernel_rfl) (by kernel_rfl) (fun _ _ _ h => h) (Or.inl ⟨by rfl, ?_⟩) hHeld ?_
  rotate_left
  · intro W hSw
    obtain ⟨hs0, hs1⟩ := hSw
    try simp only [List.getElem_toArray, List.getElem_cons_zero, List.getElem_cons_succ]
    go_simp
    try rw [if_neg (by omega)]
    try with_reducible rfl
  try simp only [Act.put, List.setIfInBounds_toArray, List.set_cons_zero, List.set_cons_succ, List.getElem_toArray, List.getElem_cons_zero, List.getElem_cons_succ]
  refine wpAnyH_take (i := 15) (v := ?_) rfl (by kernel_rfl) (by kernel_rfl) (by kernel_rfl) (fun _ _ _ h => h) (Or.inl ⟨by rfl, ?_⟩) hHeld ?_
  rotate_left
  · intro W hSw
    obtain ⟨hs0, hs1⟩ := hSw
    try simp only [List.getElem_toArray, List.getElem_cons_zero, List.getElem_cons_succ]
    go_simp
    try rw [if_neg (by omega)]
    try with_reducible rfl
  try simp only [Act.put, List.setIfInBounds_toArray, List.set_cons_zero, List.set_cons_succ, List.getElem_toArray, List.getElem_cons_zero, List.getElem_cons_succ]
  refine wpAnyH_take (i := 16) (v := ?_) rfl (by kernel_rfl) (by kernel_rfl) (by kernel_rfl) (fun _ _ _ h => h) (Or.inl ⟨by rfl, ?_⟩) hHeld ?_
  rotate_left
  · intro W hSw
    obtain ⟨hs0, hs1⟩ := hSw
    try simp only [List.getElem_toArray, List.getElem_cons_zero, List.getElem_cons_succ]
    go_simp
    try rw [if_neg (by omega)]
    try with_reducible rfl
  try simp only [Act.put, List.setIfInBounds_toArray, List.set_cons_zero, List.set_cons_succ, List.getElem_toArray, List.getElem_cons_zero, List.getElem_cons_succ]
  refine wpAnyH_take (i := 17) (v := ?_) rfl (by kernel_rfl) (by kernel_rfl) (by kernel_rfl) (fun _ _ _ h => h) (Or.inl ⟨by rfl, ?_⟩) hHeld ?_
  rotate_left
  · intro W hSw
    obtain ⟨hs0, hs1⟩ := hSw
    try simp only [List.getElem_toArray, List.getElem_cons_zero, List.getElem_cons_succ]
    go_simp
    try rw [if_neg (by omega)]
    try with_reducible rfl
  try simp only [Act.put, List.setIfInBounds_toArray, List.set_cons_zero, List.set_cons_succ, List.getElem_toArray, List.getElem_cons_zero, List.getElem_cons_succ]
  refine wpAnyH_ready (rs := [18]) (by kernel_rfl) (by simp) (AllReadyH.cons rfl (fun K hK => ?_) AllReadyH.nil)
  try simp only [List.getElem_toArray, List.getElem_cons_zero, List.getElem_cons_succ]
  go_simp
  refine (Hd2.out _).mono ?_; rintro r w3 ⟨rfl, hF3⟩
  refine hK.out _ _ ⟨Fr.cell hF3 hHeld.1, Fr.cell hF3 hHeld.2⟩ (fun hHeld => ?_)
  clear hK K
  try simp only [Act.put, List.setIfInBounds_toArray, List.set_cons_zero, List.set_cons_succ, List.getElem_toArray, List.getElem_cons_zero, List.getElem_cons_succ]
  have HF3 := Lib.hid (HF2.out.drew.trans' hF3)
  clear hF3
  refine wpAnyH_take (i := 19) (v := ?_) rfl (by kernel_rfl) (by kernel_rfl) (by kernel_rfl) (fun _ _ _ h => h) (Or.inl ⟨by rfl, ?_⟩) hHeld ?_
  rotate_left
  · intro W hSw
    obtain ⟨hs0, hs1⟩ := hSw
    try simp only [List.getElem_toArray, List.getElem_cons_zero, List.getElem_cons_succ]
    go_simp
    try rw [if_neg (by omega)]
    try with_reducible rfl
  try simp only [Act.put, List.setIfInBounds_toArray, List.set_cons_zero, List.set_cons_succ, List.getElem_toArray, List.getElem_cons_zero, List.getElem_cons_succ]
  refine wpAnyH_take (i := 20) (v := ?_) rfl (by kernel_rfl) (by kernel_rfl) (by kernel_rfl) (fun _ _ _ h => h) (Or.inl ⟨by rfl, ?_⟩) hHeld ?_
  rotate_left
  · intro W hSw
    obtain ⟨hs0, hs1⟩ := hSw
    try simp only [List.getElem_toArray, List.getElem_cons_zero, List.getElem_cons_succ]
    go_simp
    try rw [if_neg (by omega)]
    try with_reducible rfl
  try simp only [Act.put, List.setIfInBounds_toArray, List.set_cons_zero, List.set_cons_succ, List.getElem_toArray, List.getElem_cons_zero, List.getElem_cons_succ]
  refine wpAnyH_take (i := 21) (v := ?_) rfl (by kernel_rfl) (by kernel_rfl) (by kernel_rfl) (fun _ _ _ h => h) (Or.inl ⟨by rfl, ?_⟩) hHeld ?_
  rotate_left
  · intro W hSw
    obtain ⟨hs0, hs1⟩ := hSw
    try simp only [List.getElem_toArray, List.getElem_cons_zero, List.getElem_cons_succ]
    go_simp
    try rw [if_neg (by omega)]
    try with_reducible rfl
  try simp only [Act.put, List.setIfInBounds_toArray, List.set_cons_zero, List.set_cons_succ, List.getElem_toArray, List.getElem_cons_zero, List.getElem_cons_succ]
  refine wpAnyH_take (i := 22) (v := ?_) rfl (by kernel_rfl) (by kernel_rfl) (by kernel_rfl) (fun _ _ _ h => h) (Or.inl ⟨by rfl, ?_⟩) hHeld ?_
  rotate_left
  · intro W hSw
    obtain ⟨hs0, hs1⟩ := hSw
    try simp only [List.getElem_toArray, List.getElem_cons_zero, List.getElem_cons_succ]
    go_simp
    try rw [if_neg (by omega)]
    try with_reducible rfl
  try simp only [Act.put, List.setIfInBounds_toArray, List.set_cons_zero, List.set_cons_succ, List.getElem_toArray, List.getElem_cons_zero, List.getElem_cons_succ]
  refine wpAnyH_take (i := 23) (v := ?_) rfl (by kernel_rfl) (by kernel_rfl) (by kernel_rfl) (fun _ _ _ h => h) (Or.inl ⟨by rfl, ?_⟩) hHeld ?_
  rotate_left
  · intro W hSw
    obtain ⟨hs0, hs1⟩ := hSw
    try simp only [List.getElem_toArray, List.getElem_cons_zero, List.getElem_cons_succ]
    go_simp
    try rw [if_neg (by omega)]
    try with_reducible rfl
  try simp only [Act.put, List.setIfInBounds_toArray, List.set_cons_zero, List.set_cons_succ, List.getElem_toArray, List.getElem_cons_zero, List.getElem_cons_succ]
  refine wpAnyH_take (i := 24) (v := ?_) rfl (by kernel_rfl) (by kernel_rfl) (by kernel_rfl) (fun _ _ _ h => h) (Or.inl ⟨by rfl, ?_⟩) hHeld ?_
  rotate_left
  · intro W hSw
    obtain ⟨hs0, hs1⟩ := hSw
    try simp only [List.getElem_toArray, List.getElem_cons_zero, List.getElem_cons_succ]
    go_simp
    try rw [if_neg (by omega)]
    try with_reducible rfl
  try simp only [Act.put, List.setIfInBounds_toArray, List.set_cons_zero, List.set_cons_succ, List.getElem_toArray, List.getElem_cons_zero, List.getElem_cons_succ]
  refine wpAnyH_take (i := 25) (v := ?_) rfl (by kernel_rfl) (by kernel_rfl) (by kernel_rfl) (fun _ _ _ h => h) (Or.inl ⟨by rfl, ?_⟩) hHeld ?_
  rotate_left
  · intro W hSw
    obtain ⟨hs0, hs1⟩ := hSw
    try simp only [List.getElem_toArray, List.getElem_cons_zero, List.getElem_cons_succ]
    go_simp
    try rw [if_neg (by omega)]
    try with_reducible rfl
  try simp only [Act.put, List.setIfInBounds_toArray, List.set_cons_zero, List.set_cons_succ, List.getElem_toArray, List.getElem_cons_zero, List.getElem_cons_succ]
  refine wpAnyH_take (i := 26) (v := ?_) rfl (by kernel_rfl) (by kernel_rfl) (by kernel_rfl) (fun _ _ _ h => h) (Or.inl ⟨by rfl, ?_⟩) hHeld ?_
  rotate_left
  · intro W hSw
    obtain ⟨hs0, hs1⟩ := hSw
    try simp only [List.getElem_toArray, List.getElem_cons_zero, List.getElem_cons_succ]
    go_simp
    try rw [if_neg (by omega)]
    try with_reducible rfl
  try simp only [Act.put, List.setIfInBounds_toArray, List.set_cons_zero, List.set_cons_succ, List.getElem_toArray, List.getElem_cons_zero, List.getElem_cons_succ]
  refine wpAnyH_take (i := 27) (v := ?_) rfl (by kernel_rfl) (by kernel_rfl) (by kernel_rfl) (fun _ _ _ h => h) (Or.inl ⟨by rfl, ?_⟩) hHeld ?_
  rotate_left
  · intro W hSw
    obtain ⟨hs0, hs1⟩ := hSw
    try simp only [List.getElem_toArray, List.getElem_cons_zero, List.getElem_cons_succ]
    go_simp
    try rw [if_neg (by omega)]
    try with_reducible rfl
  try simp only [Act.put, List.setIfInBounds_toArray, List.set_cons_zero, List.set_cons_succ, List.getElem_toArray, List.getElem_cons_zero, List.getElem_cons_succ]
  refine wpAnyH_take (i := 28) (v := ?_) rfl (by kernel_rfl) (by kernel_rfl) (by kernel_rfl) (fun _ _ _ h => h) (Or.inl ⟨by rfl, ?_⟩) hHeld ?_
  rotate_left
  · intro W hSw
    obtain ⟨hs0, hs1⟩ := hSw
    try simp only [List.getElem_toArray, List.getElem_cons_zero, List.getElem_cons_succ]
    go_simp
    try rw [if_neg (by omega)]
    try with_reducible rfl
  try simp only [Act.put, List.setIfInBounds_toArray, List.set_cons_zero, List.set_cons_succ, List.getElem_toArray, List.getElem_cons_zero, List.getElem_cons_succ]
  refine wpAnyH_done (by kernel_rfl) ?_ _
  clear hHeld
  go_wp2_with fail
  go_ret
  exact ⟨rfl, HF3.out⟩
end Go.Proofs.YtcddlemkimbkcaaGreatDoor
