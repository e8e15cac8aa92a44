/-
 The walks of bind's Bound, Spent, Key and New.
-/
import Derived.Test.YtcddlemkimbkcaaGreatDoorKTake
import Derived.Test.YtcddlemkimbkcaaGreatDoorKOwn
namespace Go.Proofs.YtcddlemkimbkcaaGreatDoor
set_option linter.unusedVariables false
set_option linter.unusedSimpArgs false
set_option linter.unusedSectionVars false
open Go.RowKit Go.Shelf
variable [OldK]
/-- a change in a block of its own -/
theorem chg_cells (c : Chg) : c.cells = [.int .i64 c.pos] ++ ([.bool c.has] ++ Lib.byteCells c.key) := rfl
set_option maxRecDepth 100000 in
set_option maxHeartbeats 2000000 in
theorem bound_c {base tb n bc bl : Nat} {t : Tb} {g lv : Bs → Option Value} (x : Bs) (w : World) (h : TBL base tb n bc bl t g lv w) (hx : x.length ≤ maxLen) :
 Calls Tryz.prog 27 #[.pointer (some ⟨tb, 0, none⟩), .string ⟨x.toArray⟩] w fun e w' => e = .returned (.tuple #[.agg (Lib.byteCells (t.last x).key).toArray, .bool (t.last x).has]) ∧ Fr NoB w w' := by
 have hlast := fun V (hV : Fr NoB w V) => last_c x V (h.keep hV) hx
 have hlok := h.lastok x
 have hTp : (w.alloc (.cells #[.int .u8 0, .int .u8 0, .int .u8 0, .int .u8 0, .int .u8 0, .int .u8 0, .int .u8 0, .int .u8 0, .int .u8 0, .int .u8 0, .int .u8 0, .int .u8 0, .int .u8 0, .int .u8 0, .int .u8 0, .int .u8 0, .int .u8 0, .int .u8 0, .int .u8 0, .int .u8 0, .int .u8 0, .int .u8 0, .int .u8 0, .int .u8 0, .int .u8 0, .int .u8 0, .int .u8 0, .int .u8 0, .int .u8 0, .int .u8 0, .int .u8 0, .int .u8 0] 24)).there w.heap.size 0 32 := there_block (heap_alloc_new w _) (Nat.le_refl _)
 have hF : Fr NoB w (w.alloc (.cells #[.int .u8 0, .int .u8 0, .int .u8 0, .int .u8 0, .int .u8 0, .int .u8 0, .int .u8 0, .int .u8 0, .int .u8 0, .int .u8 0, .int .u8 0, .int .u8 0, .int .u8 0, .int .u8 0, .int .u8 0, .int .u8 0, .int .u8 0, .int .u8 0, .int .u8 0, .int .u8 0, .int .u8 0, .int .u8 0, .int .u8 0, .int .u8 0, .int .u8 0, .int .u8 0, .int .u8 0, .int .u8 0, .int .u8 0, .int .u8 0, .int .u8 0, .int .u8 0] 24)) := Fr.refl.alloc _
 obtain ⟨lc, hlc⟩ : ∃ c, t.last x = c := ⟨_, rfl⟩
 simp only [hlc] at hlast
 rw [hlc] at hlok ⊢
 clear h hx hlc
 have hLc := chg_cells lc
 have hcs := Chg.size hlok
 have hc1 := Chg.one lc
 have hkl : (Lib.byteCells lc.key).length = 32 := by rw [byteCells_len]; exact hlok
 have hk1 := all_oneCell_toArray (cells_one lc.key)
 obtain ⟨LC, hLC⟩ : ∃ C, lc.cells = C := ⟨_, rfl⟩
 obtain ⟨KC, hKC⟩ : ∃ C, Lib.byteCells lc.key = C := ⟨_, rfl⟩
 obtain ⟨x0, hx0⟩ : ∃ C, lc.has = C := ⟨_, rfl⟩
 simp only [hLC] at hlast
 rw [hLC] at hLc hcs hc1
 rw [hKC, hx0] at hLc ⊢
 rw [hKC] at hkl hk1
 clear hLC hKC hx0 hlok
 have Hcs1 : Hid ((Tryz.prog.info? 117).map (·.size) = some LC.toArray.size) := Lib.hid (by rw [Tryz.sizeChg, List.size_toArray, hcs])
 have Hcs2 : Hid ((#[Value.int .i64 0, .bool false, .int .u8 0, .int .u8 0, .int .u8 0, .int .u8 0, .int .u8 0, .int .u8 0, .int .u8 0, .int .u8 0, .int .u8 0, .int .u8 0, .int .u8 0, .int .u8 0, .int .u8 0, .int .u8 0, .int .u8 0, .int .u8 0, .int .u8 0, .int .u8 0, .int .u8 0, .int .u8 0, .int .u8 0, .int .u8 0, .int .u8 0, .int .u8 0, .int .u8 0, .int .u8 0, .int .u8 0, .int .u8 0, .int .u8 0, .int .u8 0, .int .u8 0, .int .u8 0] : Array Value).size = LC.toArray.size) := Lib.hid (by rw [show LC.toArray.size = 34 by rw [List.size_toArray, hcs]]; rfl)
 have Hkz : Hid ((Tryz.prog.info? 24).map (·.size) = some KC.length) := Lib.hid (by rw [Tryz.sizeKey, hkl])
 have Hkz2 : Hid ((Tryz.prog.info? 24).map (·.size) = some KC.toArray.size) := Lib.hid (by rw [Tryz.sizeKey, List.size_toArray, hkl])
 have Hc1 := Lib.hid hc1
 have Hk1 := Lib.hid hk1
 have HLc := Lib.hid hLc
 have Hlast := Lib.hid hlast
 clear hlast hcs hc1 hLc hk1
 go_enter Tryz.func27, Tryz.ntmps27
 go_upto_region 1 with (fail)
 change Code.wp _ _ _ _ (w.alloc (.cells #[.int .u8 0, .int .u8 0, .int .u8 0, .int .u8 0, .int .u8 0, .int .u8 0, .int .u8 0, .int .u8 0, .int .u8 0, .int .u8 0, .int .u8 0, .int .u8 0, .int .u8 0, .int .u8 0, .int .u8 0, .int .u8 0, .int .u8 0, .int .u8 0, .int .u8 0, .int .u8 0, .int .u8 0, .int .u8 0, .int .u8 0, .int .u8 0, .int .u8 0, .int .u8 0, .int .u8 0, .int .u8 0, .int .u8 0, .int .u8 0, .int .u8 0, .int .u8 0] 24))
 obtain ⟨W, hW⟩ : ∃ W, w.alloc (.cells #[.int .u8 0, .int .u8 0, .int .u8 0, .int .u8 0, .int .u8 0, .int .u8 0, .int .u8 0, .int .u8 0, .int .u8 0, .int .u8 0, .int .u8 0, .int .u8 0, .int .u8 0, .int .u8 0, .int .u8 0, .int .u8 0, .int .u8 0, .int .u8 0, .int .u8 0, .int .u8 0, .int .u8 0, .int .u8 0, .int .u8 0, .int .u8 0, .int .u8 0, .int .u8 0, .int .u8 0, .int .u8 0, .int .u8 0, .int .u8 0, .int .u8 0, .int .u8 0] 24) = W := ⟨_, rfl⟩
 have hpW : w.heap.size < W.heap.size := by rw [← hW, World.size_alloc]; omega
 rw [hW] at hF hTp ⊢
 obtain ⟨p, hpp⟩ : ∃ p, w.heap.size = p := ⟨_, rfl⟩
 rw [hpp] at hTp hpW ⊢
 have Hpp := Lib.hid hpp
 clear hW hpp
 have HF := Lib.hid hF
 have HTp := Lib.hid hTp
 have HpW := Lib.hid hpW
 clear hF hTp hpW
 go_wp2_with fail
 refine (Hlast.out _ HF.out).mono ?_
 rintro r w3 ⟨rfl, hF3⟩
 have HG3 := Lib.hid hF3
 clear hF3
 go_upto_region 2 with ((with_reducible refine wpList_store_new (w := w3) rfl 117 _ _ rfl _ LC.toArray w3.heap.size rfl ?_ ?_ Hcs1.out Hcs2.out Hc1.out ?_); rfl; rfl)
 change Code.wp _ _ _ _ (w3.alloc (.cells LC.toArray 117))
 have hq := range_block (heap_alloc_new w3 (.cells LC.toArray 117))
 have hG4 := HG3.out.alloc (.cells LC.toArray 117)
 obtain ⟨W4, hW4⟩ : ∃ W, w3.alloc (.cells LC.toArray 117) = W := ⟨_, rfl⟩
 have hqW : w3.heap.size < W4.heap.size := by rw [← hW4, World.size_alloc]; omega
 have hWw3 := HG3.out.size
 rw [hW4] at hq hG4 ⊢
 obtain ⟨q, hqq⟩ : ∃ q, w3.heap.size = q := ⟨_, rfl⟩
 rw [hqq] at hq hqW hWw3 ⊢
 clear hW4 hqq
 rw [List.toList_toArray, HLc.out, range_append, range_append, range_one, range_one] at hq
 obtain ⟨-, q1, q2⟩ := hq
 simp only [List.length_cons, List.length_nil, Nat.zero_add, Nat.reduceAdd] at q1 q2
 have hqp : q ≠ p := by have := HpW.out; omega
 have HT4 := Lib.hid (there_fr HTp.out hG4 HpW.out (fun _ h => h))
 have HT4' : Hid (W4.there p 0 KC.toArray.size) := Lib.hid (by rw [List.size_toArray, hkl]; exact HT4.out)
 have HQ := Lib.hid q2
 have Hqp := Lib.hid hqp
 have HqW := Lib.hid hqW
 have HG4 := Lib.hid hG4
 clear q2 hqp hqW hG4 hWw3 hkl
 refine wp_region_held_drew (S := fun V => Hid (Fr (fun k _ => k = p) W4 V)) (by kernel_rfl) (Lib.hid Fr.refl.drew) (fun hHeld => ?_)
 simp only [qL, qL1, qL0, qR, qR1, qR0]
 refine qt (v := ?_) rfl (Or.inl ⟨by rfl, ?_⟩) hHeld ?_
 rotate_left
 ·intro W hSw
  have h1 := Fr.cell hSw.out q1 (fun _ h => Hqp.out h)
  try simp only [qG, qG0, qG1]
  go_simp
  try rw [if_neg (by omega)]
  try with_reducible rfl
 try simp only [Act.put, qS, qS0, qS1, qG, qG0, qG1, qM0, qM1]
 refine qi (i := 1) rfl (yieldsIf_load_mid (by rfl) 24 _ rfl q 2 rfl KC (.array 32 5) (fun V h => range_fr HQ.out h.out HqW.out (fun _ h => Hqp.out h)) Tryz.underKey rfl Hkz.out) hHeld ?_
 try simp only [Act.put, qS, qS0, qS1, qG, qG0, qG1, qM0, qM1]
 iterate 2
  refine qt (v := ?_) rfl (Or.inl ⟨by rfl, ?_⟩) hHeld ?_
  rotate_left
  ·intro W hSw
   have h1 := Fr.cell hSw.out q1 (fun _ h => Hqp.out h)
   try simp only [qG, qG0, qG1]
   go_simp
   try rw [if_neg (by omega)]
   try with_reducible rfl
  try simp only [Act.put, qS, qS0, qS1, qG, qG0, qG1, qM0, qM1]
 refine qr (i := 4) (by kernel_rfl) rfl (fun K hK => ?_)
 try simp only [qG, qG0, qG1]
 rw [if_pos (by rfl)]; refine wp_store_mid 24 (.tmp 4) (.tmp 11) (by rfl) p 0 KC.toArray (by rfl) (by rfl) HT4'.out Hkz2.out Hk1.out ?_
 refine hK.out _ _ (Lib.hid (hHeld.out.trans' ((setCells_fr p _ _ _).mono (fun _ _ h => h)))) (fun hHeld => ?_)
 clear hK K
 try simp only [Act.put, qS, qS0, qS1, qG, qG0, qG1, qM0, qM1]
 refine qt (v := ?_) rfl (Or.inl ⟨by rfl, ?_⟩) hHeld ?_
 rotate_left
 ·intro W hSw
  have h1 := Fr.cell hSw.out q1 (fun _ h => Hqp.out h)
  try simp only [qG, qG0, qG1]
  go_simp
  try rw [if_neg (by omega)]
  try with_reducible rfl
 try simp only [Act.put, qS, qS0, qS1, qG, qG0, qG1, qM0, qM1]
 refine wpAnyH_done (by kernel_rfl) ?_ _
 have HE := Lib.hid hHeld.out
 clear hHeld
 have hld := run_loadVar_mid (P := Tryz.prog) _ p 0 24 KC (.array 32 5) (World.rangeAt_setCells_same W4.drew p 0 KC (by simpa using HT4'.out)) Tryz.underKey rfl Hkz.out
 go_wp2_with fail
 refine bodyPost_ret (v := .tuple #[.agg KC.toArray, .bool x0]) ?_ rfl ⟨rfl, (HF.out.trans' HG4.out).trans HE.out (fun k _ hm => .inr (by have h2 : k = p := hm; have := Hpp.out; omega))⟩
 rw [results_cell_tmp rfl]
 simp [asAddr, Result.andThen, hld]
set_option maxRecDepth 100000 in
set_option maxHeartbeats 2000000 in
theorem spent_c {base tb n bc bl : Nat} {t : Tb} {g lv : Bs → Option Value} (k : Bs) (w : World) (h : TBL base tb n bc bl t g lv w) (hk : k.length = 32) :
 Calls Tryz.prog 29 #[.pointer (some ⟨tb, 0, none⟩), .agg (Lib.byteCells k).toArray] w fun e w' => e = .returned (.bool (t.life k == 2)) ∧ Fr NoB w w' := by
 have hlife := fun V (hV : Fr NoB w V) => life_c k V (h.keep hV) hk
 have hF : Fr NoB w (w.alloc (.cells (Lib.byteCells k).toArray 24)) := Fr.refl.alloc _
 have hR : (w.alloc (.cells (Lib.byteCells k).toArray 24)).rangeAt w.heap.size 0 (Lib.byteCells k) := by simpa using range_block (heap_alloc_new w (.cells (Lib.byteCells k).toArray 24))
 have hkz : (Tryz.prog.info? 24).map (·.size) = some (Lib.byteCells k).length := by rw [Tryz.sizeKey, byteCells_len, hk]
 obtain ⟨L, hL⟩ : ∃ L, t.life k = L := ⟨_, rfl⟩
 simp only [hL] at hlife
 rw [hL]
 obtain ⟨KC, hKC⟩ : ∃ C, Lib.byteCells k = C := ⟨_, rfl⟩
 simp only [hKC] at hlife
 rw [hKC] at hF hR hkz ⊢
 have Hlife := Lib.hid hlife
 have Hkz := Lib.hid hkz
 have HF := Lib.hid hF
 have HR := Lib.hid hR
 obtain ⟨B, hB⟩ : ∃ B, (L == 2) = B := ⟨_, rfl⟩
 rw [hB]
 clear hlife hkz hF hR hKC hL h hk
 go_enter Tryz.func29, Tryz.ntmps29
 go_wp2_with (with_reducible refine wpList_load_mid rfl 24 _ rfl w.heap.size 0 rfl KC (.array 32 5) HR.out Tryz.underKey rfl Hkz.out ?_)
 refine (Hlife.out _ HF.out).mono ?_
 rintro r w2 ⟨rfl, hF2⟩
 have HF2 := Lib.hid hF2
 clear hF2
 go_wp2_with fail
 go_ret
 exact ⟨rfl, HF.out.trans' HF2.out⟩
/-- the key by which a signer's signature is held, and an error's number -/
def pKeyOf (t : Tb) (s : Sg) : Bs × Nat := if s.id ≠ [] then (if (t.last s.id).has = true then ((t.last s.id).key, 0) else (zero32, 8)) else if t.life s.key = 2 then (zero32, 8) else (s.key, 0)
theorem pKeyOf_len {t : Tb} {s : Sg} (h : s.ok) (hl : (t.last s.id).ok) : (pKeyOf t s).1.length = 32 := by
 unfold pKeyOf
 split
 ·split
  ·exact hl
  ·rfl
 ·split
  ·rfl
  ·exact h.1
theorem Sg.in_block {s : Sg} (h : s.ok) {w : World} {b : Nat} (hR : w.rangeAt b 0 s.cells.toList) : w.cell? ⟨b, 0, none⟩ = some (.string ⟨s.id.toArray⟩) ∧ w.rangeAt b 1 (Lib.byteCells s.key) := by
 rw [Sg.list, range_append, range_append, range_one] at hR
 obtain ⟨h1, h2, -⟩ := hR
 simp only [List.length_cons, List.length_nil, Nat.zero_add] at h2
 exact ⟨h1, h2⟩
set_option maxRecDepth 100000 in
set_option maxHeartbeats 4000000 in
theorem key_c {base tb n bc bl : Nat} {t : Tb} {g lv : Bs → Option Value} (s : Sg) (w : World) (h : TBL base tb n bc bl t g lv w) (hs : s.ok) (hi : s.id.length ≤ maxLen) :
 Calls Tryz.prog 30 #[.pointer (some ⟨tb, 0, none⟩), .agg s.cells] w fun e w' => e = .returned (.tuple #[.agg (Lib.byteCells (pKeyOf t s).1).toArray, errV (pKeyOf t s).2]) ∧ Fr NoB w w' := by
 have hbound := fun V (hV : Fr NoB w V) => bound_c s.id V (h.keep hV) hi
 have hspent := fun V (hV : Fr NoB w V) => spent_c s.key V (h.keep hV) hs.1
 have hlok := h.lastok s.id
 have hF : Fr NoB w ((w.alloc (.cells s.cells 54)).alloc (.cells #[.int .u8 0, .int .u8 0, .int .u8 0, .int .u8 0, .int .u8 0, .int .u8 0, .int .u8 0, .int .u8 0, .int .u8 0, .int .u8 0, .int .u8 0, .int .u8 0, .int .u8 0, .int .u8 0, .int .u8 0, .int .u8 0, .int .u8 0, .int .u8 0, .int .u8 0, .int .u8 0, .int .u8 0, .int .u8 0, .int .u8 0, .int .u8 0, .int .u8 0, .int .u8 0, .int .u8 0, .int .u8 0, .int .u8 0, .int .u8 0, .int .u8 0, .int .u8 0] 24)) := (Fr.refl.alloc _).alloc _
 have hF1 : Fr NoB (w.alloc (.cells s.cells 54)) ((w.alloc (.cells s.cells 54)).alloc (.cells #[.int .u8 0, .int .u8 0, .int .u8 0, .int .u8 0, .int .u8 0, .int .u8 0, .int .u8 0, .int .u8 0, .int .u8 0, .int .u8 0, .int .u8 0, .int .u8 0, .int .u8 0, .int .u8 0, .int .u8 0, .int .u8 0, .int .u8 0, .int .u8 0, .int .u8 0, .int .u8 0, .int .u8 0, .int .u8 0, .int .u8 0, .int .u8 0, .int .u8 0, .int .u8 0, .int .u8 0, .int .u8 0, .int .u8 0, .int .u8 0, .int .u8 0, .int .u8 0] 24)) := Fr.refl.alloc _
 have hR : ((w.alloc (.cells s.cells 54)).alloc (.cells #[.int .u8 0, .int .u8 0, .int .u8 0, .int .u8 0, .int .u8 0, .int .u8 0, .int .u8 0, .int .u8 0, .int .u8 0, .int .u8 0, .int .u8 0, .int .u8 0, .int .u8 0, .int .u8 0, .int .u8 0, .int .u8 0, .int .u8 0, .int .u8 0, .int .u8 0, .int .u8 0, .int .u8 0, .int .u8 0, .int .u8 0, .int .u8 0, .int .u8 0, .int .u8 0, .int .u8 0, .int .u8 0, .int .u8 0, .int .u8 0, .int .u8 0, .int .u8 0] 24)).rangeAt w.heap.size 0 s.cells.toList := range_fr (range_block (heap_alloc_new w (.cells s.cells 54))) hF1 (by rw [World.size_alloc]; omega) (fun _ h => h)
 have hTp : ((w.alloc (.cells s.cells 54)).alloc (.cells #[.int .u8 0, .int .u8 0, .int .u8 0, .int .u8 0, .int .u8 0, .int .u8 0, .int .u8 0, .int .u8 0, .int .u8 0, .int .u8 0, .int .u8 0, .int .u8 0, .int .u8 0, .int .u8 0, .int .u8 0, .int .u8 0, .int .u8 0, .int .u8 0, .int .u8 0, .int .u8 0, .int .u8 0, .int .u8 0, .int .u8 0, .int .u8 0, .int .u8 0, .int .u8 0, .int .u8 0, .int .u8 0, .int .u8 0, .int .u8 0, .int .u8 0, .int .u8 0] 24)).there (w.heap.size + 1) 0 32 := by
  have h1 := there_block (heap_alloc_new (w.alloc (.cells s.cells 54)) (.cells #[.int .u8 0, .int .u8 0, .int .u8 0, .int .u8 0, .int .u8 0, .int .u8 0, .int .u8 0, .int .u8 0, .int .u8 0, .int .u8 0, .int .u8 0, .int .u8 0, .int .u8 0, .int .u8 0, .int .u8 0, .int .u8 0, .int .u8 0, .int .u8 0, .int .u8 0, .int .u8 0, .int .u8 0, .int .u8 0, .int .u8 0, .int .u8 0, .int .u8 0, .int .u8 0, .int .u8 0, .int .u8 0, .int .u8 0, .int .u8 0, .int .u8 0, .int .u8 0] 24)) (Nat.le_refl 32)
  rw [World.size_alloc] at h1
  exact h1
 obtain ⟨c0, hK⟩ := Sg.in_block hs hR
 obtain ⟨R1, hR1⟩ : ∃ x, (pKeyOf t s).1 = x := ⟨_, rfl⟩
 obtain ⟨R2, hR2⟩ : ∃ x, (pKeyOf t s).2 = x := ⟨_, rfl⟩
 have hp : pKeyOf t s = (R1, R2) := by rw [← hR1, ← hR2]
 rw [hR1, hR2]
 unfold pKeyOf at hp
 have hkl1 : (t.last s.id).key.length = 32 := hlok
 have hkl2 := hs.1
 obtain ⟨k1, hk1⟩ : ∃ x, (t.last s.id).key = x := ⟨_, rfl⟩
 obtain ⟨b1, hb1⟩ : ∃ x, (t.last s.id).has = x := ⟨_, rfl⟩
 obtain ⟨L, hL⟩ : ∃ x, t.life s.key = x := ⟨_, rfl⟩
 simp only [hk1, hb1] at hbound
 simp only [hL] at hspent
 rw [hk1, hb1, hL] at hp
 rw [hk1] at hkl1
 obtain ⟨C, hC⟩ : ∃ C, s.cells = C := ⟨_, rfl⟩
 rw [hC] at hF hF1 hR hTp c0 hK ⊢
 obtain ⟨idn, hidn⟩ : ∃ x, s.id = x := ⟨_, rfl⟩
 obtain ⟨k2, hk2⟩ : ∃ x, s.key = x := ⟨_, rfl⟩
 rw [hidn, hk2] at hp
 simp only [hidn] at hbound
 simp only [hk2] at hspent
 rw [hidn] at c0
 rw [hk2] at hK hkl2
 clear hC hidn hk2 hk1 hb1 hL hR1 hR2 hlok hs hi h hF1 hR
 have Hk1z : Hid ((Tryz.prog.info? 24).map (·.size) = some (Lib.byteCells k1).length) := Lib.hid (by rw [Tryz.sizeKey, byteCells_len, hkl1])
 have Hk1z2 : Hid ((Tryz.prog.info? 24).map (·.size) = some (Lib.byteCells k1).toArray.size) := Lib.hid (by rw [Tryz.sizeKey, List.size_toArray, byteCells_len, hkl1])
 have Hk1o := Lib.hid (all_oneCell_toArray (cells_one k1))
 have Hk2z : Hid ((Tryz.prog.info? 24).map (·.size) = some (Lib.byteCells k2).length) := Lib.hid (by rw [Tryz.sizeKey, byteCells_len, hkl2])
 have Hk2z2 : Hid ((Tryz.prog.info? 24).map (·.size) = some (Lib.byteCells k2).toArray.size) := Lib.hid (by rw [Tryz.sizeKey, List.size_toArray, byteCells_len, hkl2])
 have Hk2o := Lib.hid (all_oneCell_toArray (cells_one k2))
 have Hs1 : Hid ((Lib.byteCells k1).toArray.size = 32) := Lib.hid (by rw [List.size_toArray, byteCells_len, hkl1])
 have Hs1' : Hid ((#[.int .u8 0, .int .u8 0, .int .u8 0, .int .u8 0, .int .u8 0, .int .u8 0, .int .u8 0, .int .u8 0, .int .u8 0, .int .u8 0, .int .u8 0, .int .u8 0, .int .u8 0, .int .u8 0, .int .u8 0, .int .u8 0, .int .u8 0, .int .u8 0, .int .u8 0, .int .u8 0, .int .u8 0, .int .u8 0, .int .u8 0, .int .u8 0, .int .u8 0, .int .u8 0, .int .u8 0, .int .u8 0, .int .u8 0, .int .u8 0, .int .u8 0, .int .u8 0] : Array Value).size = (Lib.byteCells k1).toArray.size) := Lib.hid (by rw [Hs1.out]; rfl)
 have Hs2 : Hid ((Lib.byteCells k2).toArray.size = 32) := Lib.hid (by rw [List.size_toArray, byteCells_len, hkl2])
 obtain ⟨K1, hK1⟩ : ∃ x, Lib.byteCells k1 = x := ⟨_, rfl⟩
 obtain ⟨K2, hK2⟩ : ∃ x, Lib.byteCells k2 = x := ⟨_, rfl⟩
 rw [hK1] at Hk1z Hk1z2 Hk1o Hs1 Hs1'
 rw [hK2] at Hk2z Hk2z2 Hk2o Hs2 hK
 simp only [hK1] at hbound
 simp only [hK2] at hspent
 have HK1 := Lib.hid hK1
 have HK2 := Lib.hid hK2
 have Hz1 : Hid ((#[.int .u8 0, .int .u8 0, .int .u8 0, .int .u8 0, .int .u8 0, .int .u8 0, .int .u8 0, .int .u8 0, .int .u8 0, .int .u8 0, .int .u8 0, .int .u8 0, .int .u8 0, .int .u8 0, .int .u8 0, .int .u8 0, .int .u8 0, .int .u8 0, .int .u8 0, .int .u8 0, .int .u8 0, .int .u8 0, .int .u8 0, .int .u8 0, .int .u8 0, .int .u8 0, .int .u8 0, .int .u8 0, .int .u8 0, .int .u8 0, .int .u8 0, .int .u8 0] : Array Value).all (·.oneCell') = true) := Lib.hid (by kernel_rfl)
 have Hp := Lib.hid hp
 have Hbound := Lib.hid hbound
 have Hspent := Lib.hid hspent
 have hszC := World.block_lt_of_cell? _ _ c0
 have hsz2 : w.heap.size + 1 < ((w.alloc (.cells C 54)).alloc (.cells #[.int .u8 0, .int .u8 0, .int .u8 0, .int .u8 0, .int .u8 0, .int .u8 0, .int .u8 0, .int .u8 0, .int .u8 0, .int .u8 0, .int .u8 0, .int .u8 0, .int .u8 0, .int .u8 0, .int .u8 0, .int .u8 0, .int .u8 0, .int .u8 0, .int .u8 0, .int .u8 0, .int .u8 0, .int .u8 0, .int .u8 0, .int .u8 0, .int .u8 0, .int .u8 0, .int .u8 0, .int .u8 0, .int .u8 0, .int .u8 0, .int .u8 0, .int .u8 0] 24)).heap.size := by rw [World.size_alloc, World.size_alloc]; omega
 clear hp hbound hspent hK1 hK2 hkl1 hkl2
 go_enter Tryz.func30, Tryz.ntmps30
 go_upto_region 1 with (fail)
 change Code.wp _ _ _ _ ((w.alloc (.cells C 54)).alloc (.cells #[.int .u8 0, .int .u8 0, .int .u8 0, .int .u8 0, .int .u8 0, .int .u8 0, .int .u8 0, .int .u8 0, .int .u8 0, .int .u8 0, .int .u8 0, .int .u8 0, .int .u8 0, .int .u8 0, .int .u8 0, .int .u8 0, .int .u8 0, .int .u8 0, .int .u8 0, .int .u8 0, .int .u8 0, .int .u8 0, .int .u8 0, .int .u8 0, .int .u8 0, .int .u8 0, .int .u8 0, .int .u8 0, .int .u8 0, .int .u8 0, .int .u8 0, .int .u8 0] 24))
 obtain ⟨W, hW⟩ : ∃ W, (w.alloc (.cells C 54)).alloc (.cells #[.int .u8 0, .int .u8 0, .int .u8 0, .int .u8 0, .int .u8 0, .int .u8 0, .int .u8 0, .int .u8 0, .int .u8 0, .int .u8 0, .int .u8 0, .int .u8 0, .int .u8 0, .int .u8 0, .int .u8 0, .int .u8 0, .int .u8 0, .int .u8 0, .int .u8 0, .int .u8 0, .int .u8 0, .int .u8 0, .int .u8 0, .int .u8 0, .int .u8 0, .int .u8 0, .int .u8 0, .int .u8 0, .int .u8 0, .int .u8 0, .int .u8 0, .int .u8 0] 24) = W := ⟨_, rfl⟩
 rw [hW] at hF hTp c0 hK hszC hsz2 ⊢
 obtain ⟨p, hpp⟩ : ∃ p, w.heap.size = p := ⟨_, rfl⟩
 rw [hpp] at hTp c0 hK hszC hsz2 ⊢
 have Hpp := Lib.hid hpp
 clear hW hpp
 have HF := Lib.hid hF
 have HTp := Lib.hid hTp
 have HK := Lib.hid hK
 have HpW := Lib.hid hszC
 have Hp2W := Lib.hid hsz2
 clear hF hTp hK hszC hsz2
 obtain ⟨p2, hp2⟩ : ∃ x, p + 1 = x := ⟨_, rfl⟩
 rw [hp2] at HTp Hp2W ⊢
 have Hpp2 := Lib.hid hp2
 clear hp2
 cases idn with
 | nil =>
   have Hp2 : Hid ((if L = 2 then (zero32, 8) else (k2, 0)) = (R1, R2)) := Lib.hid (by have := Hp.out; simpa using this)
   clear Hp Hbound
   go_wp2_with (with_reducible refine wpList_load_mid rfl 24 _ rfl p 1 rfl K2 (.array 32 5) HK.out Tryz.underKey rfl Hk2z.out ?_)
   refine (Hspent.out _ HF.out).mono ?_
   rintro r w2 ⟨rfl, hF2⟩
   have HT2 := Lib.hid (there_fr HTp.out hF2 Hp2W.out (fun _ h => h))
   have HKr := Lib.hid (range_fr HK.out hF2 HpW.out (fun _ h => h))
   have HG2 := Lib.hid hF2
   clear hF2 Hspent c0
   by_cases hL : L = 2
   ·have hR : R1 = zero32 ∧ R2 = 8 := by have := Hp2.out; rw [if_pos hL] at this; cases this; exact ⟨rfl, rfl⟩
    have hL2 : (L == 2) = true := by simpa using hL
    clear hL Hp2
    go_wp2_with (first
     | (with_reducible refine wpList_store_mid rfl 24 _ _ rfl p2 0 #[.int .u8 0, .int .u8 0, .int .u8 0, .int .u8 0, .int .u8 0, .int .u8 0, .int .u8 0, .int .u8 0, .int .u8 0, .int .u8 0, .int .u8 0, .int .u8 0, .int .u8 0, .int .u8 0, .int .u8 0, .int .u8 0, .int .u8 0, .int .u8 0, .int .u8 0, .int .u8 0, .int .u8 0, .int .u8 0, .int .u8 0, .int .u8 0, .int .u8 0, .int .u8 0, .int .u8 0, .int .u8 0, .int .u8 0, .int .u8 0, .int .u8 0, .int .u8 0] rfl rfl HT2.out Tryz.sizeKey Hz1.out ?_)
     | (refine wpList_store_mid rfl 24 _ _ rfl p2 0 #[.int .u8 0, .int .u8 0, .int .u8 0, .int .u8 0, .int .u8 0, .int .u8 0, .int .u8 0, .int .u8 0, .int .u8 0, .int .u8 0, .int .u8 0, .int .u8 0, .int .u8 0, .int .u8 0, .int .u8 0, .int .u8 0, .int .u8 0, .int .u8 0, .int .u8 0, .int .u8 0, .int .u8 0, .int .u8 0, .int .u8 0, .int .u8 0, .int .u8 0, .int .u8 0, .int .u8 0, .int .u8 0, .int .u8 0, .int .u8 0, .int .u8 0, .int .u8 0] rfl rfl HT2.out Tryz.sizeKey Hz1.out ?_))
    have hld := run_loadVar_mid (P := Tryz.prog) _ p2 0 24 (#[.int .u8 0, .int .u8 0, .int .u8 0, .int .u8 0, .int .u8 0, .int .u8 0, .int .u8 0, .int .u8 0, .int .u8 0, .int .u8 0, .int .u8 0, .int .u8 0, .int .u8 0, .int .u8 0, .int .u8 0, .int .u8 0, .int .u8 0, .int .u8 0, .int .u8 0, .int .u8 0, .int .u8 0, .int .u8 0, .int .u8 0, .int .u8 0, .int .u8 0, .int .u8 0, .int .u8 0, .int .u8 0, .int .u8 0, .int .u8 0, .int .u8 0, .int .u8 0] : Array Value).toList (.array 32 5) (World.rangeAt_setCells_same w2 p2 0 (#[.int .u8 0, .int .u8 0, .int .u8 0, .int .u8 0, .int .u8 0, .int .u8 0, .int .u8 0, .int .u8 0, .int .u8 0, .int .u8 0, .int .u8 0, .int .u8 0, .int .u8 0, .int .u8 0, .int .u8 0, .int .u8 0, .int .u8 0, .int .u8 0, .int .u8 0, .int .u8 0, .int .u8 0, .int .u8 0, .int .u8 0, .int .u8 0, .int .u8 0, .int .u8 0, .int .u8 0, .int .u8 0, .int .u8 0, .int .u8 0, .int .u8 0, .int .u8 0] : Array Value).toList HT2.out) Tryz.underKey rfl Tryz.sizeKey
    refine bodyPost_ret (v := .tuple #[.agg #[.int .u8 0, .int .u8 0, .int .u8 0, .int .u8 0, .int .u8 0, .int .u8 0, .int .u8 0, .int .u8 0, .int .u8 0, .int .u8 0, .int .u8 0, .int .u8 0, .int .u8 0, .int .u8 0, .int .u8 0, .int .u8 0, .int .u8 0, .int .u8 0, .int .u8 0, .int .u8 0, .int .u8 0, .int .u8 0, .int .u8 0, .int .u8 0, .int .u8 0, .int .u8 0, .int .u8 0, .int .u8 0, .int .u8 0, .int .u8 0, .int .u8 0, .int .u8 0], .iface 56 (.int .i64 8)]) ?_ rfl ⟨by rw [hR.1, hR.2]; rfl, (HF.out.trans' HG2.out).trans (setCells_fr _ _ _ _) (fun k _ hm => .inr (by have := Hpp.out; have := Hpp2.out; omega))⟩
    rw [results_cell_tmp rfl]
    simp only [Array.toArray_toList] at hld
    simp [asAddr, Result.andThen, hld]
   ·have hR : R1 = k2 ∧ R2 = 0 := by have := Hp2.out; rw [if_neg hL] at this; cases this; exact ⟨rfl, rfl⟩
    have hL2 : (L == 2) = false := by simpa using hL
    clear hL Hp2
    have HT5 := HT2
    have HG5 := HG2
    have HTk : Hid ((w2).there p2 0 K2.toArray.size) := Lib.hid (by rw [Hs2.out]; exact HT5.out)
    go_wp2_with (first
     | (with_reducible refine wpList_load_mid rfl 24 _ rfl p 1 rfl K2 (.array 32 5) HKr.out Tryz.underKey rfl Hk2z.out ?_)
     | (with_reducible refine wpList_store_mid rfl 24 _ _ rfl p2 0 K2.toArray rfl rfl HTk.out Hk2z2.out Hk2o.out ?_))
    have hld := run_loadVar_mid (P := Tryz.prog) _ p2 0 24 K2 (.array 32 5) (World.rangeAt_setCells_same (w2) p2 0 K2 (by simpa using HTk.out)) Tryz.underKey rfl Hk2z.out
    refine bodyPost_ret (v := .tuple #[.agg K2.toArray, .nilIface]) ?_ rfl ⟨by rw [hR.1, hR.2, HK2.out]; rfl, (HF.out.trans' HG5.out).trans (setCells_fr _ _ _ _) (fun k _ hm => .inr (by have := Hpp.out; have := Hpp2.out; omega))⟩
    rw [results_cell_tmp rfl]
    simp [asAddr, Result.andThen, hld]
 | cons x l =>
   have hne : ∀ W, (binOp .neq 9 (.string ⟨(x :: l).toArray⟩) (.string ⟨#[]⟩)).run Tryz.prog W = .ok (.bool true) W := fun W => by simp [go_sem]
   have Hp2 : Hid ((if b1 = true then (k1, 0) else (zero32, 8)) = (R1, R2)) := Lib.hid (by have := Hp.out; simpa using this)
   clear Hp Hspent
   have hc2 := c0
   go_wp2_with fail
   refine (Hbound.out _ HF.out).mono ?_
   rintro r w3 ⟨rfl, hF3⟩
   have HG3 := Lib.hid hF3
   clear hF3 Hbound c0 hc2 hne
   go_upto_region 3 with ((with_reducible refine wpList_store_new (w := w3) rfl 24 _ _ rfl _ K1.toArray w3.heap.size rfl ?_ ?_ Hk1z2.out Hs1'.out Hk1o.out ?_); rfl; rfl)
   change Code.wp _ _ _ _ (w3.alloc (.cells K1.toArray 24))
   have hq := range_block (heap_alloc_new w3 (.cells K1.toArray 24))
   rw [List.toList_toArray] at hq
   have hG4 := HG3.out.alloc (.cells K1.toArray 24)
   obtain ⟨w2, hw2⟩ : ∃ W, w3.alloc (.cells K1.toArray 24) = W := ⟨_, rfl⟩
   rw [hw2] at hq hG4 ⊢
   obtain ⟨q, hqq⟩ : ∃ q, w3.heap.size = q := ⟨_, rfl⟩
   rw [hqq] at hq ⊢
   clear hw2 hqq
   have HT2 := Lib.hid (there_fr HTp.out hG4 Hp2W.out (fun _ h => h))
   have HKr := Lib.hid hq
   have HG2 := Lib.hid hG4
   clear hq hG4
   cases b1
   ·have hR : R1 = zero32 ∧ R2 = 8 := by have := Hp2.out; rw [if_neg (by decide)] at this; cases this; exact ⟨rfl, rfl⟩
    clear Hp2
    go_wp2_with (first
     | (with_reducible refine wpList_store_mid rfl 24 _ _ rfl p2 0 #[.int .u8 0, .int .u8 0, .int .u8 0, .int .u8 0, .int .u8 0, .int .u8 0, .int .u8 0, .int .u8 0, .int .u8 0, .int .u8 0, .int .u8 0, .int .u8 0, .int .u8 0, .int .u8 0, .int .u8 0, .int .u8 0, .int .u8 0, .int .u8 0, .int .u8 0, .int .u8 0, .int .u8 0, .int .u8 0, .int .u8 0, .int .u8 0, .int .u8 0, .int .u8 0, .int .u8 0, .int .u8 0, .int .u8 0, .int .u8 0, .int .u8 0, .int .u8 0] rfl rfl HT2.out Tryz.sizeKey Hz1.out ?_)
     | (refine wpList_store_mid rfl 24 _ _ rfl p2 0 #[.int .u8 0, .int .u8 0, .int .u8 0, .int .u8 0, .int .u8 0, .int .u8 0, .int .u8 0, .int .u8 0, .int .u8 0, .int .u8 0, .int .u8 0, .int .u8 0, .int .u8 0, .int .u8 0, .int .u8 0, .int .u8 0, .int .u8 0, .int .u8 0, .int .u8 0, .int .u8 0, .int .u8 0, .int .u8 0, .int .u8 0, .int .u8 0, .int .u8 0, .int .u8 0, .int .u8 0, .int .u8 0, .int .u8 0, .int .u8 0, .int .u8 0, .int .u8 0] rfl rfl HT2.out Tryz.sizeKey Hz1.out ?_))
    have hld := run_loadVar_mid (P := Tryz.prog) _ p2 0 24 (#[.int .u8 0, .int .u8 0, .int .u8 0, .int .u8 0, .int .u8 0, .int .u8 0, .int .u8 0, .int .u8 0, .int .u8 0, .int .u8 0, .int .u8 0, .int .u8 0, .int .u8 0, .int .u8 0, .int .u8 0, .int .u8 0, .int .u8 0, .int .u8 0, .int .u8 0, .int .u8 0, .int .u8 0, .int .u8 0, .int .u8 0, .int .u8 0, .int .u8 0, .int .u8 0, .int .u8 0, .int .u8 0, .int .u8 0, .int .u8 0, .int .u8 0, .int .u8 0] : Array Value).toList (.array 32 5) (World.rangeAt_setCells_same w2 p2 0 (#[.int .u8 0, .int .u8 0, .int .u8 0, .int .u8 0, .int .u8 0, .int .u8 0, .int .u8 0, .int .u8 0, .int .u8 0, .int .u8 0, .int .u8 0, .int .u8 0, .int .u8 0, .int .u8 0, .int .u8 0, .int .u8 0, .int .u8 0, .int .u8 0, .int .u8 0, .int .u8 0, .int .u8 0, .int .u8 0, .int .u8 0, .int .u8 0, .int .u8 0, .int .u8 0, .int .u8 0, .int .u8 0, .int .u8 0, .int .u8 0, .int .u8 0, .int .u8 0] : Array Value).toList HT2.out) Tryz.underKey rfl Tryz.sizeKey
    refine bodyPost_ret (v := .tuple #[.agg #[.int .u8 0, .int .u8 0, .int .u8 0, .int .u8 0, .int .u8 0, .int .u8 0, .int .u8 0, .int .u8 0, .int .u8 0, .int .u8 0, .int .u8 0, .int .u8 0, .int .u8 0, .int .u8 0, .int .u8 0, .int .u8 0, .int .u8 0, .int .u8 0, .int .u8 0, .int .u8 0, .int .u8 0, .int .u8 0, .int .u8 0, .int .u8 0, .int .u8 0, .int .u8 0, .int .u8 0, .int .u8 0, .int .u8 0, .int .u8 0, .int .u8 0, .int .u8 0], .iface 56 (.int .i64 8)]) ?_ rfl ⟨by rw [hR.1, hR.2]; rfl, (HF.out.trans' HG2.out).trans (setCells_fr _ _ _ _) (fun k _ hm => .inr (by have := Hpp.out; have := Hpp2.out; omega))⟩
    rw [results_cell_tmp rfl]
    simp only [Array.toArray_toList] at hld
    simp [asAddr, Result.andThen, hld]
   ·have hR : R1 = k1 ∧ R2 = 0 := by have := Hp2.out; rw [if_pos rfl] at this; cases this; exact ⟨rfl, rfl⟩
    clear Hp2
    have HT5 := HT2
    have HG5 := HG2
    have HTk : Hid ((w2).there p2 0 K1.toArray.size) := Lib.hid (by rw [Hs1.out]; exact HT5.out)
    go_wp2_with (first
     | (with_reducible refine wpList_load_mid rfl 24 _ rfl q 0 rfl K1 (.array 32 5) HKr.out Tryz.underKey rfl Hk1z.out ?_)
     | (with_reducible refine wpList_store_mid rfl 24 _ _ rfl p2 0 K1.toArray rfl rfl HTk.out Hk1z2.out Hk1o.out ?_))
    have hld := run_loadVar_mid (P := Tryz.prog) _ p2 0 24 K1 (.array 32 5) (World.rangeAt_setCells_same (w2) p2 0 K1 (by simpa using HTk.out)) Tryz.underKey rfl Hk1z.out
    refine bodyPost_ret (v := .tuple #[.agg K1.toArray, .nilIface]) ?_ rfl ⟨by rw [hR.1, hR.2, HK1.out]; rfl, (HF.out.trans' HG5.out).trans (setCells_fr _ _ _ _) (fun k _ hm => .inr (by have := Hpp.out; have := Hpp2.out; omega))⟩
    rw [results_cell_tmp rfl]
    simp [asAddr, Result.andThen, hld]
end Go.Proofs.YtcddlemkimbkcaaGreatDoor
namespace Go.Proofs.YtcddlemkimbkcaaGreatDoor
set_option linter.unusedVariables false
set_option linter.unusedSimpArgs false
set_option linter.unusedSectionVars false
open Go.RowKit Go.Shelf
variable [OldK]
theorem MapB.new {k : TypeId} {K : KeyB Tryz.prog k} {w : World} {b : Nat} (h : w.heap[b]? = some (.map #[] 0)) : MapB K w b 0 (fun _ => none) := by
 obtain ⟨D, ⟨es, clock, h0, h1⟩, h2⟩ := MapB.made (K := K) w
 rw [heap_alloc_new] at h0
 injection h0 with h0
 injection h0 with e1 e2
 subst e1 e2
 exact ⟨D, ⟨_, _, h, h1⟩, h2⟩
set_option maxRecDepth 100000 in
set_option maxHeartbeats 2000000 in
theorem new_c (w : World) (hk : OldK.k ≤ w.heap.size) :
 Calls Tryz.prog 25 #[] w fun e w' => e = .returned (.pointer (some ⟨w.heap.size + 2, 0, none⟩)) ∧ TBL w.heap.size (w.heap.size + 2) 0 w.heap.size (w.heap.size + 1) Tb.new (fun _ => none) (fun _ => none) w' ∧ Fr NoB w w' := by
 have hm : ∀ (t : TypeId) (W : World), (Instr.makeMap t none).run Tryz.prog W = .ok (.map (some W.heap.size)) (W.alloc (.map #[] 0)) := fun t W => run_makeMap t W
 have hb : ∀ (a b : Option Nat) (W : World), (Instr.build 115 #[(0, .map a), (1, .map b)]).run Tryz.prog W = .ok (.agg #[.map a, .map b]) W := fun a b W => run_build W 115 _ _ (by kernel_rfl)
 have hA1 := heap_alloc_new w (.map #[] 0)
 have hA2 := heap_alloc_new (w.alloc (.map #[] 0)) (.map #[] 0)
 have hA3 := heap_alloc_new ((w.alloc (.map #[] 0)).alloc (.map #[] 0)) (.cells #[.map (some w.heap.size), .map (some (w.heap.size + 1))] 115)
 simp only [World.size_alloc] at hA2 hA3
 have hF1 : Fr NoB (w.alloc (.map #[] 0)) (((w.alloc (.map #[] 0)).alloc (.map #[] 0)).alloc (.cells #[.map (some w.heap.size), .map (some (w.heap.size + 1))] 115)) := (Fr.refl.alloc _).alloc _
 have hF2 : Fr NoB ((w.alloc (.map #[] 0)).alloc (.map #[] 0)) (((w.alloc (.map #[] 0)).alloc (.map #[] 0)).alloc (.cells #[.map (some w.heap.size), .map (some (w.heap.size + 1))] 115)) := Fr.refl.alloc _
 have hB1 := hF1.block _ _ hA1 (fun h => h)
 have hB2 := hF2.block _ _ hA2 (fun h => h)
 have HF : Hid (Fr NoB w (((w.alloc (.map #[] 0)).alloc (.map #[] 0)).alloc (.cells #[.map (some w.heap.size), .map (some (w.heap.size + 1))] 115))) := Lib.hid (((Fr.refl.alloc _).alloc _).alloc _)
 have HB1 := Lib.hid hB1
 have HB2 := Lib.hid hB2
 have HB3 := Lib.hid hA3
 clear hA1 hA2 hA3 hF1 hF2 hB1 hB2
 go_enter Tryz.func25, Tryz.ntmps25
 go_wp2_with fail
 go_ret
 exact ⟨rfl, ⟨hk, HB3.out, ⟨by omega, by omega, by omega, by omega⟩, MapB.new HB1.out, MapB.new HB2.out, fun _ _ => rfl, fun x hx => ⟨rfl, .inl ⟨rfl, rfl⟩⟩, fun _ _ _ _ _ => .inl rfl, fun _ => Nat.le_refl _, fun _ c hc => by cases hc⟩, HF.out⟩
set_option maxHeartbeats 2000000 in
set_option maxRecDepth 100000 in
theorem clone_c {base : Nat} (l : List Chg) (v : Value) (w : World) (h : w.ownsRow base 117 34 v l.length (l.flatMap Chg.cells)) (hl : l.length ≤ 2000000) (hk : ∀ c ∈ l, c.ok) :
 Calls Tryz.prog 79 #[v] w fun e w' => ∃ v', e = .returned v' ∧ w'.ownsRow w.heap.size 117 34 v' l.length (l.flatMap Chg.cells) ∧ Fr NoB w w' := by
 have qn : ∀ (w : World) (a : Option Addr) (n c n' c' : Nat), (binOp .eql 110 (.slice a n c) (.slice none n' c')).run Tryz.prog w = .ok (.bool a.isNone) w := fun w a n c n' c' => Lib.run_eql_slice_nil w _ _ a n c n' c' Tryz.underlying110
 rcases row_form h with ⟨rfl, h0⟩ | ⟨gb, cap, rfl, hb, hlt, hnc, hcm⟩
 ·have hl0 := List.length_eq_zero_iff.1 h0
  subst hl0
  clear h
  go_enter Tryz.func79, Tryz.ntmps79
  go_wp2_with fail
  go_ret
  exact ⟨_, rfl, ⟨rfl, .inl ⟨rfl, rfl⟩⟩, Fr.refl⟩
 ·obtain ⟨i0, hi0, hz0, hz1, hz2⟩ := info_parts Tryz.infoChg
  have hne : (some (⟨gb, 0, none⟩ : Addr)).isNone = false := rfl
  obtain ⟨XS, hXS⟩ : ∃ x, l.flatMap Chg.cells = x := ⟨_, rfl⟩
  obtain ⟨n, hn⟩ : ∃ x, l.length = x := ⟨_, rfl⟩
  have hXl : XS.length = n * 34 := by rw [← hXS, ← hn]; exact h.1
  have hone : ∀ u ∈ XS, u.oneCell' = true := by
   rw [← hXS]
   intro u hu
   obtain ⟨c, hc, hu⟩ := List.mem_flatMap.1 hu
   have h := Chg.one c
   rw [List.all_toArray, List.all_eq_true] at h
   exact h u hu
  have hcell : ∀ j u, XS[j]? = some u → (w.alloc (.cells #[] 117)).cell? ((⟨gb, 0, none⟩ : Addr).add j) = some u := fun j u hj => Lib.cell?_alloc_some _ (by
   rw [← hXS] at hj
   have := h.cells (g := gb) rfl j u hj
   exact this)
  rw [hXS, hn]
  rw [hn] at hl
  have Hone := Lib.hid hone
  have Hcell := Lib.hid hcell
  have HXl := Lib.hid hXl
  clear h hXS hn hone hcell hXl hk
  go_enter Tryz.func79, Tryz.ntmps79
  go_wp2_with (at_builtin; refine wpList_append_own _ rfl _ _ 110 rfl w.heap.size 117 i0 (.agg Chg.zero.cells.toArray) 34 48 Tryz.underlying110 hi0 hz0 hz1 hz2 rfl (by decide) _ _ _ rfl (World.ownsRow_made w #[] 0 (Nat.le_refl _) (Nat.zero_le _) rfl) ⟨gb, 0, none⟩ n cap XS rfl HXl.out Hcell.out Hone.out (by unfold maxLen; omega) (by omega) (by rw [World.size_alloc]; omega) ?_)
  intro v' w1 hown hgrow hnil
  go_wp2_with fail
  go_ret
  refine ⟨v', rfl, by simpa using hown, ?_⟩
  exact ((Fr.refl (M := NoB)).alloc _).trans (Fr.ofGrown hgrow) (fun k _ hm => .inr (by
   have h2 : some k = some w.heap.size := hm
   injection h2 with h2
   omega))
set_option maxRecDepth 100000 in
set_option maxHeartbeats 2000000 in
theorem history_c {base tb n bc bl : Nat} {t : Tb} {g lv : Bs → Option Value} (x : Bs) (w : World) (h : TBL base tb n bc bl t g lv w) (hx : x.length ≤ maxLen) (hn : n ≤ 1000000) :
 Calls Tryz.prog 65 #[.pointer (some ⟨tb, 0, none⟩), .string ⟨x.toArray⟩] w fun e w' => ∃ v', e = .returned v' ∧ w'.ownsRow w.heap.size 117 34 v' (t.hist x).length ((t.hist x).flatMap Chg.cells) ∧ Fr NoB w w' := by
 obtain ⟨t0, t1⟩ := h.at
 have hlook := h.lookC hx
 have hcl := clone_c (t.hist x) (atOr g x) w (h.rows x hx) (by have := h.few x; omega) (h.keys x)
 obtain ⟨V, hV⟩ : ∃ V, atOr g x = V := ⟨_, rfl⟩
 rw [hV] at hlook hcl
 have Hcl := Lib.hid hcl
 clear hcl hV h
 go_enter Tryz.func65, Tryz.ntmps65
 go_wp2_with fail
 refine Hcl.out.mono ?_
 rintro e w1 ⟨v', rfl, h1, h2⟩
 have H1 := Lib.hid h1
 have H2 := Lib.hid h2
 clear h1 h2
 go_wp2_with fail
 go_ret
 exact ⟨v', rfl, H1.out, H2.out⟩
end Go.Proofs.YtcddlemkimbkcaaGreatDoor
namespace Go.Proofs.YtcddlemkimbkcaaGreatDoor
set_option linter.unusedVariables false
set_option linter.unusedSimpArgs false
set_option linter.unusedSectionVars false
open Go.RowKit
variable [OldK]
set_option maxRecDepth 100000 in
set_option maxHeartbeats 1000000 in
theorem num_c (n : Nat) (hn : n ≤ 20) (w : World) :
 Calls Tryz.prog 34 #[errV n] w fun e w' => e = .returned (.int .i64 n) ∧ w = w' := by
 unfold errV
 by_cases h0 : n = 0
 ·subst h0
  simp only [if_true]
  go_enter Tryz.func34, Tryz.ntmps34
  go_wp2_with fail
  go_ret
  exact ⟨rfl, rfl⟩
 ·rw [if_neg h0]
  have h1 : ((n : Int) == 0) = false := by simpa using h0
  have h2 : ((n : Int) != 0) = true := by simpa using h0
  clear h0
  have hta : ∀ w, (Instr.typeAssert (Value.iface 56 (Value.int .i64 (n : Int))) 46 56 true).run Tryz.prog w = .ok (.tuple #[.int .i64 n, .bool true]) w := fun _ => by kernel_rfl
  go_enter Tryz.func34, Tryz.ntmps34
  go_wp2_with fail
  go_ret
  exact ⟨rfl, rfl⟩
set_option maxRecDepth 100000 in
theorem numIs_c (n m : Nat) (hn : n ≤ 20) (w : World) :
 Calls Tryz.prog 31 #[errV n, .int .i64 m] w fun e w' => e = .returned (.bool (decide (n = m))) ∧ w = w' := by
 have hN := fun W => num_c n hn W
 obtain ⟨E, hE⟩ : ∃ E, errV n = E := ⟨_, rfl⟩
 simp only [hE] at hN
 rw [hE]
 have HN := Lib.hid hN
 obtain ⟨B, hB⟩ : ∃ B, decide (n = m) = B := ⟨_, rfl⟩
 have hB2 : ((n : Int) == (m : Int)) = B := by rw [← hB]; simp only [BEq.beq, Int.ofNat_inj]
 have hB3 : (n == m) = B := by rw [← hB]; rfl
 rw [hB]
 clear hN hE hB hn
 go_enter Tryz.func31, Tryz.ntmps31
 go_wp2_with fail
 refine (HN.out _).mono ?_
 rintro e w1 ⟨rfl, rfl⟩
 go_wp2_with fail
 go_ret
 exact ⟨rfl, rfl⟩
end Go.Proofs.YtcddlemkimbkcaaGreatDoor
