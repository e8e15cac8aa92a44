/-
 The walks of cachetref17's Key and of chapter 17's signer.
-/
import Derived.Test.YtcddlemkimbkcaaGreatDoorKRefSpent
import Derived.Test.YtcddlemkimbkcaaGreatDoorKCpS
import Derived.Test.YtcddlemkimbkcaaGreatDoorKNum
namespace Go.Proofs.YtcddlemkimbkcaaGreatDoor
set_option linter.unusedVariables false
set_option linter.unusedSimpArgs false
set_option linter.unusedSectionVars false
open Go.RowKit Go.Shelf
variable [OldK]
/-- the key by which a signer's signature is held, by the document -/
def rKey (m : List Cm) (s : Sg) : Bs × Bool := if s.id ≠ [] then rBound m s.id else if rSpent m s.key = true then (zero32, false) else (s.key, true)
theorem Tied.keyOf {t : Tb} {m : List Cm} (h : Tied t m) (s : Sg) : pKeyOf t s = if (rKey m s).2 = true then ((rKey m s).1, 0) else (zero32, 8) := by
 unfold pKeyOf rKey
 by_cases hi : s.id ≠ []
 ·rw [if_pos hi, if_pos hi]
  have hb := h.bound s.id
  unfold Tb.bound at hb
  rw [← hb]
 ·rw [if_neg hi, if_neg hi]
  have hs := h.spent s.key
  by_cases h2 : t.life s.key = 2
  ·rw [if_pos h2, if_pos (hs.1 h2)]
   rfl
  ·rw [if_neg h2, if_neg (fun e => h2 (hs.2 e))]
   rfl
theorem rKey_len {m : List CameV} (h : ∀ c ∈ m, c.e.ok) {s : Sg} (hs : s.ok) : (rKey (m.map CameV.cm) s).1.length = 32 := by
 unfold rKey
 split
 ·exact rBound_len h _
 ·split
  ·rfl
  ·exact hs.1
set_option maxRecDepth 100000 in
set_option maxHeartbeats 2000000 in
theorem refKey_c (m : List CameV) (v : Value) (s : Sg) (w : World) (h : CRow m v w) (hs : s.ok) :
 Calls Tryz.prog 123 #[v, .agg s.cells] w fun e w' => e = .returned (.tuple #[.agg (Lib.byteCells (rKey (m.map CameV.cm) s).1).toArray, .bool (rKey (m.map CameV.cm) s).2]) ∧ Fr NoB w w' := by
 have hF : Fr NoB w ((w.alloc (.cells s.cells 54)).alloc (.cells #[.int .u8 0, .int .u8 0, .int .u8 0, .int .u8 0, .int .u8 0, .int .u8 0, .int .u8 0, .int .u8 0, .int .u8 0, .int .u8 0, .int .u8 0, .int .u8 0, .int .u8 0, .int .u8 0, .int .u8 0, .int .u8 0, .int .u8 0, .int .u8 0, .int .u8 0, .int .u8 0, .int .u8 0, .int .u8 0, .int .u8 0, .int .u8 0, .int .u8 0, .int .u8 0, .int .u8 0, .int .u8 0, .int .u8 0, .int .u8 0, .int .u8 0, .int .u8 0] 24)) := (Fr.refl.alloc _).alloc _
 have hF1 : Fr NoB (w.alloc (.cells s.cells 54)) ((w.alloc (.cells s.cells 54)).alloc (.cells #[.int .u8 0, .int .u8 0, .int .u8 0, .int .u8 0, .int .u8 0, .int .u8 0, .int .u8 0, .int .u8 0, .int .u8 0, .int .u8 0, .int .u8 0, .int .u8 0, .int .u8 0, .int .u8 0, .int .u8 0, .int .u8 0, .int .u8 0, .int .u8 0, .int .u8 0, .int .u8 0, .int .u8 0, .int .u8 0, .int .u8 0, .int .u8 0, .int .u8 0, .int .u8 0, .int .u8 0, .int .u8 0, .int .u8 0, .int .u8 0, .int .u8 0, .int .u8 0] 24)) := Fr.refl.alloc _
 have hR : ((w.alloc (.cells s.cells 54)).alloc (.cells #[.int .u8 0, .int .u8 0, .int .u8 0, .int .u8 0, .int .u8 0, .int .u8 0, .int .u8 0, .int .u8 0, .int .u8 0, .int .u8 0, .int .u8 0, .int .u8 0, .int .u8 0, .int .u8 0, .int .u8 0, .int .u8 0, .int .u8 0, .int .u8 0, .int .u8 0, .int .u8 0, .int .u8 0, .int .u8 0, .int .u8 0, .int .u8 0, .int .u8 0, .int .u8 0, .int .u8 0, .int .u8 0, .int .u8 0, .int .u8 0, .int .u8 0, .int .u8 0] 24)).rangeAt w.heap.size 0 s.cells.toList := range_fr (range_block (heap_alloc_new w (.cells s.cells 54))) hF1 (by rw [World.size_alloc]; omega) (fun _ h => h)
 have hTp : ((w.alloc (.cells s.cells 54)).alloc (.cells #[.int .u8 0, .int .u8 0, .int .u8 0, .int .u8 0, .int .u8 0, .int .u8 0, .int .u8 0, .int .u8 0, .int .u8 0, .int .u8 0, .int .u8 0, .int .u8 0, .int .u8 0, .int .u8 0, .int .u8 0, .int .u8 0, .int .u8 0, .int .u8 0, .int .u8 0, .int .u8 0, .int .u8 0, .int .u8 0, .int .u8 0, .int .u8 0, .int .u8 0, .int .u8 0, .int .u8 0, .int .u8 0, .int .u8 0, .int .u8 0, .int .u8 0, .int .u8 0] 24)).there (w.heap.size + 1) 0 32 := by
  have h1 := there_block (heap_alloc_new (w.alloc (.cells s.cells 54)) (.cells #[.int .u8 0, .int .u8 0, .int .u8 0, .int .u8 0, .int .u8 0, .int .u8 0, .int .u8 0, .int .u8 0, .int .u8 0, .int .u8 0, .int .u8 0, .int .u8 0, .int .u8 0, .int .u8 0, .int .u8 0, .int .u8 0, .int .u8 0, .int .u8 0, .int .u8 0, .int .u8 0, .int .u8 0, .int .u8 0, .int .u8 0, .int .u8 0, .int .u8 0, .int .u8 0, .int .u8 0, .int .u8 0, .int .u8 0, .int .u8 0, .int .u8 0, .int .u8 0] 24)) (Nat.le_refl 32)
  rw [World.size_alloc] at h1
  exact h1
 obtain ⟨c0, hK⟩ := Sg.in_block hs hR
 have hbound := fun V (hV : Fr NoB w V) => refBound_c m v s.id V (h.keep hV)
 have hspent := fun V (hV : Fr NoB w V) => refSpent_c m v s.key V (h.keep hV) hs.1
 have hbl := rBound_len h.ok s.id
 obtain ⟨R, hRe⟩ : ∃ x, rKey (m.map CameV.cm) s = x := ⟨_, rfl⟩
 rw [hRe]
 unfold rKey at hRe
 obtain ⟨⟨bk, bh⟩, hbk⟩ : ∃ x, rBound (m.map CameV.cm) s.id = x := ⟨_, rfl⟩
 obtain ⟨sp, hsp⟩ : ∃ x, rSpent (m.map CameV.cm) s.key = x := ⟨_, rfl⟩
 simp only [hbk] at hbound
 simp only [hsp] at hspent
 rw [hbk] at hbl
 rw [hbk, hsp] at hRe
 simp only at hbl
 obtain ⟨C, hC⟩ : ∃ C, s.cells = C := ⟨_, rfl⟩
 rw [hC] at hF hF1 hR hTp c0 hK ⊢
 have hkl2 := hs.1
 obtain ⟨idn, hidn⟩ : ∃ x, s.id = x := ⟨_, rfl⟩
 obtain ⟨k2, hk2⟩ : ∃ x, s.key = x := ⟨_, rfl⟩
 rw [hidn, hk2] at hRe
 simp only [hidn] at hbound
 simp only [hk2] at hspent
 rw [hidn] at c0
 rw [hk2] at hK hkl2
 clear hC hidn hk2 hbk hsp hs h hF1 hR
 have Hk1z : Hid ((Tryz.prog.info? 24).map (·.size) = some (Lib.byteCells bk).length) := Lib.hid (by rw [Tryz.sizeKey, byteCells_len, hbl])
 have Hk1z2 : Hid ((Tryz.prog.info? 24).map (·.size) = some (Lib.byteCells bk).toArray.size) := Lib.hid (by rw [Tryz.sizeKey, List.size_toArray, byteCells_len, hbl])
 have Hk1o := Lib.hid (all_oneCell_toArray (cells_one bk))
 have Hk2z : Hid ((Tryz.prog.info? 24).map (·.size) = some (Lib.byteCells k2).length) := Lib.hid (by rw [Tryz.sizeKey, byteCells_len, hkl2])
 have Hk2z2 : Hid ((Tryz.prog.info? 24).map (·.size) = some (Lib.byteCells k2).toArray.size) := Lib.hid (by rw [Tryz.sizeKey, List.size_toArray, byteCells_len, hkl2])
 have Hk2o := Lib.hid (all_oneCell_toArray (cells_one k2))
 have Hs1 : Hid ((Lib.byteCells bk).toArray.size = 32) := Lib.hid (by rw [List.size_toArray, byteCells_len, hbl])
 have Hs2 : Hid ((Lib.byteCells k2).toArray.size = 32) := Lib.hid (by rw [List.size_toArray, byteCells_len, hkl2])
 obtain ⟨K1, hK1⟩ : ∃ x, Lib.byteCells bk = x := ⟨_, rfl⟩
 obtain ⟨K2, hK2⟩ : ∃ x, Lib.byteCells k2 = x := ⟨_, rfl⟩
 rw [hK1] at Hk1z Hk1z2 Hk1o Hs1
 rw [hK2] at Hk2z Hk2z2 Hk2o Hs2 hK
 simp only [hK1] at hbound
 simp only [hK2] at hspent
 have HK1 := Lib.hid hK1
 have HK2 := Lib.hid hK2
 have HRe := Lib.hid hRe
 have Hbound := Lib.hid hbound
 have Hspent := Lib.hid hspent
 have hszC := World.block_lt_of_cell? _ _ c0
 have hsz2 : w.heap.size + 1 < ((w.alloc (.cells C 54)).alloc (.cells #[.int .u8 0, .int .u8 0, .int .u8 0, .int .u8 0, .int .u8 0, .int .u8 0, .int .u8 0, .int .u8 0, .int .u8 0, .int .u8 0, .int .u8 0, .int .u8 0, .int .u8 0, .int .u8 0, .int .u8 0, .int .u8 0, .int .u8 0, .int .u8 0, .int .u8 0, .int .u8 0, .int .u8 0, .int .u8 0, .int .u8 0, .int .u8 0, .int .u8 0, .int .u8 0, .int .u8 0, .int .u8 0, .int .u8 0, .int .u8 0, .int .u8 0, .int .u8 0] 24)).heap.size := by rw [World.size_alloc, World.size_alloc]; omega
 clear hRe hbound hspent hK1 hK2 hkl2 hbl
 go_enter Tryz.func123, Tryz.ntmps123
 go_upto_region 1 with (fail)
 change Code.wp _ _ _ _ ((w.alloc (.cells C 54)).alloc (.cells #[.int .u8 0, .int .u8 0, .int .u8 0, .int .u8 0, .int .u8 0, .int .u8 0, .int .u8 0, .int .u8 0, .int .u8 0, .int .u8 0, .int .u8 0, .int .u8 0, .int .u8 0, .int .u8 0, .int .u8 0, .int .u8 0, .int .u8 0, .int .u8 0, .int .u8 0, .int .u8 0, .int .u8 0, .int .u8 0, .int .u8 0, .int .u8 0, .int .u8 0, .int .u8 0, .int .u8 0, .int .u8 0, .int .u8 0, .int .u8 0, .int .u8 0, .int .u8 0] 24))
 obtain ⟨W, hW⟩ : ∃ W, (w.alloc (.cells C 54)).alloc (.cells #[.int .u8 0, .int .u8 0, .int .u8 0, .int .u8 0, .int .u8 0, .int .u8 0, .int .u8 0, .int .u8 0, .int .u8 0, .int .u8 0, .int .u8 0, .int .u8 0, .int .u8 0, .int .u8 0, .int .u8 0, .int .u8 0, .int .u8 0, .int .u8 0, .int .u8 0, .int .u8 0, .int .u8 0, .int .u8 0, .int .u8 0, .int .u8 0, .int .u8 0, .int .u8 0, .int .u8 0, .int .u8 0, .int .u8 0, .int .u8 0, .int .u8 0, .int .u8 0] 24) = W := ⟨_, rfl⟩
 rw [hW] at hF hTp c0 hK hszC hsz2 ⊢
 obtain ⟨p, hpp⟩ : ∃ p, w.heap.size = p := ⟨_, rfl⟩
 rw [hpp] at hTp c0 hK hszC hsz2 ⊢
 have Hpp := Lib.hid hpp
 clear hW hpp
 have HF := Lib.hid hF
 have HTp := Lib.hid hTp
 have HK := Lib.hid hK
 have HpW := Lib.hid hszC
 have Hp2W := Lib.hid hsz2
 clear hF hTp hK hszC hsz2
 obtain ⟨p2, hp2⟩ : ∃ x, p + 1 = x := ⟨_, rfl⟩
 rw [hp2] at HTp Hp2W ⊢
 have Hpp2 := Lib.hid hp2
 clear hp2
 cases idn with
 | nil =>
   have HR2 : Hid ((if sp = true then (zero32, false) else (k2, true)) = R) := Lib.hid (by have := HRe.out; simpa using this)
   clear HRe Hbound
   go_wp2_with (with_reducible refine wpList_load_mid rfl 24 _ rfl p 1 rfl K2 (.array 32 5) HK.out Tryz.underKey rfl Hk2z.out ?_)
   refine (Hspent.out _ HF.out).mono ?_
   rintro r w2 ⟨rfl, hF2⟩
   have HT2 := Lib.hid (there_fr HTp.out hF2 Hp2W.out (fun _ h => h))
   have HKr := Lib.hid (range_fr HK.out hF2 HpW.out (fun _ h => h))
   have HG2 := Lib.hid hF2
   clear hF2
   cases sp with
   | true =>
     have hR := HR2.out.symm
     simp only [if_true] at hR
     have HTk : Hid (w2.there p2 0 (#[.int .u8 0, .int .u8 0, .int .u8 0, .int .u8 0, .int .u8 0, .int .u8 0, .int .u8 0, .int .u8 0, .int .u8 0, .int .u8 0, .int .u8 0, .int .u8 0, .int .u8 0, .int .u8 0, .int .u8 0, .int .u8 0, .int .u8 0, .int .u8 0, .int .u8 0, .int .u8 0, .int .u8 0, .int .u8 0, .int .u8 0, .int .u8 0, .int .u8 0, .int .u8 0, .int .u8 0, .int .u8 0, .int .u8 0, .int .u8 0, .int .u8 0, .int .u8 0] : Array Value).size) := HT2
     go_wp2_with ((with_reducible refine wpList_store_mid rfl 24 _ _ rfl p2 0 #[.int .u8 0, .int .u8 0, .int .u8 0, .int .u8 0, .int .u8 0, .int .u8 0, .int .u8 0, .int .u8 0, .int .u8 0, .int .u8 0, .int .u8 0, .int .u8 0, .int .u8 0, .int .u8 0, .int .u8 0, .int .u8 0, .int .u8 0, .int .u8 0, .int .u8 0, .int .u8 0, .int .u8 0, .int .u8 0, .int .u8 0, .int .u8 0, .int .u8 0, .int .u8 0, .int .u8 0, .int .u8 0, .int .u8 0, .int .u8 0, .int .u8 0, .int .u8 0] ?_ ?_ HTk.out z32s z32a ?_); rfl; rfl)
     have hld := run_loadVar_mid (P := Tryz.prog) _ p2 0 24 _ (.array 32 5) (World.rangeAt_setCells_same w2 p2 0 (#[.int .u8 0, .int .u8 0, .int .u8 0, .int .u8 0, .int .u8 0, .int .u8 0, .int .u8 0, .int .u8 0, .int .u8 0, .int .u8 0, .int .u8 0, .int .u8 0, .int .u8 0, .int .u8 0, .int .u8 0, .int .u8 0, .int .u8 0, .int .u8 0, .int .u8 0, .int .u8 0, .int .u8 0, .int .u8 0, .int .u8 0, .int .u8 0, .int .u8 0, .int .u8 0, .int .u8 0, .int .u8 0, .int .u8 0, .int .u8 0, .int .u8 0, .int .u8 0] : Array Value).toList HTk.out) Tryz.underKey rfl z32s
     refine bodyPost_ret (v := .tuple #[.agg #[.int .u8 0, .int .u8 0, .int .u8 0, .int .u8 0, .int .u8 0, .int .u8 0, .int .u8 0, .int .u8 0, .int .u8 0, .int .u8 0, .int .u8 0, .int .u8 0, .int .u8 0, .int .u8 0, .int .u8 0, .int .u8 0, .int .u8 0, .int .u8 0, .int .u8 0, .int .u8 0, .int .u8 0, .int .u8 0, .int .u8 0, .int .u8 0, .int .u8 0, .int .u8 0, .int .u8 0, .int .u8 0, .int .u8 0, .int .u8 0, .int .u8 0, .int .u8 0], .bool false]) ?_ rfl ⟨by rw [hR]; rfl, (HF.out.trans' HG2.out).trans (setCells_fr _ _ _ _) (fun k _ hm => .inr (by have := Hpp.out; have := Hpp2.out; omega))⟩
     rw [results_cell_tmp rfl]
     try simp only [Array.toArray_toList] at hld
     simp [asAddr, Result.andThen, hld]
   | false =>
     have hR := HR2.out.symm
     simp only [Bool.false_eq_true, if_false] at hR
     have HTk : Hid (w2.there p2 0 K2.toArray.size) := Lib.hid (by rw [Hs2.out]; exact HT2.out)
     go_wp2_with (first
      | (with_reducible refine wpList_load_mid rfl 24 _ rfl p 1 rfl K2 (.array 32 5) HKr.out Tryz.underKey rfl Hk2z.out ?_)
      | ((with_reducible refine wpList_store_mid rfl 24 _ _ rfl p2 0 K2.toArray ?_ ?_ HTk.out Hk2z2.out Hk2o.out ?_); rfl; rfl))
     have hld := run_loadVar_mid (P := Tryz.prog) _ p2 0 24 K2 (.array 32 5) (World.rangeAt_setCells_same (w2) p2 0 K2 (by simpa using HTk.out)) Tryz.underKey rfl Hk2z.out
     refine bodyPost_ret (v := .tuple #[.agg (K2).toArray, .bool true]) ?_ rfl ⟨?_, (HF.out.trans' HG2.out).trans (setCells_fr _ _ _ _) (fun k _ hm => .inr (by have := Hpp.out; have := Hpp2.out; omega))⟩
     ·rw [results_cell_tmp rfl]
      simp [asAddr, Result.andThen, hld]
     ·rw [hR]; simp only [HK2.out]
 | cons x0 xs =>
   have hR : R = (bk, bh) := by have := HRe.out; simpa using this.symm
   clear HRe Hspent
   go_wp2_with fail
   refine (Hbound.out _ HF.out).mono ?_
   rintro r w2 ⟨rfl, hF2⟩
   have HT2 := Lib.hid (there_fr HTp.out hF2 Hp2W.out (fun _ h => h))
   have HG2 := Lib.hid hF2
   have HTk : Hid (w2.there p2 0 K1.toArray.size) := Lib.hid (by rw [Hs1.out]; exact HT2.out)
   clear hF2
   go_wp2_with ((with_reducible refine wpList_store_mid rfl 24 _ _ rfl p2 0 K1.toArray ?_ ?_ HTk.out Hk1z2.out Hk1o.out ?_); rfl; rfl)
   have hld := run_loadVar_mid (P := Tryz.prog) _ p2 0 24 K1 (.array 32 5) (World.rangeAt_setCells_same (w2) p2 0 K1 (by simpa using HTk.out)) Tryz.underKey rfl Hk1z.out
   refine bodyPost_ret (v := .tuple #[.agg (K1).toArray, .bool bh]) ?_ rfl ⟨?_, (HF.out.trans' HG2.out).trans (setCells_fr _ _ _ _) (fun k _ hm => .inr (by have := Hpp.out; have := Hpp2.out; omega))⟩
   ·rw [results_cell_tmp rfl]
    simp [asAddr, Result.andThen, hld]
   ·rw [hR]; simp only [HK1.out]
end Go.Proofs.YtcddlemkimbkcaaGreatDoor
namespace Go.Proofs.YtcddlemkimbkcaaGreatDoor
set_option linter.unusedVariables false
set_option linter.unusedSimpArgs false
set_option linter.unusedSectionVars false
open Go.RowKit Go.Shelf
variable [OldK]
set_option maxRecDepth 100000 in
set_option maxHeartbeats 2000000 in
theorem signer17_c {base tb n bc bl : Nat} {t : Tb} {g lv : Bs → Option Value} (m : List CameV) (v : Value) (s : Sg) (w : World) (h : TBL base tb n bc bl t g lv w) (hm : CRow m v w) (ht : Tied t (m.map CameV.cm)) (hs : s.ok) (hi : s.id.length ≤ maxLen) :
 Calls Tryz.prog 76 #[.pointer (some ⟨tb, 0, none⟩), v, .agg s.cells] w fun e w' => e = .returned (.bool true) ∧ Fr NoB w w' := by
 have hF : Fr NoB w (w.alloc (.cells s.cells 54)) := Fr.refl.alloc _
 have hR := range_block (heap_alloc_new w (.cells s.cells 54))
 have hpW : w.heap.size < (w.alloc (.cells s.cells 54)).heap.size := by rw [World.size_alloc]; omega
 have hkey := fun V (hV : Fr NoB w V) => key_c s V (h.keep hV) hs hi
 have hrk := fun V (hV : Fr NoB w V) => refKey_c m v s V (hm.keep hV) hs
 have hko := ht.keyOf s
 have hrl := rKey_len hm.ok hs
 obtain ⟨⟨rk, rb⟩, hrb⟩ : ∃ x, rKey (m.map CameV.cm) s = x := ⟨_, rfl⟩
 rw [hrb] at hko hrl
 simp only [hrb] at hrk
 simp only at hko hrl
 simp only [hko] at hkey
 have hz : (Tryz.prog.info? 54).map (·.size) = some s.cells.toList.length := by rw [Tryz.sizeSg, Array.length_toList, Sg.size hs]
 have hag : Value.agg s.cells = .agg s.cells.toList.toArray := by simp
 obtain ⟨C, hC⟩ : ∃ C, s.cells.toList = C := ⟨_, rfl⟩
 have hCa : s.cells = C.toArray := by rw [← hC]
 rw [hC] at hR hz
 rw [hCa] at hF hR hpW ⊢
 simp only [hCa] at hkey hrk
 obtain ⟨dS, huS, hdS⟩ := Tryz.rowSg2
 have HuS := Lib.hid huS
 have HdS := Lib.hid hdS
 have hbl := byteCells_len rk
 rw [hrl] at hbl
 have ho1 := all_oneCell_toArray (cells_one rk)
 have heqi := fun V => eqIn_key rk rk hrl hrl V
 simp only [beq_self_eq_true] at heqi
 obtain ⟨KC, hKC⟩ : ∃ x, Lib.byteCells rk = x := ⟨_, rfl⟩
 have HKC := Lib.hid hKC
 have Hrl := Lib.hid hrl
 have HF := Lib.hid hF
 have HR := Lib.hid hR
 have HZ := Lib.hid hz
 have HpW := Lib.hid hpW
 have HM := Lib.hid hm
 clear hF hR hz hpW hko hrl hrb hC hCa hag huS hdS h hm ht hs hi
 cases rb with
 | true =>
   simp only [if_true, hKC, show errV 0 = .nilIface from rfl] at hkey
   simp only [hKC] at hrk hbl ho1 heqi
   have Hkz : Hid ((Tryz.prog.info? 24).map (·.size) = some KC.length) := Lib.hid (by rw [Tryz.sizeKey, hbl])
   have Hkz2 : Hid ((Tryz.prog.info? 24).map (·.size) = some KC.toArray.size) := Lib.hid (by rw [Tryz.sizeKey, List.size_toArray, hbl])
   have Hkz3 : Hid ((#[.int .u8 0, .int .u8 0, .int .u8 0, .int .u8 0, .int .u8 0, .int .u8 0, .int .u8 0, .int .u8 0, .int .u8 0, .int .u8 0, .int .u8 0, .int .u8 0, .int .u8 0, .int .u8 0, .int .u8 0, .int .u8 0, .int .u8 0, .int .u8 0, .int .u8 0, .int .u8 0, .int .u8 0, .int .u8 0, .int .u8 0, .int .u8 0, .int .u8 0, .int .u8 0, .int .u8 0, .int .u8 0, .int .u8 0, .int .u8 0, .int .u8 0, .int .u8 0] : Array Value).size = KC.toArray.size) := Lib.hid (by rw [show KC.toArray.size = 32 by rw [List.size_toArray, hbl]]; rfl)
   have Ho1 := Lib.hid ho1
   have Hkey := Lib.hid hkey
   have Hrk := Lib.hid hrk
   have Heqi := Lib.hid heqi
   clear hkey hrk hbl ho1 hKC heqi
   go_enter Tryz.func76, Tryz.ntmps76
   go_upto_region 1 with (fail)
   change Code.wp _ _ _ _ (w.alloc (.cells C.toArray 54))
   obtain ⟨W, hW⟩ : ∃ W, w.alloc (.cells C.toArray 54) = W := ⟨_, rfl⟩
   rw [hW] at HF HR HpW ⊢
   obtain ⟨p, hpp⟩ : ∃ p, w.heap.size = p := ⟨_, rfl⟩
   rw [hpp] at HR HpW ⊢
   clear hW hpp
   go_wp2_with (with_reducible refine wpList_load_mid rfl 54 _ rfl p 0 rfl C dS HR.out HuS.out HdS.out HZ.out ?_)
   refine (Hkey.out _ HF.out).mono ?_
   rintro r w2 ⟨rfl, hF2⟩
   have hF3 := hF2.alloc (.cells KC.toArray 24)
   have hq3 := range_block (heap_alloc_new w2 (.cells KC.toArray 24))
   rw [List.toList_toArray] at hq3
   have hqw : w2.heap.size < (w2.alloc (.cells KC.toArray 24)).heap.size := by rw [World.size_alloc]; omega
   go_upto_region 2 with ((with_reducible refine wpList_store_new (w := w2) rfl 24 _ _ rfl _ KC.toArray w2.heap.size rfl ?_ ?_ Hkz2.out Hkz3.out Ho1.out ?_); rfl; rfl)
   change Code.wp _ _ _ _ (w2.alloc (.cells KC.toArray 24))
   obtain ⟨w3, hw3⟩ : ∃ V, w2.alloc (.cells KC.toArray 24) = V := ⟨_, rfl⟩
   rw [hw3] at hF3 hq3 hqw ⊢
   obtain ⟨q3, hq3e⟩ : ∃ x, w2.heap.size = x := ⟨_, rfl⟩
   rw [hq3e] at hq3 hqw ⊢
   have HR3 := Lib.hid (range_fr HR.out hF3 HpW.out (fun _ h => h))
   have HQ3 := Lib.hid hq3
   have Hqw := Lib.hid hqw
   have HF3 := Lib.hid (HF.out.trans' hF3)
   clear hF2 hF3 hq3 hqw hw3 hq3e
   go_wp2_with (with_reducible refine wpList_load_mid rfl 54 _ rfl p 0 rfl C dS HR3.out HuS.out HdS.out HZ.out ?_)
   refine (Hrk.out _ HF3.out).mono ?_
   rintro r w4 ⟨rfl, hF4⟩
   have hF5 := hF4.alloc (.cells KC.toArray 24)
   have hq5 := range_block (heap_alloc_new w4 (.cells KC.toArray 24))
   rw [List.toList_toArray] at hq5
   go_upto_region 3 with ((with_reducible refine wpList_store_new (w := w4) rfl 24 _ _ rfl _ KC.toArray w4.heap.size rfl ?_ ?_ Hkz2.out Hkz3.out Ho1.out ?_); rfl; rfl)
   change Code.wp _ _ _ _ (w4.alloc (.cells KC.toArray 24))
   obtain ⟨w5, hw5⟩ : ∃ V, w4.alloc (.cells KC.toArray 24) = V := ⟨_, rfl⟩
   rw [hw5] at hF5 hq5 ⊢
   obtain ⟨q5, hq5e⟩ : ∃ x, w4.heap.size = x := ⟨_, rfl⟩
   rw [hq5e] at hq5 ⊢
   have HQ35 := Lib.hid (range_fr HQ3.out hF5 Hqw.out (fun _ h => h))
   have HQ5 := Lib.hid hq5
   have HF5 := Lib.hid (HF3.out.trans' hF5)
   have heqi := Heqi.out w5
   clear hF4 hF5 hq5 hw5 hq5e
   go_wp2_with (first
    | (with_reducible refine wpList_load_g 24 _ rfl q3 0 rfl KC (.array 32 5) HQ35.out Tryz.underKey rfl Hkz.out rfl ?_)
    | (with_reducible refine wpList_load_g 24 _ rfl q5 0 rfl KC (.array 32 5) HQ5.out Tryz.underKey rfl Hkz.out rfl ?_))
   go_ret
   exact ⟨rfl, HF5.out⟩
 | false =>
   simp only [Bool.false_eq_true, if_false, show errV 8 = .iface 56 (.int .i64 8) from rfl] at hkey
   simp only [hKC] at hrk hbl ho1
   obtain ⟨ZC, hZC⟩ : ∃ x, Lib.byteCells zero32 = x := ⟨_, rfl⟩
   have hzl : ZC.length = 32 := by rw [← hZC, byteCells_len]; rfl
   have hz1 := all_oneCell_toArray (cells_one zero32)
   have heqz : ∀ V, (Op.equalIn 10000 24 (.agg ZC.toArray) (.agg #[.int .u8 0, .int .u8 0, .int .u8 0, .int .u8 0, .int .u8 0, .int .u8 0, .int .u8 0, .int .u8 0, .int .u8 0, .int .u8 0, .int .u8 0, .int .u8 0, .int .u8 0, .int .u8 0, .int .u8 0, .int .u8 0, .int .u8 0, .int .u8 0, .int .u8 0, .int .u8 0, .int .u8 0, .int .u8 0, .int .u8 0, .int .u8 0, .int .u8 0, .int .u8 0, .int .u8 0, .int .u8 0, .int .u8 0, .int .u8 0, .int .u8 0, .int .u8 0])).run Tryz.prog V = .ok true V := fun V => by rw [← hZC]; exact eqz_key zero32 rfl V
   simp only [hZC] at hkey hz1
   have Hkz2 : Hid ((Tryz.prog.info? 24).map (·.size) = some KC.toArray.size) := Lib.hid (by rw [Tryz.sizeKey, List.size_toArray, hbl])
   have Hkz3 : Hid ((#[.int .u8 0, .int .u8 0, .int .u8 0, .int .u8 0, .int .u8 0, .int .u8 0, .int .u8 0, .int .u8 0, .int .u8 0, .int .u8 0, .int .u8 0, .int .u8 0, .int .u8 0, .int .u8 0, .int .u8 0, .int .u8 0, .int .u8 0, .int .u8 0, .int .u8 0, .int .u8 0, .int .u8 0, .int .u8 0, .int .u8 0, .int .u8 0, .int .u8 0, .int .u8 0, .int .u8 0, .int .u8 0, .int .u8 0, .int .u8 0, .int .u8 0, .int .u8 0] : Array Value).size = KC.toArray.size) := Lib.hid (by rw [show KC.toArray.size = 32 by rw [List.size_toArray, hbl]]; rfl)
   have Ho1 := Lib.hid ho1
   have Hzz : Hid ((Tryz.prog.info? 24).map (·.size) = some ZC.length) := Lib.hid (by rw [Tryz.sizeKey, hzl])
   have Hzz2 : Hid ((Tryz.prog.info? 24).map (·.size) = some ZC.toArray.size) := Lib.hid (by rw [Tryz.sizeKey, List.size_toArray, hzl])
   have Hzz3 : Hid ((#[.int .u8 0, .int .u8 0, .int .u8 0, .int .u8 0, .int .u8 0, .int .u8 0, .int .u8 0, .int .u8 0, .int .u8 0, .int .u8 0, .int .u8 0, .int .u8 0, .int .u8 0, .int .u8 0, .int .u8 0, .int .u8 0, .int .u8 0, .int .u8 0, .int .u8 0, .int .u8 0, .int .u8 0, .int .u8 0, .int .u8 0, .int .u8 0, .int .u8 0, .int .u8 0, .int .u8 0, .int .u8 0, .int .u8 0, .int .u8 0, .int .u8 0, .int .u8 0] : Array Value).size = ZC.toArray.size) := Lib.hid (by rw [show ZC.toArray.size = 32 by rw [List.size_toArray, hzl]]; rfl)
   have Hz1 := Lib.hid hz1
   have Hkey := Lib.hid hkey
   have Hrk := Lib.hid hrk
   have Heqz := Lib.hid heqz
   have His := Lib.hid (fun V => numIs_c 8 8 (by omega) V)
   simp only [show errV 8 = .iface 56 (.int .i64 8) from rfl] at His
   clear hkey hrk hbl ho1 hKC heqi heqz hzl hz1 hZC
   go_enter Tryz.func76, Tryz.ntmps76
   go_upto_region 1 with (fail)
   change Code.wp _ _ _ _ (w.alloc (.cells C.toArray 54))
   obtain ⟨W, hW⟩ : ∃ W, w.alloc (.cells C.toArray 54) = W := ⟨_, rfl⟩
   rw [hW] at HF HR HpW ⊢
   obtain ⟨p, hpp⟩ : ∃ p, w.heap.size = p := ⟨_, rfl⟩
   rw [hpp] at HR HpW ⊢
   clear hW hpp
   go_wp2_with (with_reducible refine wpList_load_mid rfl 54 _ rfl p 0 rfl C dS HR.out HuS.out HdS.out HZ.out ?_)
   refine (Hkey.out _ HF.out).mono ?_
   rintro r w2 ⟨rfl, hF2⟩
   have hF3 := hF2.alloc (.cells ZC.toArray 24)
   have hq3 := range_block (heap_alloc_new w2 (.cells ZC.toArray 24))
   rw [List.toList_toArray] at hq3
   have hqw : w2.heap.size < (w2.alloc (.cells ZC.toArray 24)).heap.size := by rw [World.size_alloc]; omega
   go_upto_region 2 with ((with_reducible refine wpList_store_new (w := w2) rfl 24 _ _ rfl _ ZC.toArray w2.heap.size rfl ?_ ?_ Hzz2.out Hzz3.out Hz1.out ?_); rfl; rfl)
   change Code.wp _ _ _ _ (w2.alloc (.cells ZC.toArray 24))
   obtain ⟨w3, hw3⟩ : ∃ V, w2.alloc (.cells ZC.toArray 24) = V := ⟨_, rfl⟩
   rw [hw3] at hF3 hq3 hqw ⊢
   obtain ⟨q3, hq3e⟩ : ∃ x, w2.heap.size = x := ⟨_, rfl⟩
   rw [hq3e] at hq3 hqw ⊢
   have HR3 := Lib.hid (range_fr HR.out hF3 HpW.out (fun _ h => h))
   have HQ3 := Lib.hid hq3
   have Hqw := Lib.hid hqw
   have HF3 := Lib.hid (HF.out.trans' hF3)
   clear hF2 hF3 hq3 hqw hw3 hq3e
   go_wp2_with (with_reducible refine wpList_load_mid rfl 54 _ rfl p 0 rfl C dS HR3.out HuS.out HdS.out HZ.out ?_)
   refine (Hrk.out _ HF3.out).mono ?_
   rintro r w4 ⟨rfl, hF4⟩
   have hF5 := hF4.alloc (.cells KC.toArray 24)
   go_upto_region 3 with ((with_reducible refine wpList_store_new (w := w4) rfl 24 _ _ rfl _ KC.toArray w4.heap.size rfl ?_ ?_ Hkz2.out Hkz3.out Ho1.out ?_); rfl; rfl)
   change Code.wp _ _ _ _ (w4.alloc (.cells KC.toArray 24))
   obtain ⟨w5, hw5⟩ : ∃ V, w4.alloc (.cells KC.toArray 24) = V := ⟨_, rfl⟩
   rw [hw5] at hF5 ⊢
   obtain ⟨q5, hq5e⟩ : ∃ x, w4.heap.size = x := ⟨_, rfl⟩
   rw [hq5e]
   have HQ35 := Lib.hid (range_fr HQ3.out hF5 Hqw.out (fun _ h => h))
   have HF5 := Lib.hid (HF3.out.trans' hF5)
   clear hF4 hF5 hw5 hq5e
   go_wp2_with fail
   refine (His.out _).mono ?_
   rintro r w6 ⟨rfl, rfl⟩
   have heqz := Heqz.out w5
   go_wp2_with (with_reducible refine wpList_load_g 24 _ rfl q3 0 rfl ZC (.array 32 5) HQ35.out Tryz.underKey rfl Hzz.out rfl ?_)
   go_ret
   exact ⟨rfl, HF5.out⟩
end Go.Proofs.YtcddlemkimbkcaaGreatDoor
