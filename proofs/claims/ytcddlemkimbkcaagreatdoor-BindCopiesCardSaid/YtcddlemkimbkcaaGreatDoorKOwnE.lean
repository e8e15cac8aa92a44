/-
 The walk of entry.blank.
-/
import Derived.Test.YtcddlemkimbkcaaGreatDoorKEnAt
import Derived.Test.YtcddlemkimbkcaaGreatDoorKSigEq
import Derived.Test.YtcddlemkimbkcaaGreatDoorKSpecCheck
namespace Go.Proofs.YtcddlemkimbkcaaGreatDoor
set_option linter.unusedVariables false
set_option linter.unusedSimpArgs false
set_option linter.unusedSectionVars false
open Go.RowKit
variable [OldK]
theorem Tryz.anyEntry : ((Tryz.prog.underlying 39).any (·.isRow)) = true := by kernel_rfl
theorem Tryz.rowEntry : ∃ d, Tryz.prog.underlying 39 = some d ∧ d.isRow = true := by
 have h := Tryz.anyEntry
 cases hq : Tryz.prog.underlying 39 with
 | none => rw [hq] at h; simp at h
 | some d => rw [hq] at h; exact ⟨d, rfl, by simpa using h⟩
theorem Tryz.sizeEntry : (Tryz.prog.info? 39).map (·.size) = some 70 := by kernel_rfl
/-- the payload that 'blank' leaves -/
def bPay (e : En) (pv : Value) : Value := if e.kind = 2 ∨ e.kind = 3 then .slice none 0 0 else pv
set_option maxRecDepth 100000 in
set_option maxHeartbeats 2000000 in
theorem blank_c (e : En) (pv sv : Value) (w : World) (hok : e.ok) (hp : pv.oneCell' = true) (hs : sv.oneCell' = true) :
 Calls Tryz.prog 109 #[.agg (e.cells pv sv).toArray] w fun r w' => r = .returned (.agg ((pBlank e).cells (bPay e pv) sv).toArray) ∧ Fr NoB w w' := by
 have hsz := En.size hok pv sv
 have hsz2 := En.size (pBlank_ok hok) (bPay e pv) sv
 obtain ⟨d, hu, hd⟩ := Tryz.rowEntry
 have hR : ((w.alloc (.cells (e.cells pv sv).toArray 39)).alloc (.cells Tryz.zeroCells39 39)).rangeAt w.heap.size 0 (e.cells pv sv) := World.rangeAt_alloc (by simpa using range_block (heap_alloc_new w (.cells (e.cells pv sv).toArray 39))) _
 have hTp : ((w.alloc (.cells (e.cells pv sv).toArray 39)).alloc (.cells Tryz.zeroCells39 39)).there w.heap.size 0 70 := World.there_alloc (there_block (heap_alloc_new w _) (by simp [hsz])) _
 have hTq : ((w.alloc (.cells (e.cells pv sv).toArray 39)).alloc (.cells Tryz.zeroCells39 39)).there (w.heap.size + 1) 0 70 := by
  have := there_block (heap_alloc_new (w.alloc (.cells (e.cells pv sv).toArray 39)) (.cells Tryz.zeroCells39 39)) (n := 70) (Nat.le_refl _)
  rwa [World.size_alloc] at this
 have hF : Fr NoB w ((w.alloc (.cells (e.cells pv sv).toArray 39)).alloc (.cells Tryz.zeroCells39 39)) := (Fr.refl.alloc _).alloc _
 obtain ⟨c0, -, -, -, c4, -, -, -⟩ := En.parts hok hR
 have hO1 := En.one (e := e) hp hs
 obtain ⟨cs, hcs⟩ : ∃ cs, (e.cells pv sv).toArray = cs := ⟨_, rfl⟩
 rw [hcs] at hR hTp hTq hF c0 c4 ⊢
 clear hcs
 obtain ⟨R, hRv⟩ : ∃ R, ((pBlank e).cells (bPay e pv) sv).toArray = R := ⟨_, rfl⟩
 rw [hRv]
 have HRv := Lib.hid hRv
 clear hRv
 go_enter Tryz.func109, Tryz.ntmps109
 go_upto_region 1 with (fail)
 change Code.wp _ _ _ _ ((w.alloc (.cells cs 39)).alloc (.cells Tryz.zeroCells39 39))
 obtain ⟨W, hW⟩ : ∃ W, (w.alloc (.cells cs 39)).alloc (.cells Tryz.zeroCells39 39) = W := ⟨_, rfl⟩
 rw [hW] at hR hTp hTq hF c0 c4 ⊢
 obtain ⟨p, hpp⟩ : ∃ p, w.heap.size = p := ⟨_, rfl⟩
 obtain ⟨q, hq⟩ : ∃ q, p + 1 = q := ⟨_, rfl⟩
 have hpq : p < q := by omega
 have hwq : w.heap.size ≤ p := by omega
 rw [hpp] at hR hTp hTq c0 c4
 rw [hpp, hq]
 rw [hq] at hTq
 clear hW hpp hq
 have HR := Lib.hid hR
 have HTp := Lib.hid hTp
 have HTq := Lib.hid hTq
 have HF := Lib.hid hF
 have Hok := Lib.hid hok
 have Hu := Lib.hid hu
 have Hd := Lib.hid hd
 have H32 := Lib.hid (show ((#[.int .u8 0, .int .u8 0, .int .u8 0, .int .u8 0, .int .u8 0, .int .u8 0, .int .u8 0, .int .u8 0, .int .u8 0, .int .u8 0, .int .u8 0, .int .u8 0, .int .u8 0, .int .u8 0, .int .u8 0, .int .u8 0, .int .u8 0, .int .u8 0, .int .u8 0, .int .u8 0, .int .u8 0, .int .u8 0, .int .u8 0, .int .u8 0, .int .u8 0, .int .u8 0, .int .u8 0, .int .u8 0, .int .u8 0, .int .u8 0, .int .u8 0, .int .u8 0] : Array Value).all (·.oneCell')) = true by simp [Value.oneCell'])
 have HT1 := Lib.hid (show W.there p 1 32 from fun j hj => by have := hTp (1 + j) (by omega); rwa [Nat.zero_add] at this)
 have HT37 := Lib.hid (show W.there p 37 32 from fun j hj => by have := hTp (37 + j) (by omega); rwa [Nat.zero_add] at this)
 have HO1 := Lib.hid hO1
 clear hR hTp hTq hF hok hu hd hsz hsz2 hO1
 obtain ⟨k, dg, ty, pl, op, idn, ky, sg⟩ := e
 simp only at c0 c4
 by_cases h1 : k = 1
 ·subst h1
  have hok1 : En.ok ⟨1, zero32, ty, pl, op, idn, ky, sg⟩ := ⟨rfl, Hok.out.2⟩
  have hR1 := En.setDigest Hok.out HR.out zero32 rfl
  have hF1 := HF.out.trans (setCells_fr p (Lib.byteCells zero32) 1 W) (fun k _ hm => .inr (by omega))
  clear c4
  have Hbl := Lib.hid (show (En.cells ⟨1, zero32, ty, pl, op, idn, ky, sg⟩ pv sv).toArray = R from HRv.out)
  have Hz := Lib.hid (show (Tryz.prog.info? 39).map (·.size) = some (En.cells ⟨1, zero32, ty, pl, op, idn, ky, sg⟩ pv sv).length by rw [Tryz.sizeEntry, En.size hok1])
  have Hz2 := Lib.hid (show (Tryz.prog.info? 39).map (·.size) = some (En.cells ⟨1, zero32, ty, pl, op, idn, ky, sg⟩ pv sv).toArray.size by rw [Tryz.sizeEntry]; simp [En.size hok1])
  have HO := Lib.hid (En.one (e := ⟨1, zero32, ty, pl, op, idn, ky, sg⟩) (pv := pv) (by first | exact hp | rfl) hs)
  have HR1 := Lib.hid hR1
  have HF1 := Lib.hid hF1
  have HTW := HTq.out
  have HT2 := Lib.hid (show (W.setCells p 1 (Lib.byteCells zero32)).there q 0 (En.cells ⟨1, zero32, ty, pl, op, idn, ky, sg⟩ pv sv).toArray.size by
   rw [show (En.cells ⟨1, zero32, ty, pl, op, idn, ky, sg⟩ pv sv).toArray.size = 70 by simp [En.size hok1]]
   repeat (first | with_reducible exact HTW | with_reducible refine World.there_setCells ?_ _ _ _ | with_reducible refine there_setCell ?_ _ _ _))
  obtain ⟨W1, hW1⟩ : ∃ W1, W.setCells p 1 (Lib.byteCells zero32) = W1 := ⟨_, rfl⟩
  obtain ⟨C1, hC1⟩ : ∃ C, En.cells ⟨1, zero32, ty, pl, op, idn, ky, sg⟩ pv sv = C := ⟨_, rfl⟩
  rw [hC1] at Hbl Hz Hz2 HO HT2 HR1
  rw [hW1] at HR1 HF1 HT2
  have HW1 := Lib.hid hW1
  clear hW1 hC1
  go_upto_region 12 with (refine wpList_store_mid rfl 23 _ _ rfl p 1 #[.int .u8 0, .int .u8 0, .int .u8 0, .int .u8 0, .int .u8 0, .int .u8 0, .int .u8 0, .int .u8 0, .int .u8 0, .int .u8 0, .int .u8 0, .int .u8 0, .int .u8 0, .int .u8 0, .int .u8 0, .int .u8 0, .int .u8 0, .int .u8 0, .int .u8 0, .int .u8 0, .int .u8 0, .int .u8 0, .int .u8 0, .int .u8 0, .int .u8 0, .int .u8 0, .int .u8 0, .int .u8 0, .int .u8 0, .int .u8 0, .int .u8 0, .int .u8 0] rfl rfl HT1.out Tryz.sizeSum H32.out ?_)
  change Code.wp _ _ _ _ (W.setCells p 1 (Lib.byteCells zero32))
  rw [HW1.out]
  go_wp2_with (first | (refine wpList_load_mid rfl 39 _ rfl p 0 rfl C1 d HR1.out Hu.out Hd.out Hz.out ?_) | (refine wpList_store_mid rfl 39 _ _ rfl q 0 C1.toArray rfl rfl HT2.out Hz2.out HO.out ?_))
  have hld := run_loadVar_mid (P := Tryz.prog) _ q 0 39 C1 d (World.rangeAt_setCells_same W1 q 0 C1 (by simpa using HT2.out)) Hu.out Hd.out Hz.out
  refine bodyPost_ret (v := .agg R) ?_ rfl ⟨rfl, (HF1.out).trans (setCells_fr _ _ _ _) (fun k _ hm => .inr (by omega))⟩
  rw [results_cell1 rfl]
  simp [asAddr, Result.andThen, hld, Hbl.out, Act.put]
 by_cases h2 : k = 2
 ·subst h2
  have hok1 : En.ok ⟨2, dg, [], pl, op, idn, ky, sg⟩ := Hok.out
  have hok2 : En.ok ⟨2, dg, [], [], op, idn, ky, sg⟩ := Hok.out
  have hR1 := En.setTyp Hok.out HR.out []
  have hR2 := En.setPay hok1 hR1 (.slice none 0 0) []
  have hF1 : Fr NoB w ((W.setCell ⟨p, 33, none⟩ (.string ⟨#[]⟩)).setCell ⟨p, 34, none⟩ (.slice none 0 0)) := (HF.out.setNew _ _ hwq).setNew _ _ hwq
  clear c4 hR1
  have hk1 : ((2 : Int) == 1) = false := rfl
  have hC33 : W.frozen? ⟨p, 33, none⟩ = false := (HTp.out 33 (by omega)).2
  have hC34 : W.frozen? ⟨p, 34, none⟩ = false := (HTp.out 34 (by omega)).2
  obtain ⟨-, -, c33, c34, -, -, -, -⟩ := En.parts Hok.out HR.out
  have Hbl := Lib.hid (show (En.cells ⟨2, dg, [], [], op, idn, ky, sg⟩ (.slice none 0 0) sv).toArray = R from HRv.out)
  have Hz := Lib.hid (show (Tryz.prog.info? 39).map (·.size) = some (En.cells ⟨2, dg, [], [], op, idn, ky, sg⟩ (.slice none 0 0) sv).length by rw [Tryz.sizeEntry, En.size hok2])
  have Hz2 := Lib.hid (show (Tryz.prog.info? 39).map (·.size) = some (En.cells ⟨2, dg, [], [], op, idn, ky, sg⟩ (.slice none 0 0) sv).toArray.size by rw [Tryz.sizeEntry]; simp [En.size hok2])
  have HO := Lib.hid (En.one (e := ⟨2, dg, [], [], op, idn, ky, sg⟩) (pv := (.slice none 0 0)) (by first | exact hp | rfl) hs)
  have HR1 := Lib.hid hR2
  have HF1 := Lib.hid hF1
  have HTW := HTq.out
  have HT2 := Lib.hid (show ((W.setCell ⟨p, 33, none⟩ (.string ⟨#[]⟩)).setCell ⟨p, 34, none⟩ (.slice none 0 0)).there q 0 (En.cells ⟨2, dg, [], [], op, idn, ky, sg⟩ (.slice none 0 0) sv).toArray.size by
   rw [show (En.cells ⟨2, dg, [], [], op, idn, ky, sg⟩ (.slice none 0 0) sv).toArray.size = 70 by simp [En.size hok2]]
   repeat (first | with_reducible exact HTW | with_reducible refine World.there_setCells ?_ _ _ _ | with_reducible refine there_setCell ?_ _ _ _))
  obtain ⟨W1, hW1⟩ : ∃ W1, (W.setCell ⟨p, 33, none⟩ (.string ⟨#[]⟩)).setCell ⟨p, 34, none⟩ (.slice none 0 0) = W1 := ⟨_, rfl⟩
  obtain ⟨C1, hC1⟩ : ∃ C, En.cells ⟨2, dg, [], [], op, idn, ky, sg⟩ (.slice none 0 0) sv = C := ⟨_, rfl⟩
  rw [hC1] at Hbl Hz Hz2 HO HT2 HR1
  rw [hW1] at HR1 HF1 HT2
  have HW1 := Lib.hid hW1
  clear hW1 hC1
  go_upto_region 12 with (fail)
  change Code.wp _ _ _ _ ((W.setCell ⟨p, 33, none⟩ (.string ⟨#[]⟩)).setCell ⟨p, 34, none⟩ (.slice none 0 0))
  rw [HW1.out]
  go_wp2_with (first | (refine wpList_load_mid rfl 39 _ rfl p 0 rfl C1 d HR1.out Hu.out Hd.out Hz.out ?_) | (refine wpList_store_mid rfl 39 _ _ rfl q 0 C1.toArray rfl rfl HT2.out Hz2.out HO.out ?_))
  have hld := run_loadVar_mid (P := Tryz.prog) _ q 0 39 C1 d (World.rangeAt_setCells_same W1 q 0 C1 (by simpa using HT2.out)) Hu.out Hd.out Hz.out
  refine bodyPost_ret (v := .agg R) ?_ rfl ⟨rfl, (HF1.out).trans (setCells_fr _ _ _ _) (fun k _ hm => .inr (by omega))⟩
  rw [results_cell1 rfl]
  simp [asAddr, Result.andThen, hld, Hbl.out, Act.put]
 by_cases h3 : k = 3
 ·subst h3
  have hok1 : En.ok ⟨3, dg, ty, [], op, idn, ky, sg⟩ := Hok.out
  have hR1 := En.setPay Hok.out HR.out (.slice none 0 0) []
  have hF1 : Fr NoB w (W.setCell ⟨p, 34, none⟩ (.slice none 0 0)) := HF.out.setNew _ _ hwq
  clear c4
  have hk1 : ((3 : Int) == 1) = false := rfl
  have hk2 : ((3 : Int) == 2) = false := rfl
  have hC34 : W.frozen? ⟨p, 34, none⟩ = false := (HTp.out 34 (by omega)).2
  obtain ⟨-, -, -, c34, -, -, -, -⟩ := En.parts Hok.out HR.out
  have Hbl := Lib.hid (show (En.cells ⟨3, dg, ty, [], op, idn, ky, sg⟩ (.slice none 0 0) sv).toArray = R from HRv.out)
  have Hz := Lib.hid (show (Tryz.prog.info? 39).map (·.size) = some (En.cells ⟨3, dg, ty, [], op, idn, ky, sg⟩ (.slice none 0 0) sv).length by rw [Tryz.sizeEntry, En.size hok1])
  have Hz2 := Lib.hid (show (Tryz.prog.info? 39).map (·.size) = some (En.cells ⟨3, dg, ty, [], op, idn, ky, sg⟩ (.slice none 0 0) sv).toArray.size by rw [Tryz.sizeEntry]; simp [En.size hok1])
  have HO := Lib.hid (En.one (e := ⟨3, dg, ty, [], op, idn, ky, sg⟩) (pv := (.slice none 0 0)) (by first | exact hp | rfl) hs)
  have HR1 := Lib.hid hR1
  have HF1 := Lib.hid hF1
  have HTW := HTq.out
  have HT2 := Lib.hid (show (W.setCell ⟨p, 34, none⟩ (.slice none 0 0)).there q 0 (En.cells ⟨3, dg, ty, [], op, idn, ky, sg⟩ (.slice none 0 0) sv).toArray.size by
   rw [show (En.cells ⟨3, dg, ty, [], op, idn, ky, sg⟩ (.slice none 0 0) sv).toArray.size = 70 by simp [En.size hok1]]
   repeat (first | with_reducible exact HTW | with_reducible refine World.there_setCells ?_ _ _ _ | with_reducible refine there_setCell ?_ _ _ _))
  obtain ⟨W1, hW1⟩ : ∃ W1, W.setCell ⟨p, 34, none⟩ (.slice none 0 0) = W1 := ⟨_, rfl⟩
  obtain ⟨C1, hC1⟩ : ∃ C, En.cells ⟨3, dg, ty, [], op, idn, ky, sg⟩ (.slice none 0 0) sv = C := ⟨_, rfl⟩
  rw [hC1] at Hbl Hz Hz2 HO HT2 HR1
  rw [hW1] at HR1 HF1 HT2
  have HW1 := Lib.hid hW1
  clear hW1 hC1
  go_upto_region 12 with (fail)
  change Code.wp _ _ _ _ (W.setCell ⟨p, 34, none⟩ (.slice none 0 0))
  rw [HW1.out]
  go_wp2_with (first | (refine wpList_load_mid rfl 39 _ rfl p 0 rfl C1 d HR1.out Hu.out Hd.out Hz.out ?_) | (refine wpList_store_mid rfl 39 _ _ rfl q 0 C1.toArray rfl rfl HT2.out Hz2.out HO.out ?_))
  have hld := run_loadVar_mid (P := Tryz.prog) _ q 0 39 C1 d (World.rangeAt_setCells_same W1 q 0 C1 (by simpa using HT2.out)) Hu.out Hd.out Hz.out
  refine bodyPost_ret (v := .agg R) ?_ rfl ⟨rfl, (HF1.out).trans (setCells_fr _ _ _ _) (fun k _ hm => .inr (by omega))⟩
  rw [results_cell1 rfl]
  simp [asAddr, Result.andThen, hld, Hbl.out, Act.put]
 by_cases h4 : k = 4
 ·subst h4
  have hk1 : ((4 : Int) == 1) = false := rfl
  have hk2 : ((4 : Int) == 2) = false := rfl
  have hk3 : ((4 : Int) == 3) = false := rfl
  have hC35 : W.frozen? ⟨p, 35, none⟩ = false := (HTp.out 35 (by omega)).2
  have hC36 : W.frozen? ⟨p, 36, none⟩ = false := (HTp.out 36 (by omega)).2
  obtain ⟨-, -, -, -, -, c36, -, -⟩ := En.parts Hok.out HR.out
  by_cases h5 : op = 3
  ·subst h5
   have hop : ((3 : Int) != 3) = false := rfl
   have hok1 : En.ok ⟨4, dg, ty, pl, 0, idn, ky, sg⟩ := Hok.out
   have hok2 : En.ok ⟨4, dg, ty, pl, 0, [], ky, sg⟩ := Hok.out
   have hR1 := En.setOp Hok.out HR.out 0
   have hR2 := En.setIdent hok1 hR1 []
   have hF1 : Fr NoB w ((W.setCell ⟨p, 35, none⟩ (.int .i64 0)).setCell ⟨p, 36, none⟩ (.string ⟨#[]⟩)) := (HF.out.setNew _ _ hwq).setNew _ _ hwq
   clear hR1
   have Hbl := Lib.hid (show (En.cells ⟨4, dg, ty, pl, 0, [], ky, sg⟩ pv sv).toArray = R from HRv.out)
   have Hz := Lib.hid (show (Tryz.prog.info? 39).map (·.size) = some (En.cells ⟨4, dg, ty, pl, 0, [], ky, sg⟩ pv sv).length by rw [Tryz.sizeEntry, En.size hok2])
   have Hz2 := Lib.hid (show (Tryz.prog.info? 39).map (·.size) = some (En.cells ⟨4, dg, ty, pl, 0, [], ky, sg⟩ pv sv).toArray.size by rw [Tryz.sizeEntry]; simp [En.size hok2])
   have HO := Lib.hid (En.one (e := ⟨4, dg, ty, pl, 0, [], ky, sg⟩) (pv := pv) (by first | exact hp | rfl) hs)
   have HR1 := Lib.hid hR2
   have HF1 := Lib.hid hF1
   have HTW := HTq.out
   have HT2 := Lib.hid (show ((W.setCell ⟨p, 35, none⟩ (.int .i64 0)).setCell ⟨p, 36, none⟩ (.string ⟨#[]⟩)).there q 0 (En.cells ⟨4, dg, ty, pl, 0, [], ky, sg⟩ pv sv).toArray.size by
    rw [show (En.cells ⟨4, dg, ty, pl, 0, [], ky, sg⟩ pv sv).toArray.size = 70 by simp [En.size hok2]]
    repeat (first | with_reducible exact HTW | with_reducible refine World.there_setCells ?_ _ _ _ | with_reducible refine there_setCell ?_ _ _ _))
   obtain ⟨W1, hW1⟩ : ∃ W1, (W.setCell ⟨p, 35, none⟩ (.int .i64 0)).setCell ⟨p, 36, none⟩ (.string ⟨#[]⟩) = W1 := ⟨_, rfl⟩
   obtain ⟨C1, hC1⟩ : ∃ C, En.cells ⟨4, dg, ty, pl, 0, [], ky, sg⟩ pv sv = C := ⟨_, rfl⟩
   rw [hC1] at Hbl Hz Hz2 HO HT2 HR1
   rw [hW1] at HR1 HF1 HT2
   have HW1 := Lib.hid hW1
   clear hW1 hC1
   go_upto_region 12 with (fail)
   change Code.wp _ _ _ _ ((W.setCell ⟨p, 35, none⟩ (.int .i64 0)).setCell ⟨p, 36, none⟩ (.string ⟨#[]⟩))
   rw [HW1.out]
   go_wp2_with (first | (refine wpList_load_mid rfl 39 _ rfl p 0 rfl C1 d HR1.out Hu.out Hd.out Hz.out ?_) | (refine wpList_store_mid rfl 39 _ _ rfl q 0 C1.toArray rfl rfl HT2.out Hz2.out HO.out ?_))
   have hld := run_loadVar_mid (P := Tryz.prog) _ q 0 39 C1 d (World.rangeAt_setCells_same W1 q 0 C1 (by simpa using HT2.out)) Hu.out Hd.out Hz.out
   refine bodyPost_ret (v := .agg R) ?_ rfl ⟨rfl, (HF1.out).trans (setCells_fr _ _ _ _) (fun k _ hm => .inr (by omega))⟩
   rw [results_cell1 rfl]
   simp [asAddr, Result.andThen, hld, Hbl.out, Act.put]
  ·have hop : (op != 3) = true := by simpa using h5
   have HRv2 := Lib.hid (show (En.cells ⟨4, dg, ty, pl, 0, [], zero32, sg⟩ pv sv).toArray = R by
    have := HRv.out
    simpa [pBlank, bPay, h5] using this)
   clear HRv
   have HRv := HRv2
   have hok1 : En.ok ⟨4, dg, ty, pl, op, idn, zero32, sg⟩ := ⟨Hok.out.1, rfl, Hok.out.2.2⟩
   have hok2 : En.ok ⟨4, dg, ty, pl, 0, idn, zero32, sg⟩ := hok1
   have hok3 : En.ok ⟨4, dg, ty, pl, 0, [], zero32, sg⟩ := hok1
   have hR1 := En.setKey Hok.out HR.out zero32 rfl
   have hR2 := En.setOp hok1 hR1 0
   have hR3 := En.setIdent hok2 hR2 []
   have hF0 := HF.out.trans (setCells_fr p (Lib.byteCells zero32) 37 W) (fun k _ hm => .inr (by omega))
   obtain ⟨-, -, -, -, d35, d36, -, -⟩ := En.parts hok1 hR1
   have hD35 : (W.setCells p 37 (Lib.byteCells zero32)).frozen? ⟨p, 35, none⟩ = false := by rw [World.frozen?_setCells]; exact hC35
   have hD36 : (W.setCells p 37 (Lib.byteCells zero32)).frozen? ⟨p, 36, none⟩ = false := by rw [World.frozen?_setCells]; exact hC36
   have hTq2 : (W.setCells p 37 (Lib.byteCells zero32)).there q 0 70 := World.there_setCells HTq.out _ _ _
   clear hC35 hC36 c36
   go_upto_region 11 with (refine wpList_store_mid rfl 24 _ _ rfl p 37 #[.int .u8 0, .int .u8 0, .int .u8 0, .int .u8 0, .int .u8 0, .int .u8 0, .int .u8 0, .int .u8 0, .int .u8 0, .int .u8 0, .int .u8 0, .int .u8 0, .int .u8 0, .int .u8 0, .int .u8 0, .int .u8 0, .int .u8 0, .int .u8 0, .int .u8 0, .int .u8 0, .int .u8 0, .int .u8 0, .int .u8 0, .int .u8 0, .int .u8 0, .int .u8 0, .int .u8 0, .int .u8 0, .int .u8 0, .int .u8 0, .int .u8 0, .int .u8 0] rfl rfl HT37.out Tryz.sizeKey H32.out ?_)
   change Code.wp _ _ _ _ (W.setCells p 37 (Lib.byteCells zero32))
   obtain ⟨V, hV⟩ : ∃ V, W.setCells p 37 (Lib.byteCells zero32) = V := ⟨_, rfl⟩
   rw [hV] at hR2 hR3 hF0 d35 d36 hD35 hD36 hTq2 ⊢
   have HTq2 := Lib.hid hTq2
   clear hV hR1 hR2 HTq hTq2 c0 c4
   have HTq := HTq2
   have hF1 : Fr NoB w ((V.setCell ⟨p, 35, none⟩ (.int .i64 0)).setCell ⟨p, 36, none⟩ (.string ⟨#[]⟩)) := (hF0.setNew _ _ hwq).setNew _ _ hwq
   clear hF0
   have Hbl := Lib.hid (show (En.cells ⟨4, dg, ty, pl, 0, [], zero32, sg⟩ pv sv).toArray = R from HRv.out)
   have Hz := Lib.hid (show (Tryz.prog.info? 39).map (·.size) = some (En.cells ⟨4, dg, ty, pl, 0, [], zero32, sg⟩ pv sv).length by rw [Tryz.sizeEntry, En.size hok3])
   have Hz2 := Lib.hid (show (Tryz.prog.info? 39).map (·.size) = some (En.cells ⟨4, dg, ty, pl, 0, [], zero32, sg⟩ pv sv).toArray.size by rw [Tryz.sizeEntry]; simp [En.size hok3])
   have HO := Lib.hid (En.one (e := ⟨4, dg, ty, pl, 0, [], zero32, sg⟩) (pv := pv) (by first | exact hp | rfl) hs)
   have HR1 := Lib.hid hR3
   have HF1 := Lib.hid hF1
   have HTW := HTq.out
   have HT2 := Lib.hid (show ((V.setCell ⟨p, 35, none⟩ (.int .i64 0)).setCell ⟨p, 36, none⟩ (.string ⟨#[]⟩)).there q 0 (En.cells ⟨4, dg, ty, pl, 0, [], zero32, sg⟩ pv sv).toArray.size by
    rw [show (En.cells ⟨4, dg, ty, pl, 0, [], zero32, sg⟩ pv sv).toArray.size = 70 by simp [En.size hok3]]
    repeat (first | with_reducible exact HTW | with_reducible refine World.there_setCells ?_ _ _ _ | with_reducible refine there_setCell ?_ _ _ _))
   obtain ⟨W1, hW1⟩ : ∃ W1, (V.setCell ⟨p, 35, none⟩ (.int .i64 0)).setCell ⟨p, 36, none⟩ (.string ⟨#[]⟩) = W1 := ⟨_, rfl⟩
   obtain ⟨C1, hC1⟩ : ∃ C, En.cells ⟨4, dg, ty, pl, 0, [], zero32, sg⟩ pv sv = C := ⟨_, rfl⟩
   rw [hC1] at Hbl Hz Hz2 HO HT2 HR1
   rw [hW1] at HR1 HF1 HT2
   have HW1 := Lib.hid hW1
   clear hW1 hC1
   go_upto_region 12 with (fail)
   change Code.wp _ _ _ _ ((V.setCell ⟨p, 35, none⟩ (.int .i64 0)).setCell ⟨p, 36, none⟩ (.string ⟨#[]⟩))
   rw [HW1.out]
   go_wp2_with (first | (refine wpList_load_mid rfl 39 _ rfl p 0 rfl C1 d HR1.out Hu.out Hd.out Hz.out ?_) | (refine wpList_store_mid rfl 39 _ _ rfl q 0 C1.toArray rfl rfl HT2.out Hz2.out HO.out ?_))
   have hld := run_loadVar_mid (P := Tryz.prog) _ q 0 39 C1 d (World.rangeAt_setCells_same W1 q 0 C1 (by simpa using HT2.out)) Hu.out Hd.out Hz.out
   refine bodyPost_ret (v := .agg R) ?_ rfl ⟨rfl, (HF1.out).trans (setCells_fr _ _ _ _) (fun k _ hm => .inr (by omega))⟩
   rw [results_cell1 rfl]
   simp [asAddr, Result.andThen, hld, Hbl.out, Act.put]
 ·have hk1 : (k == 1) = false := by simpa using h1
  have hk2 : (k == 2) = false := by simpa using h2
  have hk3 : (k == 3) = false := by simpa using h3
  have hk4 : (k == 4) = false := by simpa using h4
  have HRv2 := Lib.hid (show (En.cells ⟨k, dg, ty, pl, op, idn, ky, sg⟩ pv sv).toArray = R by
   have := HRv.out
   simpa [pBlank, bPay, h1, h2, h3, h4] using this)
  clear HRv h1 h2 h3 h4 c4
  have HRv := HRv2
  have hok0 := Hok.out
  have hR0 := HR.out
  have hF0 := HF.out
  have Hbl := Lib.hid (show (En.cells ⟨k, dg, ty, pl, op, idn, ky, sg⟩ pv sv).toArray = R from HRv.out)
  have Hz := Lib.hid (show (Tryz.prog.info? 39).map (·.size) = some (En.cells ⟨k, dg, ty, pl, op, idn, ky, sg⟩ pv sv).length by rw [Tryz.sizeEntry, En.size hok0])
  have Hz2 := Lib.hid (show (Tryz.prog.info? 39).map (·.size) = some (En.cells ⟨k, dg, ty, pl, op, idn, ky, sg⟩ pv sv).toArray.size by rw [Tryz.sizeEntry]; simp [En.size hok0])
  have HO := Lib.hid (En.one (e := ⟨k, dg, ty, pl, op, idn, ky, sg⟩) (pv := pv) (by first | exact hp | rfl) hs)
  have HR1 := Lib.hid hR0
  have HF1 := Lib.hid hF0
  have HTW := HTq.out
  have HT2 := Lib.hid (show (W).there q 0 (En.cells ⟨k, dg, ty, pl, op, idn, ky, sg⟩ pv sv).toArray.size by
   rw [show (En.cells ⟨k, dg, ty, pl, op, idn, ky, sg⟩ pv sv).toArray.size = 70 by simp [En.size hok0]]
   repeat (first | with_reducible exact HTW | with_reducible refine World.there_setCells ?_ _ _ _ | with_reducible refine there_setCell ?_ _ _ _))
  obtain ⟨W1, hW1⟩ : ∃ W1, W = W1 := ⟨_, rfl⟩
  obtain ⟨C1, hC1⟩ : ∃ C, En.cells ⟨k, dg, ty, pl, op, idn, ky, sg⟩ pv sv = C := ⟨_, rfl⟩
  rw [hC1] at Hbl Hz Hz2 HO HT2 HR1
  rw [hW1] at HR1 HF1 HT2
  have HW1 := Lib.hid hW1
  clear hW1 hC1
  go_upto_region 12 with (fail)
  change Code.wp _ _ _ _ (W)
  rw [HW1.out]
  go_wp2_with (first | (refine wpList_load_mid rfl 39 _ rfl p 0 rfl C1 d HR1.out Hu.out Hd.out Hz.out ?_) | (refine wpList_store_mid rfl 39 _ _ rfl q 0 C1.toArray rfl rfl HT2.out Hz2.out HO.out ?_))
  have hld := run_loadVar_mid (P := Tryz.prog) _ q 0 39 C1 d (World.rangeAt_setCells_same W1 q 0 C1 (by simpa using HT2.out)) Hu.out Hd.out Hz.out
  refine bodyPost_ret (v := .agg R) ?_ rfl ⟨rfl, (HF1.out).trans (setCells_fr _ _ _ _) (fun k _ hm => .inr (by omega))⟩
  rw [results_cell1 rfl]
  simp [asAddr, Result.andThen, hld, Hbl.out, Act.put]
end Go.Proofs.YtcddlemkimbkcaaGreatDoor
namespace Go.Proofs.YtcddlemkimbkcaaGreatDoor
set_option linter.unusedVariables false
set_option linter.unusedSimpArgs false
set_option linter.unusedSectionVars false
open Go.RowKit
variable [OldK]
/-- what entry.Subjects says: whether it is a statement -/
def SubPost (b : Bool) (r : Ending) : Prop := ∃ v er, r = .returned (.tuple #[v, er]) ∧ er = if b then .nilIface else .iface 56 (.int .i64 11)
/-- a statement's payload is answered 'sub' in every later world -/
def SubC (sub : Bs → Bool) (e : En) (pv : Value) (w : World) : Prop :=
 e.kind = 3 → ∀ W, Fr NoB w W → Calls Tryz.prog 94 #[pv] W fun r W' => SubPost (sub e.payload) r ∧ Fr NoB W W'
theorem SubC.fr {sub : Bs → Bool} {e : En} {pv : Value} {w w1 : World} (h : SubC sub e pv w) (hF : Fr NoB w w1) : SubC sub e pv w1 :=
 fun hk W hW => h hk W (hF.trans' hW)
set_option maxRecDepth 100000 in
set_option maxHeartbeats 2000000 in
theorem own_c (sub : Bs → Bool) (e : En) (a : Option Addr) (cap : Nat) (sv : Value) (w : World) (hok : e.ok) (hsub : SubC sub e (.slice a e.payload.length cap) w) (hty : e.typ.length ≤ 1000000) (hid : e.ident.length ≤ 1000000) (hpl : e.payload.length ≤ 1000000000) :
 Calls Tryz.prog 106 #[.agg (e.cells (.slice a e.payload.length cap) sv).toArray] w fun r w' => r = .returned (.bool (pOwn sub e)) ∧ Fr NoB w w' := by
 have hR : (w.alloc (.cells (e.cells (.slice a e.payload.length cap) sv).toArray 39)).rangeAt w.heap.size 0 (e.cells (.slice a e.payload.length cap) sv) := by simpa using range_block (heap_alloc_new w (.cells (e.cells (.slice a e.payload.length cap) sv).toArray 39))
 have hF : Fr NoB w (w.alloc (.cells (e.cells (.slice a e.payload.length cap) sv).toArray 39)) := Fr.refl.alloc _
 obtain ⟨c0, -, c33, c34, c35, c36, -, -⟩ := En.parts hok hR
 obtain ⟨R, hRv⟩ : ∃ R, pOwn sub e = R := ⟨_, rfl⟩
 rw [hRv]
 have HRv := Lib.hid hRv
 obtain ⟨cs, hcs⟩ : ∃ cs, (e.cells (.slice a e.payload.length cap) sv).toArray = cs := ⟨_, rfl⟩
 rw [hcs] at hF c0 c33 c34 c35 c36 ⊢
 clear hcs hRv hR
 go_enter Tryz.func106, Tryz.ntmps106
 go_upto_region 1 with (fail)
 change Code.wp _ _ _ _ (w.alloc (.cells cs 39))
 obtain ⟨W, hW⟩ : ∃ W, w.alloc (.cells cs 39) = W := ⟨_, rfl⟩
 rw [hW] at hF c0 c33 c34 c35 c36 ⊢
 obtain ⟨p, hpp⟩ : ∃ p, w.heap.size = p := ⟨_, rfl⟩
 rw [hpp] at c0 c33 c34 c35 c36
 rw [hpp]
 clear hW hpp
 have HF := Lib.hid hF
 have hsubW := hsub.fr hF
 have HsubW := Lib.hid hsubW
 clear hF hsub hsubW hok
 obtain ⟨k, dg, ty, pl, op, idn, ky, sg⟩ := e
 simp only at c0 c33 c34 c35 c36 hty hid hpl
 by_cases h1 : k = 1
 ·subst h1
  have HP : Hid (true = R) := Lib.hid (by simpa [pOwn] using HRv.out)
  go_wp2_with fail
  go_ret
  exact ⟨ret_bool HP.out, HF.out⟩
 by_cases h2 : k = 2
 ·subst h2
  have hk1 : ((2 : Int) == 1) = false := rfl
  obtain ⟨b1, hb1⟩ : ∃ b, pTyped ty = b := ⟨_, rfl⟩
  obtain ⟨b2, hb2⟩ : ∃ b, decide ((pl.length : Int) ≤ 2048) = b := ⟨_, rfl⟩
  have hb3 : decide (pl.length ≤ 2048) = b2 := by rw [← hb2]; exact decide_eq_decide.2 (by omega)
  have HP : Hid ((b1 && b2) = R) := Lib.hid (by rw [← hb1, ← hb3]; simpa [pOwn] using HRv.out)
  have hty2 := typed_c ty W (by omega)
  rw [hb1] at hty2
  have Hty := Lib.hid hty2
  clear hb3 hty2 hb1 h1
  cases b1 <;> cases b2
  all_goals
   go_wp2_with fail
   refine Hty.out.mono ?_
   rintro e w1 ⟨rfl, hF1⟩
   have c34' := (Fr.cell hF1 c34)
   have HF1 := Lib.hid (HF.out.trans' hF1)
   clear hF1
   go_wp2_with fail
   go_ret
   exact ⟨ret_bool HP.out, HF1.out⟩
 by_cases h3 : k = 3
 ·subst h3
  have hk1 : ((3 : Int) == 1) = false := rfl
  have hk2 : ((3 : Int) == 2) = false := rfl
  obtain ⟨b, hb⟩ : ∃ b, sub pl = b := ⟨_, rfl⟩
  have HP : Hid (b = R) := Lib.hid (by rw [← hb]; simpa [pOwn] using HRv.out)
  have hs := HsubW.out rfl W Fr.refl
  simp only at hs
  rw [hb] at hs
  have Hs := Lib.hid hs
  clear hs hb h1 h2
  cases b
  all_goals
   go_wp2_with fail
   refine Hs.out.mono ?_
   rintro r w1 ⟨⟨v, er, rfl, rfl⟩, hF1⟩
   have HF1 := Lib.hid (HF.out.trans' hF1)
   clear hF1
   go_wp2_with fail
   go_ret
   exact ⟨ret_bool HP.out, HF1.out⟩
 by_cases h4 : k = 4
 ·subst h4
  have hk1 : ((4 : Int) == 1) = false := rfl
  have hk2 : ((4 : Int) == 2) = false := rfl
  have hk3 : ((4 : Int) == 3) = false := rfl
  obtain ⟨b1, hb1⟩ : ∃ b, decide (1 ≤ op) = b := ⟨_, rfl⟩
  obtain ⟨b2, hb2⟩ : ∃ b, decide (op ≤ 3) = b := ⟨_, rfl⟩
  obtain ⟨b3, hb3⟩ : ∃ b, pNamed idn = b := ⟨_, rfl⟩
  have HP : Hid ((b1 && (b2 && b3)) = R) := Lib.hid (by rw [← hb1, ← hb2, ← hb3]; simpa [pOwn] using HRv.out)
  have hn := named_c idn W (by omega)
  rw [hb3] at hn
  have Hn := Lib.hid hn
  clear hn hb3 h1 h2 h3
  cases b1
  ·go_wp2_with fail
   go_ret
   exact ⟨ret_bool HP.out, HF.out⟩
  ·cases b2
   ·go_wp2_with fail
    go_ret
    exact ⟨ret_bool HP.out, HF.out⟩
   ·go_wp2_with fail
    refine Hn.out.mono ?_
    rintro e w1 ⟨rfl, hF1⟩
    have HF1 := Lib.hid (HF.out.trans' hF1)
    clear hF1
    go_wp2_with fail
    go_ret
    exact ⟨ret_bool HP.out, HF1.out⟩
 ·have hk1 : (k == 1) = false := by simpa using h1
  have hk2 : (k == 2) = false := by simpa using h2
  have hk3 : (k == 3) = false := by simpa using h3
  have hk4 : (k == 4) = false := by simpa using h4
  have HP : Hid (false = R) := Lib.hid (by simpa [pOwn, h1, h2, h3, h4] using HRv.out)
  clear h1 h2 h3 h4
  go_wp2_with fail
  go_ret
  exact ⟨ret_bool HP.out, HF.out⟩
end Go.Proofs.YtcddlemkimbkcaaGreatDoor
