/-
 The walk of bind's Take.
-/
import Derived.Test.YtcddlemkimbkcaaGreatDoorKBindCheck
import Derived.Test.YtcddlemkimbkcaaGreatDoorKTable2
namespace Go.Proofs.YtcddlemkimbkcaaGreatDoor
set_option linter.unusedVariables false
set_option linter.unusedSimpArgs false
set_option linter.unusedSectionVars false
open Go.RowKit Go.Shelf
variable [OldK]
/-- what a table's growth may turn: its two maps, and its changes' rows -/
def TM (base bc bl : Nat) : Nat → Obj → Prop := fun k o => k = bc ∨ k = bl ∨ (base ≤ k ∧ OfTy 117 o)
theorem Fr.mono2 {M M' : Nat → Obj → Prop} {w w' : World} (h : Fr M w w') (hM : ∀ k o, w.heap[k]? = some o → M k o → M' k o) : Fr M' w w' :=
 ⟨h.os, h.tape, h.output, h.size, fun k o hk hn => h.block k o hk (fun hm => hn (hM k o hk hm))⟩
section
variable {base tb n bc bl : Nat} {t : Tb} {hist : Bs → List Chg} {g lv : Bs → Option Value} {w w' : World}
theorem TBC.mono (h : TBC base tb n bc bl hist g w) {m : Nat} (hm : n ≤ m) : TBC base tb m bc bl hist g w :=
 ⟨h.old, h.cells, h.low, h.ch.mono hm, h.rows, h.apart, fun x => Nat.le_trans (h.few x) hm, h.keys⟩
theorem TBL.mono (h : TBL base tb n bc bl t g lv w) {m : Nat} (hm : n ≤ m) : TBL base tb m bc bl t g lv w :=
 ⟨h.old, h.cells, h.low, h.ch.mono hm, h.li.mono (by omega), h.life, h.rows, h.apart, fun x => Nat.le_trans (h.few x) hm, h.keys⟩
/-- a row's own block -/
theorem TBC.own (h : TBC base tb n bc bl hist g w) {x : Bs} (hx : x.length ≤ maxLen) {k : Nat} (hk : some k = (atOr g x).ownBlock) : base ≤ k ∧ k ≠ tb ∧ k ≠ bc ∧ ∃ o, w.heap[k]? = some o ∧ OfTy 117 o := by
 obtain ⟨D, ⟨es, clock, h0, -⟩, -⟩ := id h.ch
 rcases (h.rows x hx).2 with ⟨e6, -⟩ | ⟨g6, cap6, cur6, e6, h6, e7, -⟩
 ·rw [e6] at hk; cases hk
 ·rw [e6] at hk
  obtain rfl : k = g6 := by simpa [Value.ownBlock] using hk
  refine ⟨h6, ?_, ?_, _, e7, _, _, rfl⟩
  ·rintro rfl
   have := h.cells
   rw [e7] at this
   injection this with this
   injection this with _ this _
   revert this; decide
  ·rintro rfl
   rw [h0] at e7
   cases e7
theorem map_not {m : Nat} {K : KeyB Tryz.prog 24} (hl : MapB K w bl m lv) {k : Nat} {o : Obj} (hk : w.heap[k]? = some o) (ho : OfTy 117 o) : k ≠ bl := by
 obtain ⟨D, ⟨es, clock, h0, -⟩, -⟩ := id hl
 rintro rfl
 obtain ⟨c, f, rfl⟩ := ho
 rw [h0] at hk
 cases hk
end
theorem newC_ok {e : En} (h : e.ok) (p : Int) : (newC e p).ok := by
 unfold newC
 split
 ·rfl
 ·exact h.2.1
set_option maxRecDepth 100000 in
set_option maxHeartbeats 8000000 in
theorem take_c (S S' : Nat → Prop) {base tb n bc bl : Nat} {t : Tb} {g lv : Bs → Option Value} (e : En) (pv sv : Value) (pos : Int) (w : World) (h : TBL base tb n bc bl t g lv w) (hf : Fine S S' e pv sv w) (hn : n ≤ 1000000) :
 Calls Tryz.prog 28 #[.pointer (some ⟨tb, 0, none⟩), .agg (e.cells pv sv).toArray, .int .i64 pos] w fun r w' =>
  r = .returned (errV (pBind psub t e)) ∧ (∃ g' lv', TBL base tb (n + 1) bc bl (t.take psub e pos) g' lv' w') ∧ Fr (TM base bc bl) w w' := by
 have hR : (w.alloc (.cells (e.cells pv sv).toArray 39)).rangeAt w.heap.size 0 (e.cells pv sv) := by simpa using range_block (heap_alloc_new w (.cells (e.cells pv sv).toArray 39))
 have hF : Fr NoB w (w.alloc (.cells (e.cells pv sv).toArray 39)) := Fr.refl.alloc _
 obtain ⟨c0, -, -, -, c35, c36, hK, -⟩ := En.parts hf.ok hR
 clear c0
 have hchk := fun V (hV : Fr NoB w V) => bindCheck_c S S' e pv sv V (h.keep hV) (hf.fr hV)
 have hidl : e.ident.length ≤ maxLen := by have := hf.idn; unfold maxLen; omega
 have hlast := fun V (hV : Fr NoB w V) => last_c e.ident V (h.keep hV) hidl
 have hlok := h.lastok e.ident
 have heok := hf.ok
 have hsz := En.size hf.ok pv sv
 obtain ⟨d, hu, hd⟩ := Tryz.rowEntry
 obtain ⟨d2, hu2, hd2⟩ := Tryz.rowChg
 have hz : (Tryz.prog.info? 39).map (·.size) = some (e.cells pv sv).length := by rw [Tryz.sizeEntry, hsz]
 have hkz : (Tryz.prog.info? 24).map (·.size) = some (Lib.byteCells e.key).length := by rw [Tryz.sizeKey, byteCells_len, hf.ok.2.1]
 clear hsz hf
 have Hu := Lib.hid hu
 have Hd := Lib.hid hd
 have Hz := Lib.hid hz
 have Hkz := Lib.hid hkz
 have Hchk := Lib.hid hchk
 have Hlast := Lib.hid hlast
 clear hu hd hz hkz hchk hlast
 by_cases hp0 : pBind psub t e = 0
 ·rw [hp0] at Hchk ⊢
  obtain ⟨hk4, hlh, hkf⟩ := pBind_zero hp0
  have htk : t.take psub e pos = t.came e pos := by unfold Tb.take; rw [if_pos hp0]
  rw [htk]
  clear hk4 hlh hkf htk hp0
  have hfh := fun V => field_has (t.last e.ident) hlok V
  obtain ⟨x0, hx0⟩ : ∃ b, (t.last e.ident).has = b := ⟨_, rfl⟩
  obtain ⟨LP, hLP⟩ : ∃ x, (t.last e.ident).pos = x := ⟨_, rfl⟩
  obtain ⟨LK, hLK⟩ : ∃ x, (t.last e.ident).key = x := ⟨_, rfl⟩
  have hLKl : LK.length = 32 := by rw [← hLK]; exact hlok
  have hLc : (t.last e.ident).cells = [.int .i64 LP] ++ ([.bool x0] ++ Lib.byteCells LK) := by unfold Chg.cells; rw [hx0, hLP, hLK]; rfl
  have hcs : (t.last e.ident).cells.length = 34 := Chg.size hlok
  have hc1 := Chg.one (t.last e.ident)
  obtain ⟨LC, hLC⟩ : ∃ C, (t.last e.ident).cells = C := ⟨_, rfl⟩
  rw [hLC] at hLc hcs hc1
  simp only [hLC] at Hlast
  have Hcame : Hid (t.came e pos = ⟨upd t.hist e.ident (t.hist e.ident ++ [newC e pos]), if e.op = 3 then (if x0 = true then upd t.life LK 2 else t.life) else upd (if x0 = true then upd t.life LK 2 else t.life) e.key 1⟩) := Lib.hid (by unfold Tb.came; rw [hx0, hLK])
  have Hcs1 : Hid ((Tryz.prog.info? 117).map (·.size) = some LC.toArray.size) := Lib.hid (by rw [Tryz.sizeChg, List.size_toArray, hcs])
  have Hcs2 : Hid (#[Value.int .i64 0, .bool false, .int .u8 0, .int .u8 0, .int .u8 0, .int .u8 0, .int .u8 0, .int .u8 0, .int .u8 0, .int .u8 0, .int .u8 0, .int .u8 0, .int .u8 0, .int .u8 0, .int .u8 0, .int .u8 0, .int .u8 0, .int .u8 0, .int .u8 0, .int .u8 0, .int .u8 0, .int .u8 0, .int .u8 0, .int .u8 0, .int .u8 0, .int .u8 0, .int .u8 0, .int .u8 0, .int .u8 0, .int .u8 0, .int .u8 0, .int .u8 0, .int .u8 0, .int .u8 0].size = LC.toArray.size) := Lib.hid (by rw [show LC.toArray.size = 34 by rw [List.size_toArray, hcs]]; rfl)
  have Hc1 := Lib.hid hc1
  have HLc := Lib.hid hLc
  have HLKl := Lib.hid hLKl
  have H := Lib.hid h
  clear hfh hx0 hLP hLK hLKl hLc hcs hc1 hLC hlok h
  obtain ⟨op, hop⟩ : ∃ k, e.op = k := ⟨_, rfl⟩
  obtain ⟨idn, hidn⟩ : ∃ s, e.ident = s := ⟨_, rfl⟩
  obtain ⟨ky, hky⟩ : ∃ s, e.key = s := ⟨_, rfl⟩
  have hkyl : ky.length = 32 := by rw [← hky]; exact heok.2.1
  obtain ⟨NC, hNC⟩ : ∃ c, newC e pos = c := ⟨_, rfl⟩
  have hNC2 : NC = if op = 3 then ⟨pos, false, zero32⟩ else ⟨pos, true, ky⟩ := by rw [← hNC, ← hop, ← hky]; rfl
  have hNCok : NC.ok := by rw [← hNC]; exact newC_ok heok pos
  rw [hop, hidn, hky, hNC] at Hcame
  rw [hop] at c35
  rw [hidn] at c36 hidl
  simp only [hidn] at Hlast
  rw [hky] at hK Hkz
  obtain ⟨T2, hT2⟩ : ∃ T, t.came e pos = T := ⟨_, rfl⟩
  rw [hT2] at Hcame ⊢
  obtain ⟨C, hC⟩ : ∃ C, e.cells pv sv = C := ⟨_, rfl⟩
  rw [hC] at hR hF c35 c36 hK Hz Hchk ⊢
  clear hop hidn hky hNC hT2 hC heok
  have HNC := Lib.hid hNC2
  have HNCok := Lib.hid hNCok
  have Hidl := Lib.hid hidl
  have Hkyl := Lib.hid hkyl
  clear hNC2 hNCok hidl hkyl
  simp only [show errV 0 = .nilIface from rfl] at Hchk ⊢
  go_enter Tryz.func28, Tryz.ntmps28
  go_upto_region 1 with (fail)
  change Code.wp _ _ _ _ (w.alloc (.cells C.toArray 39))
  obtain ⟨W, hW⟩ : ∃ W, w.alloc (.cells C.toArray 39) = W := ⟨_, rfl⟩
  rw [hW] at hR hF c35 c36 hK ⊢
  obtain ⟨p, hpp⟩ : ∃ p, w.heap.size = p := ⟨_, rfl⟩
  have Hpp := Lib.hid hpp
  rw [hpp] at hR c35 c36 hK ⊢
  have hpW : p < W.heap.size := World.block_lt_of_cell? _ _ c35
  clear hW hpp
  have HR := Lib.hid hR
  have HF := Lib.hid hF
  have HK := Lib.hid hK
  clear hR hF hK
  go_wp2_with ((with_reducible refine wpList_load_mid rfl 39 _ rfl p 0 rfl C d HR.out Hu.out Hd.out Hz.out ?_))
  refine (Hchk.out _ HF.out).mono ?_
  rintro r w2 ⟨rfl, hF2⟩
  have k36 := Fr.cell hF2 c36
  have HG := Lib.hid hF2
  clear hF2
  go_wp2_with fail
  refine (Hlast.out _ (HF.out.trans' HG.out)).mono ?_
  rintro r w3 ⟨rfl, hF3⟩
  have HG3 := Lib.hid (HG.out.trans' hF3)
  clear hF3 HG k36
  go_upto_region 7 with ((with_reducible refine wpList_store_new (w := w3) rfl 117 _ _ rfl _ LC.toArray w3.heap.size rfl ?_ ?_ Hcs1.out Hcs2.out Hc1.out ?_); rfl; rfl)
  change Code.wp _ _ _ _ (w3.alloc (.cells LC.toArray 117))
  have hq := range_block (heap_alloc_new w3 (.cells LC.toArray 117))
  have hG4 := HG3.out.alloc (.cells LC.toArray 117)
  obtain ⟨W4, hW4⟩ : ∃ W, w3.alloc (.cells LC.toArray 117) = W := ⟨_, rfl⟩
  have hqW : w3.heap.size < W4.heap.size := by rw [← hW4, World.size_alloc]; omega
  have hWw3 := HG3.out.size
  rw [hW4] at hq hG4 ⊢
  obtain ⟨q, hqq⟩ : ∃ q, w3.heap.size = q := ⟨_, rfl⟩
  rw [hqq] at hq hqW hWw3 ⊢
  rw [List.toList_toArray, HLc.out, range_append, range_append, range_one, range_one] at hq
  obtain ⟨-, q1, q2⟩ := hq
  simp only [List.length_cons, List.length_nil, Nat.zero_add] at q1 q2
  have hbp : tb < p ∧ bc < p ∧ bl < p := by rw [← Hpp.out]; exact ⟨get_lt H.out.cells, H.out.ch.lt, H.out.li.lt⟩
  have T4 := H.out.keep (HF.out.trans' hG4)
  obtain ⟨tne1, tne2⟩ := T4.toC.apartB T4.li
  have k35 := Fr.cell hG4 c35
  have k36 := Fr.cell hG4 c36
  have hK4 := range_fr HK.out hG4 hpW (fun _ h => h)
  obtain ⟨t0, t1⟩ := T4.at
  have HN : Hid (tb ≠ bl ∧ tb ≠ bc ∧ bc ≠ bl ∧ tb < p ∧ bc < p ∧ bl < p ∧ p < W.heap.size ∧ p < q ∧ q < W4.heap.size ∧ w.heap.size = p ∧ base ≤ tb) := Lib.hid ⟨tne1, tne2, T4.low.2.2.2, hbp.1, hbp.2.1, hbp.2.2, hpW, by omega, hqW, Hpp.out, T4.low.1⟩
  obtain ⟨LKC, hLKC⟩ : ∃ C, Lib.byteCells LK = C := ⟨_, rfl⟩
  rw [hLKC] at q2
  have Hlkz : Hid ((Tryz.prog.info? 24).map (·.size) = some LKC.length) := Lib.hid (by rw [← hLKC, Tryz.sizeKey, byteCells_len, HLKl.out])
  have HLKC := Lib.hid hLKC
  have HQ := Lib.hid q2
  have HFw4 := Lib.hid (HF.out.trans' hG4)
  have HK4 := Lib.hid hK4
  have HT4 := Lib.hid T4
  obtain ⟨life5, hlife5⟩ : ∃ l, (if x0 = true then upd t.life LK 2 else t.life) = l := ⟨_, rfl⟩
  rw [hlife5] at Hcame
  have Hlife5 := Lib.hid hlife5
  have hn2 : 2 * n + 1 < maxLen := by unfold maxLen; omega
  have Hn2 := Lib.hid hn2
  have Hn1 := Lib.hid hn
  have Hwc := Lib.hid H.out.toC
  clear hW4 hqq hbp T4 tne1 tne2 c35 c36 hK4 hLKC q2 hG4 hlife5 hn2 hn hqW hWw3 HG3 HF HR HK hpW Hpp Hlast Hchk Hcs1 Hcs2 Hc1 HLc H
  cases x0
  ·go_upto_region 9 with (fail)
   have hm5 := HT4.out.li.mono (n' := 2 * n + 1) (by omega)
   have hl5 := HT4.out.life
   have hle5 : t.life = life5 := by have := Hlife5.out; simpa using this
   rw [hle5] at hl5
   have hF5 : Fr (fun k _ => k = bl) W4 W4 := Fr.refl
   clear hle5
   change Code.wp _ _ _ _ W4
   have hr6 := range_block (heap_alloc_new W4 (.cells #[Value.int .i64 pos, .bool false, .int .u8 0, .int .u8 0, .int .u8 0, .int .u8 0, .int .u8 0, .int .u8 0, .int .u8 0, .int .u8 0, .int .u8 0, .int .u8 0, .int .u8 0, .int .u8 0, .int .u8 0, .int .u8 0, .int .u8 0, .int .u8 0, .int .u8 0, .int .u8 0, .int .u8 0, .int .u8 0, .int .u8 0, .int .u8 0, .int .u8 0, .int .u8 0, .int .u8 0, .int .u8 0, .int .u8 0, .int .u8 0, .int .u8 0, .int .u8 0, .int .u8 0, .int .u8 0] 117))
   have hF6 : Fr (fun k _ => k = bl) W4 (W4.alloc (.cells #[Value.int .i64 pos, .bool false, .int .u8 0, .int .u8 0, .int .u8 0, .int .u8 0, .int .u8 0, .int .u8 0, .int .u8 0, .int .u8 0, .int .u8 0, .int .u8 0, .int .u8 0, .int .u8 0, .int .u8 0, .int .u8 0, .int .u8 0, .int .u8 0, .int .u8 0, .int .u8 0, .int .u8 0, .int .u8 0, .int .u8 0, .int .u8 0, .int .u8 0, .int .u8 0, .int .u8 0, .int .u8 0, .int .u8 0, .int .u8 0, .int .u8 0, .int .u8 0, .int .u8 0, .int .u8 0] 117)) := hF5.alloc _
   have hm6 := hm5.fr ((Fr.refl (M := NoB)).alloc (.cells #[Value.int .i64 pos, .bool false, .int .u8 0, .int .u8 0, .int .u8 0, .int .u8 0, .int .u8 0, .int .u8 0, .int .u8 0, .int .u8 0, .int .u8 0, .int .u8 0, .int .u8 0, .int .u8 0, .int .u8 0, .int .u8 0, .int .u8 0, .int .u8 0, .int .u8 0, .int .u8 0, .int .u8 0, .int .u8 0, .int .u8 0, .int .u8 0, .int .u8 0, .int .u8 0, .int .u8 0, .int .u8 0, .int .u8 0, .int .u8 0, .int .u8 0, .int .u8 0, .int .u8 0, .int .u8 0] 117)) (fun _ h => h)
   have hrW : q < W4.heap.size ∧ W4.heap.size < (W4.alloc (.cells #[Value.int .i64 pos, .bool false, .int .u8 0, .int .u8 0, .int .u8 0, .int .u8 0, .int .u8 0, .int .u8 0, .int .u8 0, .int .u8 0, .int .u8 0, .int .u8 0, .int .u8 0, .int .u8 0, .int .u8 0, .int .u8 0, .int .u8 0, .int .u8 0, .int .u8 0, .int .u8 0, .int .u8 0, .int .u8 0, .int .u8 0, .int .u8 0, .int .u8 0, .int .u8 0, .int .u8 0, .int .u8 0, .int .u8 0, .int .u8 0, .int .u8 0, .int .u8 0, .int .u8 0, .int .u8 0] 117)).heap.size := ⟨by have := hF5.size; have := HN.out; omega, by rw [World.size_alloc]; omega⟩
   have hsz5 := hF5.size
   have hTr : (W4.alloc (.cells #[Value.int .i64 pos, .bool false, .int .u8 0, .int .u8 0, .int .u8 0, .int .u8 0, .int .u8 0, .int .u8 0, .int .u8 0, .int .u8 0, .int .u8 0, .int .u8 0, .int .u8 0, .int .u8 0, .int .u8 0, .int .u8 0, .int .u8 0, .int .u8 0, .int .u8 0, .int .u8 0, .int .u8 0, .int .u8 0, .int .u8 0, .int .u8 0, .int .u8 0, .int .u8 0, .int .u8 0, .int .u8 0, .int .u8 0, .int .u8 0, .int .u8 0, .int .u8 0, .int .u8 0, .int .u8 0] 117)).there W4.heap.size 0 34 := there_block (heap_alloc_new W4 _) (Nat.le_refl _)
   have HsP : Hid ((Tryz.prog.info? 117).map (·.size) = some (#[Value.int .i64 pos, .bool false, .int .u8 0, .int .u8 0, .int .u8 0, .int .u8 0, .int .u8 0, .int .u8 0, .int .u8 0, .int .u8 0, .int .u8 0, .int .u8 0, .int .u8 0, .int .u8 0, .int .u8 0, .int .u8 0, .int .u8 0, .int .u8 0, .int .u8 0, .int .u8 0, .int .u8 0, .int .u8 0, .int .u8 0, .int .u8 0, .int .u8 0, .int .u8 0, .int .u8 0, .int .u8 0, .int .u8 0, .int .u8 0, .int .u8 0, .int .u8 0, .int .u8 0, .int .u8 0] : Array Value).size) := Lib.hid Tryz.sizeChg
   have HoP : Hid ((#[Value.int .i64 pos, .bool false, .int .u8 0, .int .u8 0, .int .u8 0, .int .u8 0, .int .u8 0, .int .u8 0, .int .u8 0, .int .u8 0, .int .u8 0, .int .u8 0, .int .u8 0, .int .u8 0, .int .u8 0, .int .u8 0, .int .u8 0, .int .u8 0, .int .u8 0, .int .u8 0, .int .u8 0, .int .u8 0, .int .u8 0, .int .u8 0, .int .u8 0, .int .u8 0, .int .u8 0, .int .u8 0, .int .u8 0, .int .u8 0, .int .u8 0, .int .u8 0, .int .u8 0, .int .u8 0] : Array Value).all (·.oneCell') = true) := Lib.hid (by kernel_rfl)
   clear hm5 hF5
   go_upto_region 10 with (first
    | ((with_reducible refine wpList_buildTo ?_ 117 _ rfl _ rfl #[Value.int .i64 pos, .bool false, .int .u8 0, .int .u8 0, .int .u8 0, .int .u8 0, .int .u8 0, .int .u8 0, .int .u8 0, .int .u8 0, .int .u8 0, .int .u8 0, .int .u8 0, .int .u8 0, .int .u8 0, .int .u8 0, .int .u8 0, .int .u8 0, .int .u8 0, .int .u8 0, .int .u8 0, .int .u8 0, .int .u8 0, .int .u8 0, .int .u8 0, .int .u8 0, .int .u8 0, .int .u8 0, .int .u8 0, .int .u8 0, .int .u8 0, .int .u8 0, .int .u8 0, .int .u8 0] ?_ ?_); rfl; kernel_rfl)
    | ((with_reducible refine wpList_store_new (w := W4) rfl 117 _ _ rfl _ #[Value.int .i64 pos, .bool false, .int .u8 0, .int .u8 0, .int .u8 0, .int .u8 0, .int .u8 0, .int .u8 0, .int .u8 0, .int .u8 0, .int .u8 0, .int .u8 0, .int .u8 0, .int .u8 0, .int .u8 0, .int .u8 0, .int .u8 0, .int .u8 0, .int .u8 0, .int .u8 0, .int .u8 0, .int .u8 0, .int .u8 0, .int .u8 0, .int .u8 0, .int .u8 0, .int .u8 0, .int .u8 0, .int .u8 0, .int .u8 0, .int .u8 0, .int .u8 0, .int .u8 0, .int .u8 0] W4.heap.size rfl ?_ ?_ HsP.out rfl HoP.out ?_); rfl; rfl))
   change Code.wp _ _ _ _ (W4.alloc (.cells #[Value.int .i64 pos, .bool false, .int .u8 0, .int .u8 0, .int .u8 0, .int .u8 0, .int .u8 0, .int .u8 0, .int .u8 0, .int .u8 0, .int .u8 0, .int .u8 0, .int .u8 0, .int .u8 0, .int .u8 0, .int .u8 0, .int .u8 0, .int .u8 0, .int .u8 0, .int .u8 0, .int .u8 0, .int .u8 0, .int .u8 0, .int .u8 0, .int .u8 0, .int .u8 0, .int .u8 0, .int .u8 0, .int .u8 0, .int .u8 0, .int .u8 0, .int .u8 0, .int .u8 0, .int .u8 0] 117))
   obtain ⟨W6, hW6⟩ : ∃ V, W4.alloc (.cells #[Value.int .i64 pos, .bool false, .int .u8 0, .int .u8 0, .int .u8 0, .int .u8 0, .int .u8 0, .int .u8 0, .int .u8 0, .int .u8 0, .int .u8 0, .int .u8 0, .int .u8 0, .int .u8 0, .int .u8 0, .int .u8 0, .int .u8 0, .int .u8 0, .int .u8 0, .int .u8 0, .int .u8 0, .int .u8 0, .int .u8 0, .int .u8 0, .int .u8 0, .int .u8 0, .int .u8 0, .int .u8 0, .int .u8 0, .int .u8 0, .int .u8 0, .int .u8 0, .int .u8 0, .int .u8 0] 117) = V := ⟨_, rfl⟩
   rw [hW6] at hr6 hF6 hm6 hrW hTr ⊢
   obtain ⟨r, hrr⟩ : ∃ r, W4.heap.size = r := ⟨_, rfl⟩
   have hW4r : W4.heap.size ≤ r := by omega
   rw [hrr] at hr6 hrW hTr ⊢
   clear hW6 hrr HsP HoP hsz5
   have HRW : Hid (q < r ∧ r < W6.heap.size ∧ W4.heap.size ≤ r) := Lib.hid ⟨hrW.1, hrW.2, hW4r⟩
   have HR6 := Lib.hid hr6
   have HTR := Lib.hid hTr
   have HF6 := Lib.hid hF6
   have HM6 := Lib.hid hm6
   have HL5 := Lib.hid hl5
   have k356 := Fr.cell hF6 k35 (fun _ h => by have h2 : p = bl := h; have := HN.out; omega)
   clear hrW hr6 hTr hF6 hm6 hl5 k35 hW4r
   by_cases h3 : op = 3
   ·subst h3
    have e3 : ((3 : Int) != 3) = false := rfl
    obtain ⟨life8, hlife8⟩ : ∃ l, life5 = l := ⟨_, rfl⟩
    have hcame8 : T2 = ⟨upd t.hist idn (t.hist idn ++ [NC]), life8⟩ := by rw [Hcame.out, if_pos rfl, hlife8]
    have hNCe : NC = ⟨pos, false, zero32⟩ := by rw [HNC.out, if_pos rfl]
    have hr8 : W6.rangeAt r 0 NC.cells := by rw [hNCe]; exact HR6.out
    have Hcame8 := Lib.hid hcame8
    have hl8 := HL5.out
    rw [hlife8] at hl8
    have hm8 := HM6.out.mono (n' := 2 * n + 2) (by omega)
    have hF8 := HF6.out
    have hrW8 := HRW.out
    have k35 := k356
    clear hcame8 hNCe hlife8
    go_upto_region 13 with (fail)
    change Code.wp _ _ _ _ W6
    obtain ⟨W8, hW8⟩ : ∃ V, W6 = V := ⟨_, rfl⟩
    rw [hW8] at hF8 hm8 hr8 hrW8 ⊢
    clear hW8
    obtain ⟨LV8, hLV8⟩ : ∃ V, lv = V := ⟨_, rfl⟩
    rw [hLV8] at hl8 hm8
    clear hLV8
    have hT8 := HT4.out.toC.fr hF8 (fun k o hk ho hb => by
     rcases hk with rfl | rfl | ⟨-, hk⟩
     ·exact HN.out.1 hb
     ·exact HN.out.2.2.1 hb
     ·exact map_not HT4.out.li ho hk hb)
    obtain ⟨VV, hVV⟩ : ∃ V, atOr g idn = V := ⟨_, rfl⟩
    obtain ⟨NH, hNH⟩ : ∃ V, (t.hist idn).length = V := ⟨_, rfl⟩
    obtain ⟨HX, hHX⟩ : ∃ V, (t.hist idn).flatMap Chg.cells = V := ⟨_, rfl⟩
    obtain ⟨NCC, hNCC⟩ : ∃ V, NC.cells = V := ⟨_, rfl⟩
    have hHO : ∀ k, some k = VV.ownBlock → base ≤ k ∧ k ≠ tb ∧ k ≠ bc ∧ k ≠ bl ∧ ∃ o, W8.heap[k]? = some o ∧ OfTy 117 o := fun k hk => by
     rw [← hVV] at hk
     obtain ⟨h1, h2, h3, o, h4, h5⟩ := hT8.own Hidl.out hk
     exact ⟨h1, h2, h3, map_not hm8 h4 h5, o, h4, h5⟩
    have hHOp : ∀ k, some k = VV.ownBlock → k < p := fun k hk => by
     rw [← hVV] at hk
     obtain ⟨-, -, -, o, h4, -⟩ := Hwc.out.own Hidl.out hk
     have := get_lt h4
     have := HN.out
     omega
    have hrow8 := hT8.rows idn Hidl.out
    rw [hVV, hNH, hHX] at hrow8
    have hlk := fun V (hV : Fr NoB W8 V) => ((hT8.ch.fr hV (fun _ h => h)).look (K := strK) Tryz.underlying112 (Tryz.zeroHist V) Hidl.out)
    have hlk8 : (Instr.lookup 112 (.map (some bc)) (.string ⟨idn.toArray⟩) false).run Tryz.prog W8.drew = .ok VV W8.drew := by
     rw [← hVV]
     exact hlk _ Fr.refl.drew
    have hlkL : (Instr.lookup 112 (.map (some bc)) (.string ⟨idn.toArray⟩) false).run Tryz.prog (W8.drew.alloc (.cells NCC.toArray 117)) = .ok VV (W8.drew.alloc (.cells NCC.toArray 117)) := by
     rw [← hVV]
     exact hlk _ (Fr.refl.drew.alloc _)
    have hlkL2 : (Instr.lookup 112 (.map (some bc)) (.string ⟨idn.toArray⟩) false).run Tryz.prog (W8.alloc (.cells NCC.toArray 117)).drew = .ok VV (W8.alloc (.cells NCC.toArray 117)).drew := hlkL
    clear hlk
    rw [hNCC] at hr8
    have hncl : NCC.length = 34 := by rw [← hNCC]; exact Chg.size HNCok.out
    have hFL : Fr NoB W8 (W8.drew.alloc (.cells NCC.toArray 117)) := Fr.refl.drew.alloc _
    have HrowL := Lib.hid (ownsRow_fr hrow8 hFL (fun _ _ _ _ h => h))
    have HchL : Hid (MapB strK (W8.drew.alloc (.cells NCC.toArray 117)) bc n g) := Lib.hid (hT8.ch.fr hFL (fun _ h => h))
    have HFL := Lib.hid hFL
    have HlitL := Lib.hid (lit_cells W8.drew NCC 117)
    have HNC1 : Hid (∀ u ∈ NCC, u.oneCell' = true) := Lib.hid (fun u hu => by
     have h := Chg.one NC
     rw [hNCC] at h
     rw [List.all_toArray, List.all_eq_true] at h
     exact h u hu)
    have Hfew : Hid (NH ≤ n) := Lib.hid (by rw [← hNH]; exact hT8.few idn)
    have HbL : Hid (base ≤ (W8.drew.alloc (.cells NCC.toArray 117)).heap.size) := Lib.hid (by
     have h1 := get_lt hT8.cells
     have h2 := hT8.low.1
     have h3 := hFL.size
     omega)
    obtain ⟨i0, hi0, hz0, hz1, hz2⟩ := info_parts Tryz.infoChg
    have hbl1 : Tryz.prog.builtSlice 117 1 [(0, .agg NCC.toArray)] = some NCC.toArray := by
     have h := built_list (P := Tryz.prog) hi0 hz0 hz1 (by rfl) (by decide) (by decide : 0 < 1) (by decide) [.agg NCC.toArray] (fun v hv => by
      obtain rfl : v = .agg NCC.toArray := by simpa using hv
      show NCC.toArray.size = 34
      rw [List.size_toArray, hncl]) rfl
     have e : ([Value.agg NCC.toArray].flatMap fun v => v.cells.toList).toArray = NCC.toArray := by simp [Value.cells]
     rw [e] at h
     exact h
    have Hbl1 := Lib.hid hbl1
    have Hncl := Lib.hid hncl
    have Hnz : Hid ((Tryz.prog.info? 117).map (·.size) = some NCC.length) := Lib.hid (by rw [Tryz.sizeChg, hncl])
    have Hu2 := Lib.hid hu2
    have Hd2 := Lib.hid hd2
    have HR8 := Lib.hid hr8
    have HT8 := Lib.hid hT8
    have HO := Lib.hid hHO
    have HOp := Lib.hid hHOp
    have HVV := Lib.hid hVV
    have HNH := Lib.hid hNH
    have HHX := Lib.hid hHX
    have HNCC := Lib.hid hNCC
    have HM8 := Lib.hid hm8
    have HL8 := Lib.hid hl8
    have h08 := Fr.cell hF8 t0 (fun _ h => HN.out.1 h)
    have h368 := Fr.cell hF8 k36 (fun _ h => by have h2 : p = bl := h; have := HN.out; omega)
    have HF8 := Lib.hid hF8
    have HrW8 := Lib.hid hrW8
    clear hbl1 hncl hu2 hd2 hr8 hrW8 hT8 hHO hHOp hVV hNH hHX hNCC hm8 hl8 hF8 hrow8 hFL t0 t1 k35 k36
    refine wp_region_held_drew (S := fun V => Hid (Fr (fun k _ => k = bc ∨ some k = VV.ownBlock) W8 V)) (by kernel_rfl) (Lib.hid Fr.refl.drew) (fun hHeld => ?_)
    simp only [qL, qL1, qL0, qR, qR1, qR0]
    iterate 12
     refine qt (v := ?_) rfl (Or.inl ⟨by rfl, ?_⟩) hHeld ?_
     rotate_left
     ·intro W hSw
      have h0 := Fr.cell hSw.out h08 (fun _ h => h.elim (fun h => HN.out.2.1 h) (fun h => (HO.out _ h).2.1 rfl)); have h36 := Fr.cell hSw.out h368 (fun _ h => h.elim (fun h => by have := HN.out; omega) (fun h => Nat.lt_irrefl _ (HOp.out _ h)))
      try simp only [qG, qG0, qG1]
      go_simp
      try rw [if_neg (by omega)]
      try with_reducible rfl
     try simp only [Act.put, qS, qS0, qS1, qG, qG0, qG1, qM0, qM1]
    refine qi (i := 13) rfl (yieldsIf_load_mid (by rfl) 117 _ rfl r 0 rfl NCC d2 (fun V h => range_fr HR8.out h.out HrW8.out.2.1 (fun _ h => h.elim (fun h => by have h2 : r = bc := h; have := HN.out; have := HrW8.out; omega) (fun h => by have h2 := HOp.out _ (show some r = VV.ownBlock from h); have := HN.out; have := HrW8.out; omega))) Hu2.out Hd2.out Hnz.out) hHeld ?_
    try simp only [Act.put, qS, qS0, qS1, qG, qG0, qG1, qM0, qM1]
    refine wpAnyH_ready (rs := [12, 14]) (by kernel_rfl) (by simp) (AllReadyH.cons rfl (fun K hK => ?_) (AllReadyH.cons rfl (fun K hK => ?_) AllReadyH.nil))
    ·try simp only [qG, qG0, qG1]
     go_simp
     refine hK.out _ _ (Lib.hid hHeld.out) (fun hHeld => ?_)
     clear hK K
     try simp only [Act.put, qS, qS0, qS1, qG, qG0, qG1, qM0, qM1]
     refine qr (i := 14) (by kernel_rfl) rfl (fun K hK => ?_)
     try simp only [qG, qG0, qG1]
     rw [if_pos (by rfl)]; refine wp_buildSliceTo 110 117 1 _ rfl Tryz.underlying110 NCC.toArray (Eq.trans (congrArg (Tryz.prog.builtSlice 117 1) (by kernel_rfl)) Hbl1.out) ?_
     refine hK.out _ _ (Lib.hid (hHeld.out.alloc _)) (fun hHeld => ?_)
     clear hK K
     try simp only [Act.put, qS, qS0, qS1, qG, qG0, qG1, qM0, qM1]
     refine qr (i := 15) (by kernel_rfl) rfl (fun K hK => ?_)
     try simp only [qG, qG0, qG1]
     rw [if_pos (by rfl)]; refine wp_append_at _ _ 110 (by rfl) base 117 i0 (.agg Chg.zero.cells.toArray) 34 48 Tryz.underlying110 hi0 hz0 hz1 hz2 rfl (by decide) VV NH HX (by rfl) HrowL.out ⟨W8.heap.size, 0, none⟩ 1 1 NCC (by rfl) (by rw [Hncl.out]) HlitL.out HNC1.out (by have := Hfew.out; have := Hn1.out; unfold maxLen; omega) (by have := Hfew.out; have := Hn1.out; omega) HbL.out ?_; intro v' w10 hown hg10 hloc
     refine hK.out _ _ (Lib.hid (hHeld.out.trans' ((Fr.ofGrown hg10).mono (fun _ _ h => Or.inr h)))) (fun hHeld => ?_)
     clear hK K
     try simp only [Act.put, qS, qS0, qS1, qG, qG0, qG1, qM0, qM1]
     have hch10 : MapB strK w10 bc n g := (HchL.out).fr (Fr.ofGrown hg10) (fun o h => (HO.out _ h).2.2.1 rfl)
     obtain ⟨w11, hup2, hm11, hg11⟩ := hch10.store (K := strK) Tryz.underlying112 (by have := Hn1.out; unfold maxLen; omega) Hidl.out v'
     replace hup2 : (Instr.mapUpdate 112 (.map (some bc)) (.string ⟨idn.toArray⟩) v').run Tryz.prog w10 = .ok () w11 := hup2
     refine qr (i := 16) (by kernel_rfl) rfl (fun K hK => ?_)
     try simp only [qG, qG0, qG1]
     go_simp
     skip
     refine hK.out _ _ (Lib.hid (hHeld.out.trans' ((Fr.ofGrown hg11).mono (fun _ _ h => Or.inl (Option.some.inj h))))) (fun hHeld => ?_)
     clear hK K
     try simp only [Act.put, qS, qS0, qS1, qG, qG0, qG1, qM0, qM1]
     refine wpAnyH_done (by kernel_rfl) ?_ _
     have HE := Lib.hid hHeld.out
     have HG10 := Lib.hid hg10
     have HG11 := Lib.hid hg11
     have HM11 := Lib.hid hm11
     have HOW := Lib.hid hown
     have HLOC := Lib.hid hloc
     clear hHeld hup2 hch10 hg10 hg11 hm11 hown hloc
     go_wp2_with fail
     go_ret
     have hpush := HT8.out.push (x := idn) Hidl.out (c := NC) HNCok.out HFL.out (by rw [HNH.out, HHX.out, HNCC.out]; exact HOW.out) (by rw [HVV.out]; exact HG10.out) (by rw [HVV.out]; exact HLOC.out) HM11.out HG11.out
     refine ⟨rfl, ⟨upd g idn (some v'), LV8, ?_⟩, ?_⟩
     ·rw [Hcame8.out]
      refine hpush.toL (lv := LV8) (life := life8) ?_ HL8.out
      have hne : bl ≠ bc := fun e => HN.out.2.2.1 e.symm
      have h1 := (HM8.out.fr HFL.out (fun _ h => h)).fr (Fr.ofGrown HG10.out) (fun o h => (HO.out _ h).2.2.2.1 rfl)
      exact (h1.fr (Fr.ofGrown HG11.out) (fun o h => hne (Option.some.inj h))).mono (by omega)
     ·have hE2 : Fr (TM base bc bl) W8 w11 := HE.out.mono2 (fun k o hk hm => by
       rcases hm with hm | hm
       ·exact .inl hm
       ·obtain ⟨h1, -, -, -, o2, h2, h3⟩ := HO.out k hm
        rw [h2] at hk
        obtain rfl := Option.some.inj hk
        exact .inr (.inr ⟨h1, h3⟩))
      exact ((HFw4.out.mono (fun _ _ h => h.elim)).trans' (HF8.out.mono (fun k o h => .inr (.inl h)))).trans' hE2
    ·try simp only [qG, qG0, qG1]
     rw [if_pos (by rfl)]
     refine wp_buildSliceTo 110 117 1 _ rfl Tryz.underlying110 NCC.toArray (Eq.trans (congrArg (Tryz.prog.builtSlice 117 1) (by kernel_rfl)) Hbl1.out) ?_
     refine hK.out _ _ (Lib.hid (hHeld.out.alloc _)) (fun hHeld => ?_)
     clear hK K
     try simp only [Act.put, qS, qS0, qS1, qG, qG0, qG1, qM0, qM1]
     refine qr (i := 12) (by kernel_rfl) rfl (fun K hK => ?_)
     try simp only [qG, qG0, qG1]
     go_simp
     skip
     refine hK.out _ _ (Lib.hid hHeld.out) (fun hHeld => ?_)
     clear hK K
     try simp only [Act.put, qS, qS0, qS1, qG, qG0, qG1, qM0, qM1]
     refine qr (i := 15) (by kernel_rfl) rfl (fun K hK => ?_)
     try simp only [qG, qG0, qG1]
     rw [if_pos (by rfl)]; refine wp_append_at _ _ 110 (by rfl) base 117 i0 (.agg Chg.zero.cells.toArray) 34 48 Tryz.underlying110 hi0 hz0 hz1 hz2 rfl (by decide) VV NH HX (by rfl) HrowL.out ⟨W8.heap.size, 0, none⟩ 1 1 NCC (by rfl) (by rw [Hncl.out]) HlitL.out HNC1.out (by have := Hfew.out; have := Hn1.out; unfold maxLen; omega) (by have := Hfew.out; have := Hn1.out; omega) HbL.out ?_; intro v' w10 hown hg10 hloc
     refine hK.out _ _ (Lib.hid (hHeld.out.trans' ((Fr.ofGrown hg10).mono (fun _ _ h => Or.inr h)))) (fun hHeld => ?_)
     clear hK K
     try simp only [Act.put, qS, qS0, qS1, qG, qG0, qG1, qM0, qM1]
     have hch10 : MapB strK w10 bc n g := (HchL.out).fr (Fr.ofGrown hg10) (fun o h => (HO.out _ h).2.2.1 rfl)
     obtain ⟨w11, hup2, hm11, hg11⟩ := hch10.store (K := strK) Tryz.underlying112 (by have := Hn1.out; unfold maxLen; omega) Hidl.out v'
     replace hup2 : (Instr.mapUpdate 112 (.map (some bc)) (.string ⟨idn.toArray⟩) v').run Tryz.prog w10 = .ok () w11 := hup2
     refine qr (i := 16) (by kernel_rfl) rfl (fun K hK => ?_)
     try simp only [qG, qG0, qG1]
     go_simp
     skip
     refine hK.out _ _ (Lib.hid (hHeld.out.trans' ((Fr.ofGrown hg11).mono (fun _ _ h => Or.inl (Option.some.inj h))))) (fun hHeld => ?_)
     clear hK K
     try simp only [Act.put, qS, qS0, qS1, qG, qG0, qG1, qM0, qM1]
     refine wpAnyH_done (by kernel_rfl) ?_ _
     have HE := Lib.hid hHeld.out
     have HG10 := Lib.hid hg10
     have HG11 := Lib.hid hg11
     have HM11 := Lib.hid hm11
     have HOW := Lib.hid hown
     have HLOC := Lib.hid hloc
     clear hHeld hup2 hch10 hg10 hg11 hm11 hown hloc
     go_wp2_with fail
     go_ret
     have hpush := HT8.out.push (x := idn) Hidl.out (c := NC) HNCok.out HFL.out (by rw [HNH.out, HHX.out, HNCC.out]; exact HOW.out) (by rw [HVV.out]; exact HG10.out) (by rw [HVV.out]; exact HLOC.out) HM11.out HG11.out
     refine ⟨rfl, ⟨upd g idn (some v'), LV8, ?_⟩, ?_⟩
     ·rw [Hcame8.out]
      refine hpush.toL (lv := LV8) (life := life8) ?_ HL8.out
      have hne : bl ≠ bc := fun e => HN.out.2.2.1 e.symm
      have h1 := (HM8.out.fr HFL.out (fun _ h => h)).fr (Fr.ofGrown HG10.out) (fun o h => (HO.out _ h).2.2.2.1 rfl)
      exact (h1.fr (Fr.ofGrown HG11.out) (fun o h => hne (Option.some.inj h))).mono (by omega)
     ·have hE2 : Fr (TM base bc bl) W8 w11 := HE.out.mono2 (fun k o hk hm => by
       rcases hm with hm | hm
       ·exact .inl hm
       ·obtain ⟨h1, -, -, -, o2, h2, h3⟩ := HO.out k hm
        rw [h2] at hk
        obtain rfl := Option.some.inj hk
        exact .inr (.inr ⟨h1, h3⟩))
      exact ((HFw4.out.mono (fun _ _ h => h.elim)).trans' (HF8.out.mono (fun k o h => .inr (.inl h)))).trans' hE2
   ·have e3 : (op != 3) = true := by simpa using h3
    go_upto_region 11 with (fail)
    have hNCe : NC = ⟨pos, true, ky⟩ := by rw [HNC.out, if_neg h3]
    obtain ⟨life8, hlife8⟩ : ∃ l, upd life5 ky 1 = l := ⟨_, rfl⟩
    have hcame8 : T2 = ⟨upd t.hist idn (t.hist idn ++ [NC]), life8⟩ := by rw [Hcame.out, if_neg h3, hlife8]
    have Hcame8 := Lib.hid hcame8
    have Hlife8 := Lib.hid hlife8
    have hK6 := range_fr HK4.out HF6.out (by have := HN.out; omega) (fun _ h => by have h2 : p = bl := h; have := HN.out; omega)
    obtain ⟨KYC, hKYC⟩ : ∃ C, Lib.byteCells ky = C := ⟨_, rfl⟩
    have hkyl : KYC.length = 32 := by rw [← hKYC, byteCells_len, Hkyl.out]
    have hky1 : ∀ v ∈ KYC, v.oneCell' = true := by rw [← hKYC]; exact cells_one ky
    rw [hKYC] at hK6
    have hc1 : W6.cell? ⟨r, 1, none⟩ = some (.bool false) := HR6.out 1 _ rfl
    have hfz1 : W6.frozen? ⟨r, 1, none⟩ = false := (HTR.out 1 (by omega)).2
    have hp6 : p < W6.heap.size := Nat.lt_of_lt_of_le (by have := HN.out; omega) HF6.out.size
    have HK6 := Lib.hid hK6
    have Hp6 := Lib.hid hp6
    have Hky1 : Hid ((Tryz.prog.info? 24).map (·.size) = some KYC.toArray.size) := Lib.hid (by rw [List.size_toArray, hkyl, Tryz.sizeKey])
    have Hky2 : Hid ((Tryz.prog.info? 24).map (·.size) = some KYC.length) := Lib.hid (by rw [hkyl, Tryz.sizeKey])
    have Hky3 := Lib.hid (all_oneCell_toArray hky1)
    have HT62 : Hid (((W6.setCell ⟨r, 1, none⟩ (.bool true)).drew).there r 2 KYC.toArray.size) := Lib.hid (by
     rw [List.size_toArray, hkyl]
     intro j hj
     have h1 := there_setCell HTR.out r 1 (.bool true)
     have h2 := h1 (2 + j) (by omega)
     rw [Nat.zero_add] at h2
     exact h2)
    have Hr7 : Hid ((((W6.setCell ⟨r, 1, none⟩ (.bool true)).drew).setCells r 2 KYC).rangeAt r 0 NC.cells) := Lib.hid (by
     have h1 : W6.rangeAt r 0 ([.int .i64 pos] ++ ([.bool false] ++ Lib.byteCells zero32)) := HR6.out
     have h2 := range_put [.int .i64 pos] [.bool false] (Lib.byteCells zero32) [.bool true] h1 rfl
     have h3 : ((W6.setCell ⟨r, 1, none⟩ (.bool true)).drew).rangeAt r 0 ([.int .i64 pos, .bool true] ++ (Lib.byteCells zero32 ++ [])) := by
      rw [List.append_nil]
      exact h2
     have h4 := range_put [.int .i64 pos, .bool true] (Lib.byteCells zero32) [] KYC h3 (by rw [hkyl]; rfl)
     rw [List.append_nil] at h4
     rw [hNCe]
     unfold Chg.cells
     rw [hKYC]
     exact h4)
    clear hNCe hlife8 hcame8 hK6 hp6 hkyl hky1 h3
    refine wp_region_held_drew (S := fun V => Hid (Fr (fun k _ => k = r) W6 V)) (by kernel_rfl) (Lib.hid Fr.refl.drew) (fun hHeld => ?_)
    simp only [qL, qL1, qL0, qR, qR1, qR0]
    refine qt (v := ?_) rfl (Or.inl ⟨by rfl, ?_⟩) hHeld ?_
    rotate_left
    ·intro W hSw
     try simp only [qG, qG0, qG1]
     go_simp
     try rw [if_neg (by omega)]
     try with_reducible rfl
    try simp only [Act.put, qS, qS0, qS1, qG, qG0, qG1, qM0, qM1]
    refine qi (i := 1) rfl (yieldsIf_load_mid (by rfl) 24 _ rfl p 37 rfl KYC (.array 32 5) (fun V h => range_fr HK6.out h.out Hp6.out (fun _ h => by have h2 : p = r := h; have := HN.out; have := HRW.out; omega)) Tryz.underKey rfl Hky2.out) hHeld ?_
    try simp only [Act.put, qS, qS0, qS1, qG, qG0, qG1, qM0, qM1]
    refine qt (v := ?_) rfl (Or.inl ⟨by rfl, ?_⟩) hHeld ?_
    rotate_left
    ·intro W hSw
     try simp only [qG, qG0, qG1]
     go_simp
     try rw [if_neg (by omega)]
     try with_reducible rfl
    try simp only [Act.put, qS, qS0, qS1, qG, qG0, qG1, qM0, qM1]
    refine qr (i := 3) (by kernel_rfl) rfl (fun K hK => ?_)
    try simp only [qG, qG0, qG1]
    go_simp
    skip
    refine hK.out _ _ (Lib.hid (hHeld.out.setCell _ _ (fun _ _ => rfl))) (fun hHeld => ?_)
    clear hK K
    try simp only [Act.put, qS, qS0, qS1, qG, qG0, qG1, qM0, qM1]
    refine qt (v := ?_) rfl (Or.inl ⟨by rfl, ?_⟩) hHeld ?_
    rotate_left
    ·intro W hSw
     try simp only [qG, qG0, qG1]
     go_simp
     try rw [if_neg (by omega)]
     try with_reducible rfl
    try simp only [Act.put, qS, qS0, qS1, qG, qG0, qG1, qM0, qM1]
    refine qr (i := 5) (by kernel_rfl) rfl (fun K hK => ?_)
    try simp only [qG, qG0, qG1]
    rw [if_pos (by rfl)]; refine wp_store_mid 24 (.tmp 39) (.tmp 37) (by rfl) r 2 KYC.toArray (by rfl) (by rfl) HT62.out Hky1.out Hky3.out ?_
    refine hK.out _ _ (Lib.hid (hHeld.out.trans' ((setCells_fr r _ _ _).mono (fun _ _ h => h)))) (fun hHeld => ?_)
    clear hK K
    try simp only [Act.put, qS, qS0, qS1, qG, qG0, qG1, qM0, qM1]
    refine wpAnyH_done (by kernel_rfl) ?_ _
    have hF67 := hHeld.out
    have hF7 : Fr (fun k _ => k = bl) W4 (((W6.setCell ⟨r, 1, none⟩ (.bool true)).drew).setCells r 2 KYC) := HF6.out.trans hF67 (fun k _ h => by have h2 : k = r := h; have := HRW.out; omega)
    have hm7 : MapB keyK (((W6.setCell ⟨r, 1, none⟩ (.bool true)).drew).setCells r 2 KYC) bl (2 * n + 1) lv := HM6.out.fr hF67 (fun _ h => by have h2 : bl = r := h; have := HRW.out; have := HN.out; omega)
    have hr7 := Hr7.out
    have hK7 : (((W6.setCell ⟨r, 1, none⟩ (.bool true)).drew).setCells r 2 KYC).rangeAt p 37 KYC := range_fr HK6.out hF67 Hp6.out (fun _ h => by have h2 : p = r := h; have := HN.out; have := HRW.out; omega)
    have hsz7 : W6.heap.size ≤ (((W6.setCell ⟨r, 1, none⟩ (.bool true)).drew).setCells r 2 KYC).heap.size := hF67.size
    clear hHeld hF67 hc1 hfz1 Hr7 HT62
    go_upto_region 12 with (fail)
    change Code.wp _ _ _ _ (((W6.setCell ⟨r, 1, none⟩ (.bool true)).drew).setCells r 2 KYC)
    obtain ⟨W7, hW7⟩ : ∃ V, ((W6.setCell ⟨r, 1, none⟩ (.bool true)).drew).setCells r 2 KYC = V := ⟨_, rfl⟩
    rw [hW7] at hF7 hm7 hr7 hK7 hsz7 ⊢
    clear hW7
    have HF7 := Lib.hid hF7
    have HK7 := Lib.hid hK7
    have HR7 := Lib.hid hr7
    have Hsz7 := Lib.hid hsz7
    have h07 := Fr.cell hF7 t0 (fun _ h => HN.out.1 h)
    have h17 := Fr.cell hF7 t1 (fun _ h => HN.out.1 h)
    obtain ⟨W8, hup, hm8, hg8⟩ := (hm7.fr (Fr.refl (M := NoB)).drew (fun _ h => h)).store (K := keyK) (w := W7.drew) Tryz.underlying113 Hn2.out Hkyl.out (.int .i64 1)
    replace hup : (Instr.mapUpdate 113 (.map (some bl)) (.agg (Lib.byteCells ky).toArray) (.int .i64 1)).run Tryz.prog W7.drew = .ok () W8 := hup
    rw [hKYC] at hup
    clear hF7 hm7 hr7 hK7 hsz7 hKYC
    refine wp_region_held_drew (S := fun V => Hid (Fr (fun k _ => k = bl) W7 V)) (by kernel_rfl) (Lib.hid Fr.refl.drew) (fun hHeld => ?_)
    simp only [qL, qL1, qL0, qR, qR1, qR0]
    iterate 5
     refine qt (v := ?_) rfl (Or.inl ⟨by rfl, ?_⟩) hHeld ?_
     rotate_left
     ·intro W hSw
      have h0 := Fr.cell hSw.out h07 (fun _ h => HN.out.1 h); have h1 := Fr.cell hSw.out h17 (fun _ h => HN.out.1 h)
      try simp only [qG, qG0, qG1]
      go_simp
      try rw [if_neg (by omega)]
      try with_reducible rfl
     try simp only [Act.put, qS, qS0, qS1, qG, qG0, qG1, qM0, qM1]
    refine qi (i := 5) rfl (yieldsIf_load_mid (by rfl) 24 _ rfl p 37 rfl KYC (.array 32 5) (fun V h => range_fr HK7.out h.out (Nat.lt_of_lt_of_le Hp6.out Hsz7.out) (fun _ h => by have h2 : p = bl := h; have := HN.out; omega)) Tryz.underKey rfl Hky2.out) hHeld ?_
    try simp only [Act.put, qS, qS0, qS1, qG, qG0, qG1, qM0, qM1]
    refine qr (i := 6) (by kernel_rfl) rfl (fun K hK => ?_)
    try simp only [qG, qG0, qG1]
    go_simp
    skip
    refine hK.out _ _ (Lib.hid (hHeld.out.trans' ((Fr.ofGrown hg8).mono (fun _ _ h => Option.some.inj h)))) (fun hHeld => ?_)
    clear hK K
    try simp only [Act.put, qS, qS0, qS1, qG, qG0, qG1, qM0, qM1]
    refine wpAnyH_done (by kernel_rfl) ?_ _
    have hF78 := hHeld.out
    have hF8 := HF7.out.trans' hF78
    have hrW8 : q < r ∧ r < W8.heap.size ∧ W4.heap.size ≤ r := ⟨HRW.out.1, by have := HRW.out; have := Hsz7.out; have := hF78.size; omega, HRW.out.2.2⟩
    have hr8 := range_fr HR7.out hF78 (by have := HRW.out; have := Hsz7.out; omega) (fun _ h => by have h2 : r = bl := h; have := HN.out; have := HRW.out; omega)
    have hl8 : ∀ k : Bs, k.length = 32 → (upd lv ky (some (.int .i64 1)) k).getD (.int .i64 0) = .int .i64 (life8 k) := fun k hk => by
     rw [← Hlife8.out]
     have h5 := HL5.out k hk
     show (if k = ky then some (Value.int .i64 1) else (lv) k).getD _ = .int .i64 (if k = ky then 1 else life5 k)
     by_cases he : k = ky
     ·rw [if_pos he, if_pos he]; rfl
     ·rw [if_neg he, if_neg he]; exact h5
    have k35 := k356
    clear hHeld hup hg8 hF78 h07 h17
    go_upto_region 13 with (fail)
    change Code.wp _ _ _ _ W8
    obtain ⟨W8, hW8⟩ : ∃ V, W8 = V := ⟨_, rfl⟩
    rw [hW8] at hF8 hm8 hr8 hrW8 ⊢
    clear hW8
    obtain ⟨LV8, hLV8⟩ : ∃ V, (upd lv ky (some (.int .i64 1))) = V := ⟨_, rfl⟩
    rw [hLV8] at hl8 hm8
    clear hLV8
    have hT8 := HT4.out.toC.fr hF8 (fun k o hk ho hb => by
     rcases hk with rfl | rfl | ⟨-, hk⟩
     ·exact HN.out.1 hb
     ·exact HN.out.2.2.1 hb
     ·exact map_not HT4.out.li ho hk hb)
    obtain ⟨VV, hVV⟩ : ∃ V, atOr g idn = V := ⟨_, rfl⟩
    obtain ⟨NH, hNH⟩ : ∃ V, (t.hist idn).length = V := ⟨_, rfl⟩
    obtain ⟨HX, hHX⟩ : ∃ V, (t.hist idn).flatMap Chg.cells = V := ⟨_, rfl⟩
    obtain ⟨NCC, hNCC⟩ : ∃ V, NC.cells = V := ⟨_, rfl⟩
    have hHO : ∀ k, some k = VV.ownBlock → base ≤ k ∧ k ≠ tb ∧ k ≠ bc ∧ k ≠ bl ∧ ∃ o, W8.heap[k]? = some o ∧ OfTy 117 o := fun k hk => by
     rw [← hVV] at hk
     obtain ⟨h1, h2, h3, o, h4, h5⟩ := hT8.own Hidl.out hk
     exact ⟨h1, h2, h3, map_not hm8 h4 h5, o, h4, h5⟩
    have hHOp : ∀ k, some k = VV.ownBlock → k < p := fun k hk => by
     rw [← hVV] at hk
     obtain ⟨-, -, -, o, h4, -⟩ := Hwc.out.own Hidl.out hk
     have := get_lt h4
     have := HN.out
     omega
    have hrow8 := hT8.rows idn Hidl.out
    rw [hVV, hNH, hHX] at hrow8
    have hlk := fun V (hV : Fr NoB W8 V) => ((hT8.ch.fr hV (fun _ h => h)).look (K := strK) Tryz.underlying112 (Tryz.zeroHist V) Hidl.out)
    have hlk8 : (Instr.lookup 112 (.map (some bc)) (.string ⟨idn.toArray⟩) false).run Tryz.prog W8.drew = .ok VV W8.drew := by
     rw [← hVV]
     exact hlk _ Fr.refl.drew
    have hlkL : (Instr.lookup 112 (.map (some bc)) (.string ⟨idn.toArray⟩) false).run Tryz.prog (W8.drew.alloc (.cells NCC.toArray 117)) = .ok VV (W8.drew.alloc (.cells NCC.toArray 117)) := by
     rw [← hVV]
     exact hlk _ (Fr.refl.drew.alloc _)
    have hlkL2 : (Instr.lookup 112 (.map (some bc)) (.string ⟨idn.toArray⟩) false).run Tryz.prog (W8.alloc (.cells NCC.toArray 117)).drew = .ok VV (W8.alloc (.cells NCC.toArray 117)).drew := hlkL
    clear hlk
    rw [hNCC] at hr8
    have hncl : NCC.length = 34 := by rw [← hNCC]; exact Chg.size HNCok.out
    have hFL : Fr NoB W8 (W8.drew.alloc (.cells NCC.toArray 117)) := Fr.refl.drew.alloc _
    have HrowL := Lib.hid (ownsRow_fr hrow8 hFL (fun _ _ _ _ h => h))
    have HchL : Hid (MapB strK (W8.drew.alloc (.cells NCC.toArray 117)) bc n g) := Lib.hid (hT8.ch.fr hFL (fun _ h => h))
    have HFL := Lib.hid hFL
    have HlitL := Lib.hid (lit_cells W8.drew NCC 117)
    have HNC1 : Hid (∀ u ∈ NCC, u.oneCell' = true) := Lib.hid (fun u hu => by
     have h := Chg.one NC
     rw [hNCC] at h
     rw [List.all_toArray, List.all_eq_true] at h
     exact h u hu)
    have Hfew : Hid (NH ≤ n) := Lib.hid (by rw [← hNH]; exact hT8.few idn)
    have HbL : Hid (base ≤ (W8.drew.alloc (.cells NCC.toArray 117)).heap.size) := Lib.hid (by
     have h1 := get_lt hT8.cells
     have h2 := hT8.low.1
     have h3 := hFL.size
     omega)
    obtain ⟨i0, hi0, hz0, hz1, hz2⟩ := info_parts Tryz.infoChg
    have hbl1 : Tryz.prog.builtSlice 117 1 [(0, .agg NCC.toArray)] = some NCC.toArray := by
     have h := built_list (P := Tryz.prog) hi0 hz0 hz1 (by rfl) (by decide) (by decide : 0 < 1) (by decide) [.agg NCC.toArray] (fun v hv => by
      obtain rfl : v = .agg NCC.toArray := by simpa using hv
      show NCC.toArray.size = 34
      rw [List.size_toArray, hncl]) rfl
     have e : ([Value.agg NCC.toArray].flatMap fun v => v.cells.toList).toArray = NCC.toArray := by simp [Value.cells]
     rw [e] at h
     exact h
    have Hbl1 := Lib.hid hbl1
    have Hncl := Lib.hid hncl
    have Hnz : Hid ((Tryz.prog.info? 117).map (·.size) = some NCC.length) := Lib.hid (by rw [Tryz.sizeChg, hncl])
    have Hu2 := Lib.hid hu2
    have Hd2 := Lib.hid hd2
    have HR8 := Lib.hid hr8
    have HT8 := Lib.hid hT8
    have HO := Lib.hid hHO
    have HOp := Lib.hid hHOp
    have HVV := Lib.hid hVV
    have HNH := Lib.hid hNH
    have HHX := Lib.hid hHX
    have HNCC := Lib.hid hNCC
    have HM8 := Lib.hid hm8
    have HL8 := Lib.hid hl8
    have h08 := Fr.cell hF8 t0 (fun _ h => HN.out.1 h)
    have h368 := Fr.cell hF8 k36 (fun _ h => by have h2 : p = bl := h; have := HN.out; omega)
    have HF8 := Lib.hid hF8
    have HrW8 := Lib.hid hrW8
    clear hbl1 hncl hu2 hd2 hr8 hrW8 hT8 hHO hHOp hVV hNH hHX hNCC hm8 hl8 hF8 hrow8 hFL t0 t1 k35 k36
    refine wp_region_held_drew (S := fun V => Hid (Fr (fun k _ => k = bc ∨ some k = VV.ownBlock) W8 V)) (by kernel_rfl) (Lib.hid Fr.refl.drew) (fun hHeld => ?_)
    simp only [qL, qL1, qL0, qR, qR1, qR0]
    iterate 12
     refine qt (v := ?_) rfl (Or.inl ⟨by rfl, ?_⟩) hHeld ?_
     rotate_left
     ·intro W hSw
      have h0 := Fr.cell hSw.out h08 (fun _ h => h.elim (fun h => HN.out.2.1 h) (fun h => (HO.out _ h).2.1 rfl)); have h36 := Fr.cell hSw.out h368 (fun _ h => h.elim (fun h => by have := HN.out; omega) (fun h => Nat.lt_irrefl _ (HOp.out _ h)))
      try simp only [qG, qG0, qG1]
      go_simp
      try rw [if_neg (by omega)]
      try with_reducible rfl
     try simp only [Act.put, qS, qS0, qS1, qG, qG0, qG1, qM0, qM1]
    refine qi (i := 13) rfl (yieldsIf_load_mid (by rfl) 117 _ rfl r 0 rfl NCC d2 (fun V h => range_fr HR8.out h.out HrW8.out.2.1 (fun _ h => h.elim (fun h => by have h2 : r = bc := h; have := HN.out; have := HrW8.out; omega) (fun h => by have h2 := HOp.out _ (show some r = VV.ownBlock from h); have := HN.out; have := HrW8.out; omega))) Hu2.out Hd2.out Hnz.out) hHeld ?_
    try simp only [Act.put, qS, qS0, qS1, qG, qG0, qG1, qM0, qM1]
    refine wpAnyH_ready (rs := [12, 14]) (by kernel_rfl) (by simp) (AllReadyH.cons rfl (fun K hK => ?_) (AllReadyH.cons rfl (fun K hK => ?_) AllReadyH.nil))
    ·try simp only [qG, qG0, qG1]
     go_simp
     refine hK.out _ _ (Lib.hid hHeld.out) (fun hHeld => ?_)
     clear hK K
     try simp only [Act.put, qS, qS0, qS1, qG, qG0, qG1, qM0, qM1]
     refine qr (i := 14) (by kernel_rfl) rfl (fun K hK => ?_)
     try simp only [qG, qG0, qG1]
     rw [if_pos (by rfl)]; refine wp_buildSliceTo 110 117 1 _ rfl Tryz.underlying110 NCC.toArray (Eq.trans (congrArg (Tryz.prog.builtSlice 117 1) (by kernel_rfl)) Hbl1.out) ?_
     refine hK.out _ _ (Lib.hid (hHeld.out.alloc _)) (fun hHeld => ?_)
     clear hK K
     try simp only [Act.put, qS, qS0, qS1, qG, qG0, qG1, qM0, qM1]
     refine qr (i := 15) (by kernel_rfl) rfl (fun K hK => ?_)
     try simp only [qG, qG0, qG1]
     rw [if_pos (by rfl)]; refine wp_append_at _ _ 110 (by rfl) base 117 i0 (.agg Chg.zero.cells.toArray) 34 48 Tryz.underlying110 hi0 hz0 hz1 hz2 rfl (by decide) VV NH HX (by rfl) HrowL.out ⟨W8.heap.size, 0, none⟩ 1 1 NCC (by rfl) (by rw [Hncl.out]) HlitL.out HNC1.out (by have := Hfew.out; have := Hn1.out; unfold maxLen; omega) (by have := Hfew.out; have := Hn1.out; omega) HbL.out ?_; intro v' w10 hown hg10 hloc
     refine hK.out _ _ (Lib.hid (hHeld.out.trans' ((Fr.ofGrown hg10).mono (fun _ _ h => Or.inr h)))) (fun hHeld => ?_)
     clear hK K
     try simp only [Act.put, qS, qS0, qS1, qG, qG0, qG1, qM0, qM1]
     have hch10 : MapB strK w10 bc n g := (HchL.out).fr (Fr.ofGrown hg10) (fun o h => (HO.out _ h).2.2.1 rfl)
     obtain ⟨w11, hup2, hm11, hg11⟩ := hch10.store (K := strK) Tryz.underlying112 (by have := Hn1.out; unfold maxLen; omega) Hidl.out v'
     replace hup2 : (Instr.mapUpdate 112 (.map (some bc)) (.string ⟨idn.toArray⟩) v').run Tryz.prog w10 = .ok () w11 := hup2
     refine qr (i := 16) (by kernel_rfl) rfl (fun K hK => ?_)
     try simp only [qG, qG0, qG1]
     go_simp
     skip
     refine hK.out _ _ (Lib.hid (hHeld.out.trans' ((Fr.ofGrown hg11).mono (fun _ _ h => Or.inl (Option.some.inj h))))) (fun hHeld => ?_)
     clear hK K
     try simp only [Act.put, qS, qS0, qS1, qG, qG0, qG1, qM0, qM1]
     refine wpAnyH_done (by kernel_rfl) ?_ _
     have HE := Lib.hid hHeld.out
     have HG10 := Lib.hid hg10
     have HG11 := Lib.hid hg11
     have HM11 := Lib.hid hm11
     have HOW := Lib.hid hown
     have HLOC := Lib.hid hloc
     clear hHeld hup2 hch10 hg10 hg11 hm11 hown hloc
     go_wp2_with fail
     go_ret
     have hpush := HT8.out.push (x := idn) Hidl.out (c := NC) HNCok.out HFL.out (by rw [HNH.out, HHX.out, HNCC.out]; exact HOW.out) (by rw [HVV.out]; exact HG10.out) (by rw [HVV.out]; exact HLOC.out) HM11.out HG11.out
     refine ⟨rfl, ⟨upd g idn (some v'), LV8, ?_⟩, ?_⟩
     ·rw [Hcame8.out]
      refine hpush.toL (lv := LV8) (life := life8) ?_ HL8.out
      have hne : bl ≠ bc := fun e => HN.out.2.2.1 e.symm
      have h1 := (HM8.out.fr HFL.out (fun _ h => h)).fr (Fr.ofGrown HG10.out) (fun o h => (HO.out _ h).2.2.2.1 rfl)
      exact (h1.fr (Fr.ofGrown HG11.out) (fun o h => hne (Option.some.inj h))).mono (by omega)
     ·have hE2 : Fr (TM base bc bl) W8 w11 := HE.out.mono2 (fun k o hk hm => by
       rcases hm with hm | hm
       ·exact .inl hm
       ·obtain ⟨h1, -, -, -, o2, h2, h3⟩ := HO.out k hm
        rw [h2] at hk
        obtain rfl := Option.some.inj hk
        exact .inr (.inr ⟨h1, h3⟩))
      exact ((HFw4.out.mono (fun _ _ h => h.elim)).trans' (HF8.out.mono (fun k o h => .inr (.inl h)))).trans' hE2
    ·try simp only [qG, qG0, qG1]
     rw [if_pos (by rfl)]
     refine wp_buildSliceTo 110 117 1 _ rfl Tryz.underlying110 NCC.toArray (Eq.trans (congrArg (Tryz.prog.builtSlice 117 1) (by kernel_rfl)) Hbl1.out) ?_
     refine hK.out _ _ (Lib.hid (hHeld.out.alloc _)) (fun hHeld => ?_)
     clear hK K
     try simp only [Act.put, qS, qS0, qS1, qG, qG0, qG1, qM0, qM1]
     refine qr (i := 12) (by kernel_rfl) rfl (fun K hK => ?_)
     try simp only [qG, qG0, qG1]
     go_simp
     skip
     refine hK.out _ _ (Lib.hid hHeld.out) (fun hHeld => ?_)
     clear hK K
     try simp only [Act.put, qS, qS0, qS1, qG, qG0, qG1, qM0, qM1]
     refine qr (i := 15) (by kernel_rfl) rfl (fun K hK => ?_)
     try simp only [qG, qG0, qG1]
     rw [if_pos (by rfl)]; refine wp_append_at _ _ 110 (by rfl) base 117 i0 (.agg Chg.zero.cells.toArray) 34 48 Tryz.underlying110 hi0 hz0 hz1 hz2 rfl (by decide) VV NH HX (by rfl) HrowL.out ⟨W8.heap.size, 0, none⟩ 1 1 NCC (by rfl) (by rw [Hncl.out]) HlitL.out HNC1.out (by have := Hfew.out; have := Hn1.out; unfold maxLen; omega) (by have := Hfew.out; have := Hn1.out; omega) HbL.out ?_; intro v' w10 hown hg10 hloc
     refine hK.out _ _ (Lib.hid (hHeld.out.trans' ((Fr.ofGrown hg10).mono (fun _ _ h => Or.inr h)))) (fun hHeld => ?_)
     clear hK K
     try simp only [Act.put, qS, qS0, qS1, qG, qG0, qG1, qM0, qM1]
     have hch10 : MapB strK w10 bc n g := (HchL.out).fr (Fr.ofGrown hg10) (fun o h => (HO.out _ h).2.2.1 rfl)
     obtain ⟨w11, hup2, hm11, hg11⟩ := hch10.store (K := strK) Tryz.underlying112 (by have := Hn1.out; unfold maxLen; omega) Hidl.out v'
     replace hup2 : (Instr.mapUpdate 112 (.map (some bc)) (.string ⟨idn.toArray⟩) v').run Tryz.prog w10 = .ok () w11 := hup2
     refine qr (i := 16) (by kernel_rfl) rfl (fun K hK => ?_)
     try simp only [qG, qG0, qG1]
     go_simp
     skip
     refine hK.out _ _ (Lib.hid (hHeld.out.trans' ((Fr.ofGrown hg11).mono (fun _ _ h => Or.inl (Option.some.inj h))))) (fun hHeld => ?_)
     clear hK K
     try simp only [Act.put, qS, qS0, qS1, qG, qG0, qG1, qM0, qM1]
     refine wpAnyH_done (by kernel_rfl) ?_ _
     have HE := Lib.hid hHeld.out
     have HG10 := Lib.hid hg10
     have HG11 := Lib.hid hg11
     have HM11 := Lib.hid hm11
     have HOW := Lib.hid hown
     have HLOC := Lib.hid hloc
     clear hHeld hup2 hch10 hg10 hg11 hm11 hown hloc
     go_wp2_with fail
     go_ret
     have hpush := HT8.out.push (x := idn) Hidl.out (c := NC) HNCok.out HFL.out (by rw [HNH.out, HHX.out, HNCC.out]; exact HOW.out) (by rw [HVV.out]; exact HG10.out) (by rw [HVV.out]; exact HLOC.out) HM11.out HG11.out
     refine ⟨rfl, ⟨upd g idn (some v'), LV8, ?_⟩, ?_⟩
     ·rw [Hcame8.out]
      refine hpush.toL (lv := LV8) (life := life8) ?_ HL8.out
      have hne : bl ≠ bc := fun e => HN.out.2.2.1 e.symm
      have h1 := (HM8.out.fr HFL.out (fun _ h => h)).fr (Fr.ofGrown HG10.out) (fun o h => (HO.out _ h).2.2.2.1 rfl)
      exact (h1.fr (Fr.ofGrown HG11.out) (fun o h => hne (Option.some.inj h))).mono (by omega)
     ·have hE2 : Fr (TM base bc bl) W8 w11 := HE.out.mono2 (fun k o hk hm => by
       rcases hm with hm | hm
       ·exact .inl hm
       ·obtain ⟨h1, -, -, -, o2, h2, h3⟩ := HO.out k hm
        rw [h2] at hk
        obtain rfl := Option.some.inj hk
        exact .inr (.inr ⟨h1, h3⟩))
      exact ((HFw4.out.mono (fun _ _ h => h.elim)).trans' (HF8.out.mono (fun k o h => .inr (.inl h)))).trans' hE2
  ·go_upto_region 8 with (fail)
   obtain ⟨W5, hup, hm5, hg5⟩ := (HT4.out.keep Fr.refl.drew).li.store (K := keyK) (w := W4.drew) Tryz.underlying113 (by have := Hn2.out; omega) HLKl.out (.int .i64 2)
   replace hup : (Instr.mapUpdate 113 (.map (some bl)) (.agg (Lib.byteCells LK).toArray) (.int .i64 2)).run Tryz.prog W4.drew = .ok () W5 := hup
   rw [HLKC.out] at hup
   refine wp_region_held_drew (S := fun V => Hid (Fr (fun k _ => k = bl) W4 V)) (by kernel_rfl) (Lib.hid Fr.refl.drew) (fun hHeld => ?_)
   simp only [qL, qL1, qL0, qR, qR1, qR0]
   iterate 5
    refine qt (v := ?_) rfl (Or.inl ⟨by rfl, ?_⟩) hHeld ?_
    rotate_left
    ·intro W hSw
     have h0 := Fr.cell hSw.out t0 (fun _ h => HN.out.1 h); have h1 := Fr.cell hSw.out t1 (fun _ h => HN.out.1 h)
     try simp only [qG, qG0, qG1]
     go_simp
     try rw [if_neg (by omega)]
     try with_reducible rfl
    try simp only [Act.put, qS, qS0, qS1, qG, qG0, qG1, qM0, qM1]
   refine qi (i := 5) rfl (yieldsIf_load_mid (by rfl) 24 _ rfl q 2 rfl LKC (.array 32 5) (fun V h => range_fr HQ.out h.out HN.out.2.2.2.2.2.2.2.2.1 (fun _ h => by have h2 : q = bl := h; have := HN.out; omega)) Tryz.underKey rfl Hlkz.out) hHeld ?_
   try simp only [Act.put, qS, qS0, qS1, qG, qG0, qG1, qM0, qM1]
   refine qr (i := 6) (by kernel_rfl) rfl (fun K hK => ?_)
   try simp only [qG, qG0, qG1]
   go_simp
   skip
   refine hK.out _ _ (Lib.hid (hHeld.out.trans' ((Fr.ofGrown hg5).mono (fun _ _ h => Option.some.inj h)))) (fun hHeld => ?_)
   clear hK K
   try simp only [Act.put, qS, qS0, qS1, qG, qG0, qG1, qM0, qM1]
   refine wpAnyH_done (by kernel_rfl) ?_ _
   have hF5 := hHeld.out
   clear hHeld hup hg5
   have hl5 : ∀ k : Bs, k.length = 32 → (upd lv LK (some (.int .i64 2)) k).getD (.int .i64 0) = .int .i64 (life5 k) := fun k hk => by
    rw [← Hlife5.out, if_pos rfl]
    unfold upd
    by_cases he : k = LK
    ·rw [if_pos he, if_pos he]; rfl
    ·rw [if_neg he, if_neg he]; exact HT4.out.life k hk
   go_upto_region 9 with (fail)
   change Code.wp _ _ _ _ W5
   have hr6 := range_block (heap_alloc_new W5 (.cells #[Value.int .i64 pos, .bool false, .int .u8 0, .int .u8 0, .int .u8 0, .int .u8 0, .int .u8 0, .int .u8 0, .int .u8 0, .int .u8 0, .int .u8 0, .int .u8 0, .int .u8 0, .int .u8 0, .int .u8 0, .int .u8 0, .int .u8 0, .int .u8 0, .int .u8 0, .int .u8 0, .int .u8 0, .int .u8 0, .int .u8 0, .int .u8 0, .int .u8 0, .int .u8 0, .int .u8 0, .int .u8 0, .int .u8 0, .int .u8 0, .int .u8 0, .int .u8 0, .int .u8 0, .int .u8 0] 117))
   have hF6 : Fr (fun k _ => k = bl) W4 (W5.alloc (.cells #[Value.int .i64 pos, .bool false, .int .u8 0, .int .u8 0, .int .u8 0, .int .u8 0, .int .u8 0, .int .u8 0, .int .u8 0, .int .u8 0, .int .u8 0, .int .u8 0, .int .u8 0, .int .u8 0, .int .u8 0, .int .u8 0, .int .u8 0, .int .u8 0, .int .u8 0, .int .u8 0, .int .u8 0, .int .u8 0, .int .u8 0, .int .u8 0, .int .u8 0, .int .u8 0, .int .u8 0, .int .u8 0, .int .u8 0, .int .u8 0, .int .u8 0, .int .u8 0, .int .u8 0, .int .u8 0] 117)) := hF5.alloc _
   have hm6 := hm5.fr ((Fr.refl (M := NoB)).alloc (.cells #[Value.int .i64 pos, .bool false, .int .u8 0, .int .u8 0, .int .u8 0, .int .u8 0, .int .u8 0, .int .u8 0, .int .u8 0, .int .u8 0, .int .u8 0, .int .u8 0, .int .u8 0, .int .u8 0, .int .u8 0, .int .u8 0, .int .u8 0, .int .u8 0, .int .u8 0, .int .u8 0, .int .u8 0, .int .u8 0, .int .u8 0, .int .u8 0, .int .u8 0, .int .u8 0, .int .u8 0, .int .u8 0, .int .u8 0, .int .u8 0, .int .u8 0, .int .u8 0, .int .u8 0, .int .u8 0] 117)) (fun _ h => h)
   have hrW : q < W5.heap.size ∧ W5.heap.size < (W5.alloc (.cells #[Value.int .i64 pos, .bool false, .int .u8 0, .int .u8 0, .int .u8 0, .int .u8 0, .int .u8 0, .int .u8 0, .int .u8 0, .int .u8 0, .int .u8 0, .int .u8 0, .int .u8 0, .int .u8 0, .int .u8 0, .int .u8 0, .int .u8 0, .int .u8 0, .int .u8 0, .int .u8 0, .int .u8 0, .int .u8 0, .int .u8 0, .int .u8 0, .int .u8 0, .int .u8 0, .int .u8 0, .int .u8 0, .int .u8 0, .int .u8 0, .int .u8 0, .int .u8 0, .int .u8 0, .int .u8 0] 117)).heap.size := ⟨by have := hF5.size; have := HN.out; omega, by rw [World.size_alloc]; omega⟩
   have hsz5 := hF5.size
   have hTr : (W5.alloc (.cells #[Value.int .i64 pos, .bool false, .int .u8 0, .int .u8 0, .int .u8 0, .int .u8 0, .int .u8 0, .int .u8 0, .int .u8 0, .int .u8 0, .int .u8 0, .int .u8 0, .int .u8 0, .int .u8 0, .int .u8 0, .int .u8 0, .int .u8 0, .int .u8 0, .int .u8 0, .int .u8 0, .int .u8 0, .int .u8 0, .int .u8 0, .int .u8 0, .int .u8 0, .int .u8 0, .int .u8 0, .int .u8 0, .int .u8 0, .int .u8 0, .int .u8 0, .int .u8 0, .int .u8 0, .int .u8 0] 117)).there W5.heap.size 0 34 := there_block (heap_alloc_new W5 _) (Nat.le_refl _)
   have HsP : Hid ((Tryz.prog.info? 117).map (·.size) = some (#[Value.int .i64 pos, .bool false, .int .u8 0, .int .u8 0, .int .u8 0, .int .u8 0, .int .u8 0, .int .u8 0, .int .u8 0, .int .u8 0, .int .u8 0, .int .u8 0, .int .u8 0, .int .u8 0, .int .u8 0, .int .u8 0, .int .u8 0, .int .u8 0, .int .u8 0, .int .u8 0, .int .u8 0, .int .u8 0, .int .u8 0, .int .u8 0, .int .u8 0, .int .u8 0, .int .u8 0, .int .u8 0, .int .u8 0, .int .u8 0, .int .u8 0, .int .u8 0, .int .u8 0, .int .u8 0] : Array Value).size) := Lib.hid Tryz.sizeChg
   have HoP : Hid ((#[Value.int .i64 pos, .bool false, .int .u8 0, .int .u8 0, .int .u8 0, .int .u8 0, .int .u8 0, .int .u8 0, .int .u8 0, .int .u8 0, .int .u8 0, .int .u8 0, .int .u8 0, .int .u8 0, .int .u8 0, .int .u8 0, .int .u8 0, .int .u8 0, .int .u8 0, .int .u8 0, .int .u8 0, .int .u8 0, .int .u8 0, .int .u8 0, .int .u8 0, .int .u8 0, .int .u8 0, .int .u8 0, .int .u8 0, .int .u8 0, .int .u8 0, .int .u8 0, .int .u8 0, .int .u8 0] : Array Value).all (·.oneCell') = true) := Lib.hid (by kernel_rfl)
   clear hm5 hF5
   go_upto_region 10 with (first
    | ((with_reducible refine wpList_buildTo ?_ 117 _ rfl _ rfl #[Value.int .i64 pos, .bool false, .int .u8 0, .int .u8 0, .int .u8 0, .int .u8 0, .int .u8 0, .int .u8 0, .int .u8 0, .int .u8 0, .int .u8 0, .int .u8 0, .int .u8 0, .int .u8 0, .int .u8 0, .int .u8 0, .int .u8 0, .int .u8 0, .int .u8 0, .int .u8 0, .int .u8 0, .int .u8 0, .int .u8 0, .int .u8 0, .int .u8 0, .int .u8 0, .int .u8 0, .int .u8 0, .int .u8 0, .int .u8 0, .int .u8 0, .int .u8 0, .int .u8 0, .int .u8 0] ?_ ?_); rfl; kernel_rfl)
    | ((with_reducible refine wpList_store_new (w := W5) rfl 117 _ _ rfl _ #[Value.int .i64 pos, .bool false, .int .u8 0, .int .u8 0, .int .u8 0, .int .u8 0, .int .u8 0, .int .u8 0, .int .u8 0, .int .u8 0, .int .u8 0, .int .u8 0, .int .u8 0, .int .u8 0, .int .u8 0, .int .u8 0, .int .u8 0, .int .u8 0, .int .u8 0, .int .u8 0, .int .u8 0, .int .u8 0, .int .u8 0, .int .u8 0, .int .u8 0, .int .u8 0, .int .u8 0, .int .u8 0, .int .u8 0, .int .u8 0, .int .u8 0, .int .u8 0, .int .u8 0, .int .u8 0] W5.heap.size rfl ?_ ?_ HsP.out rfl HoP.out ?_); rfl; rfl))
   change Code.wp _ _ _ _ (W5.alloc (.cells #[Value.int .i64 pos, .bool false, .int .u8 0, .int .u8 0, .int .u8 0, .int .u8 0, .int .u8 0, .int .u8 0, .int .u8 0, .int .u8 0, .int .u8 0, .int .u8 0, .int .u8 0, .int .u8 0, .int .u8 0, .int .u8 0, .int .u8 0, .int .u8 0, .int .u8 0, .int .u8 0, .int .u8 0, .int .u8 0, .int .u8 0, .int .u8 0, .int .u8 0, .int .u8 0, .int .u8 0, .int .u8 0, .int .u8 0, .int .u8 0, .int .u8 0, .int .u8 0, .int .u8 0, .int .u8 0] 117))
   obtain ⟨W6, hW6⟩ : ∃ V, W5.alloc (.cells #[Value.int .i64 pos, .bool false, .int .u8 0, .int .u8 0, .int .u8 0, .int .u8 0, .int .u8 0, .int .u8 0, .int .u8 0, .int .u8 0, .int .u8 0, .int .u8 0, .int .u8 0, .int .u8 0, .int .u8 0, .int .u8 0, .int .u8 0, .int .u8 0, .int .u8 0, .int .u8 0, .int .u8 0, .int .u8 0, .int .u8 0, .int .u8 0, .int .u8 0, .int .u8 0, .int .u8 0, .int .u8 0, .int .u8 0, .int .u8 0, .int .u8 0, .int .u8 0, .int .u8 0, .int .u8 0] 117) = V := ⟨_, rfl⟩
   rw [hW6] at hr6 hF6 hm6 hrW hTr ⊢
   obtain ⟨r, hrr⟩ : ∃ r, W5.heap.size = r := ⟨_, rfl⟩
   have hW4r : W4.heap.size ≤ r := by omega
   rw [hrr] at hr6 hrW hTr ⊢
   clear hW6 hrr HsP HoP hsz5
   have HRW : Hid (q < r ∧ r < W6.heap.size ∧ W4.heap.size ≤ r) := Lib.hid ⟨hrW.1, hrW.2, hW4r⟩
   have HR6 := Lib.hid hr6
   have HTR := Lib.hid hTr
   have HF6 := Lib.hid hF6
   have HM6 := Lib.hid hm6
   have HL5 := Lib.hid hl5
   have k356 := Fr.cell hF6 k35 (fun _ h => by have h2 : p = bl := h; have := HN.out; omega)
   clear hrW hr6 hTr hF6 hm6 hl5 k35 hW4r
   by_cases h3 : op = 3
   ·subst h3
    have e3 : ((3 : Int) != 3) = false := rfl
    obtain ⟨life8, hlife8⟩ : ∃ l, life5 = l := ⟨_, rfl⟩
    have hcame8 : T2 = ⟨upd t.hist idn (t.hist idn ++ [NC]), life8⟩ := by rw [Hcame.out, if_pos rfl, hlife8]
    have hNCe : NC = ⟨pos, false, zero32⟩ := by rw [HNC.out, if_pos rfl]
    have hr8 : W6.rangeAt r 0 NC.cells := by rw [hNCe]; exact HR6.out
    have Hcame8 := Lib.hid hcame8
    have hl8 := HL5.out
    rw [hlife8] at hl8
    have hm8 := HM6.out.mono (n' := 2 * n + 2) (by omega)
    have hF8 := HF6.out
    have hrW8 := HRW.out
    have k35 := k356
    clear hcame8 hNCe hlife8
    go_upto_region 13 with (fail)
    change Code.wp _ _ _ _ W6
    obtain ⟨W8, hW8⟩ : ∃ V, W6 = V := ⟨_, rfl⟩
    rw [hW8] at hF8 hm8 hr8 hrW8 ⊢
    clear hW8
    obtain ⟨LV8, hLV8⟩ : ∃ V, (upd lv LK (some (.int .i64 2))) = V := ⟨_, rfl⟩
    rw [hLV8] at hl8 hm8
    clear hLV8
    have hT8 := HT4.out.toC.fr hF8 (fun k o hk ho hb => by
     rcases hk with rfl | rfl | ⟨-, hk⟩
     ·exact HN.out.1 hb
     ·exact HN.out.2.2.1 hb
     ·exact map_not HT4.out.li ho hk hb)
    obtain ⟨VV, hVV⟩ : ∃ V, atOr g idn = V := ⟨_, rfl⟩
    obtain ⟨NH, hNH⟩ : ∃ V, (t.hist idn).length = V := ⟨_, rfl⟩
    obtain ⟨HX, hHX⟩ : ∃ V, (t.hist idn).flatMap Chg.cells = V := ⟨_, rfl⟩
    obtain ⟨NCC, hNCC⟩ : ∃ V, NC.cells = V := ⟨_, rfl⟩
    have hHO : ∀ k, some k = VV.ownBlock → base ≤ k ∧ k ≠ tb ∧ k ≠ bc ∧ k ≠ bl ∧ ∃ o, W8.heap[k]? = some o ∧ OfTy 117 o := fun k hk => by
     rw [← hVV] at hk
     obtain ⟨h1, h2, h3, o, h4, h5⟩ := hT8.own Hidl.out hk
     exact ⟨h1, h2, h3, map_not hm8 h4 h5, o, h4, h5⟩
    have hHOp : ∀ k, some k = VV.ownBlock → k < p := fun k hk => by
     rw [← hVV] at hk
     obtain ⟨-, -, -, o, h4, -⟩ := Hwc.out.own Hidl.out hk
     have := get_lt h4
     have := HN.out
     omega
    have hrow8 := hT8.rows idn Hidl.out
    rw [hVV, hNH, hHX] at hrow8
    have hlk := fun V (hV : Fr NoB W8 V) => ((hT8.ch.fr hV (fun _ h => h)).look (K := strK) Tryz.underlying112 (Tryz.zeroHist V) Hidl.out)
    have hlk8 : (Instr.lookup 112 (.map (some bc)) (.string ⟨idn.toArray⟩) false).run Tryz.prog W8.drew = .ok VV W8.drew := by
     rw [← hVV]
     exact hlk _ Fr.refl.drew
    have hlkL : (Instr.lookup 112 (.map (some bc)) (.string ⟨idn.toArray⟩) false).run Tryz.prog (W8.drew.alloc (.cells NCC.toArray 117)) = .ok VV (W8.drew.alloc (.cells NCC.toArray 117)) := by
     rw [← hVV]
     exact hlk _ (Fr.refl.drew.alloc _)
    have hlkL2 : (Instr.lookup 112 (.map (some bc)) (.string ⟨idn.toArray⟩) false).run Tryz.prog (W8.alloc (.cells NCC.toArray 117)).drew = .ok VV (W8.alloc (.cells NCC.toArray 117)).drew := hlkL
    clear hlk
    rw [hNCC] at hr8
    have hncl : NCC.length = 34 := by rw [← hNCC]; exact Chg.size HNCok.out
    have hFL : Fr NoB W8 (W8.drew.alloc (.cells NCC.toArray 117)) := Fr.refl.drew.alloc _
    have HrowL := Lib.hid (ownsRow_fr hrow8 hFL (fun _ _ _ _ h => h))
    have HchL : Hid (MapB strK (W8.drew.alloc (.cells NCC.toArray 117)) bc n g) := Lib.hid (hT8.ch.fr hFL (fun _ h => h))
    have HFL := Lib.hid hFL
    have HlitL := Lib.hid (lit_cells W8.drew NCC 117)
    have HNC1 : Hid (∀ u ∈ NCC, u.oneCell' = true) := Lib.hid (fun u hu => by
     have h := Chg.one NC
     rw [hNCC] at h
     rw [List.all_toArray, List.all_eq_true] at h
     exact h u hu)
    have Hfew : Hid (NH ≤ n) := Lib.hid (by rw [← hNH]; exact hT8.few idn)
    have HbL : Hid (base ≤ (W8.drew.alloc (.cells NCC.toArray 117)).heap.size) := Lib.hid (by
     have h1 := get_lt hT8.cells
     have h2 := hT8.low.1
     have h3 := hFL.size
     omega)
    obtain ⟨i0, hi0, hz0, hz1, hz2⟩ := info_parts Tryz.infoChg
    have hbl1 : Tryz.prog.builtSlice 117 1 [(0, .agg NCC.toArray)] = some NCC.toArray := by
     have h := built_list (P := Tryz.prog) hi0 hz0 hz1 (by rfl) (by decide) (by decide : 0 < 1) (by decide) [.agg NCC.toArray] (fun v hv => by
      obtain rfl : v = .agg NCC.toArray := by simpa using hv
      show NCC.toArray.size = 34
      rw [List.size_toArray, hncl]) rfl
     have e : ([Value.agg NCC.toArray].flatMap fun v => v.cells.toList).toArray = NCC.toArray := by simp [Value.cells]
     rw [e] at h
     exact h
    have Hbl1 := Lib.hid hbl1
    have Hncl := Lib.hid hncl
    have Hnz : Hid ((Tryz.prog.info? 117).map (·.size) = some NCC.length) := Lib.hid (by rw [Tryz.sizeChg, hncl])
    have Hu2 := Lib.hid hu2
    have Hd2 := Lib.hid hd2
    have HR8 := Lib.hid hr8
    have HT8 := Lib.hid hT8
    have HO := Lib.hid hHO
    have HOp := Lib.hid hHOp
    have HVV := Lib.hid hVV
    have HNH := Lib.hid hNH
    have HHX := Lib.hid hHX
    have HNCC := Lib.hid hNCC
    have HM8 := Lib.hid hm8
    have HL8 := Lib.hid hl8
    have h08 := Fr.cell hF8 t0 (fun _ h => HN.out.1 h)
    have h368 := Fr.cell hF8 k36 (fun _ h => by have h2 : p = bl := h; have := HN.out; omega)
    have HF8 := Lib.hid hF8
    have HrW8 := Lib.hid hrW8
    clear hbl1 hncl hu2 hd2 hr8 hrW8 hT8 hHO hHOp hVV hNH hHX hNCC hm8 hl8 hF8 hrow8 hFL t0 t1 k35 k36
    refine wp_region_held_drew (S := fun V => Hid (Fr (fun k _ => k = bc ∨ some k = VV.ownBlock) W8 V)) (by kernel_rfl) (Lib.hid Fr.refl.drew) (fun hHeld => ?_)
    simp only [qL, qL1, qL0, qR, qR1, qR0]
    iterate 12
     refine qt (v := ?_) rfl (Or.inl ⟨by rfl, ?_⟩) hHeld ?_
     rotate_left
     ·intro W hSw
      have h0 := Fr.cell hSw.out h08 (fun _ h => h.elim (fun h => HN.out.2.1 h) (fun h => (HO.out _ h).2.1 rfl)); have h36 := Fr.cell hSw.out h368 (fun _ h => h.elim (fun h => by have := HN.out; omega) (fun h => Nat.lt_irrefl _ (HOp.out _ h)))
      try simp only [qG, qG0, qG1]
      go_simp
      try rw [if_neg (by omega)]
      try with_reducible rfl
     try simp only [Act.put, qS, qS0, qS1, qG, qG0, qG1, qM0, qM1]
    refine qi (i := 13) rfl (yieldsIf_load_mid (by rfl) 117 _ rfl r 0 rfl NCC d2 (fun V h => range_fr HR8.out h.out HrW8.out.2.1 (fun _ h => h.elim (fun h => by have h2 : r = bc := h; have := HN.out; have := HrW8.out; omega) (fun h => by have h2 := HOp.out _ (show some r = VV.ownBlock from h); have := HN.out; have := HrW8.out; omega))) Hu2.out Hd2.out Hnz.out) hHeld ?_
    try simp only [Act.put, qS, qS0, qS1, qG, qG0, qG1, qM0, qM1]
    refine wpAnyH_ready (rs := [12, 14]) (by kernel_rfl) (by simp) (AllReadyH.cons rfl (fun K hK => ?_) (AllReadyH.cons rfl (fun K hK => ?_) AllReadyH.nil))
    ·try simp only [qG, qG0, qG1]
     go_simp
     refine hK.out _ _ (Lib.hid hHeld.out) (fun hHeld => ?_)
     clear hK K
     try simp only [Act.put, qS, qS0, qS1, qG, qG0, qG1, qM0, qM1]
     refine qr (i := 14) (by kernel_rfl) rfl (fun K hK => ?_)
     try simp only [qG, qG0, qG1]
     rw [if_pos (by rfl)]; refine wp_buildSliceTo 110 117 1 _ rfl Tryz.underlying110 NCC.toArray (Eq.trans (congrArg (Tryz.prog.builtSlice 117 1) (by kernel_rfl)) Hbl1.out) ?_
     refine hK.out _ _ (Lib.hid (hHeld.out.alloc _)) (fun hHeld => ?_)
     clear hK K
     try simp only [Act.put, qS, qS0, qS1, qG, qG0, qG1, qM0, qM1]
     refine qr (i := 15) (by kernel_rfl) rfl (fun K hK => ?_)
     try simp only [qG, qG0, qG1]
     rw [if_pos (by rfl)]; refine wp_append_at _ _ 110 (by rfl) base 117 i0 (.agg Chg.zero.cells.toArray) 34 48 Tryz.underlying110 hi0 hz0 hz1 hz2 rfl (by decide) VV NH HX (by rfl) HrowL.out ⟨W8.heap.size, 0, none⟩ 1 1 NCC (by rfl) (by rw [Hncl.out]) HlitL.out HNC1.out (by have := Hfew.out; have := Hn1.out; unfold maxLen; omega) (by have := Hfew.out; have := Hn1.out; omega) HbL.out ?_; intro v' w10 hown hg10 hloc
     refine hK.out _ _ (Lib.hid (hHeld.out.trans' ((Fr.ofGrown hg10).mono (fun _ _ h => Or.inr h)))) (fun hHeld => ?_)
     clear hK K
     try simp only [Act.put, qS, qS0, qS1, qG, qG0, qG1, qM0, qM1]
     have hch10 : MapB strK w10 bc n g := (HchL.out).fr (Fr.ofGrown hg10) (fun o h => (HO.out _ h).2.2.1 rfl)
     obtain ⟨w11, hup2, hm11, hg11⟩ := hch10.store (K := strK) Tryz.underlying112 (by have := Hn1.out; unfold maxLen; omega) Hidl.out v'
     replace hup2 : (Instr.mapUpdate 112 (.map (some bc)) (.string ⟨idn.toArray⟩) v').run Tryz.prog w10 = .ok () w11 := hup2
     refine qr (i := 16) (by kernel_rfl) rfl (fun K hK => ?_)
     try simp only [qG, qG0, qG1]
     go_simp
     skip
     refine hK.out _ _ (Lib.hid (hHeld.out.trans' ((Fr.ofGrown hg11).mono (fun _ _ h => Or.inl (Option.some.inj h))))) (fun hHeld => ?_)
     clear hK K
     try simp only [Act.put, qS, qS0, qS1, qG, qG0, qG1, qM0, qM1]
     refine wpAnyH_done (by kernel_rfl) ?_ _
     have HE := Lib.hid hHeld.out
     have HG10 := Lib.hid hg10
     have HG11 := Lib.hid hg11
     have HM11 := Lib.hid hm11
     have HOW := Lib.hid hown
     have HLOC := Lib.hid hloc
     clear hHeld hup2 hch10 hg10 hg11 hm11 hown hloc
     go_wp2_with fail
     go_ret
     have hpush := HT8.out.push (x := idn) Hidl.out (c := NC) HNCok.out HFL.out (by rw [HNH.out, HHX.out, HNCC.out]; exact HOW.out) (by rw [HVV.out]; exact HG10.out) (by rw [HVV.out]; exact HLOC.out) HM11.out HG11.out
     refine ⟨rfl, ⟨upd g idn (some v'), LV8, ?_⟩, ?_⟩
     ·rw [Hcame8.out]
      refine hpush.toL (lv := LV8) (life := life8) ?_ HL8.out
      have hne : bl ≠ bc := fun e => HN.out.2.2.1 e.symm
      have h1 := (HM8.out.fr HFL.out (fun _ h => h)).fr (Fr.ofGrown HG10.out) (fun o h => (HO.out _ h).2.2.2.1 rfl)
      exact (h1.fr (Fr.ofGrown HG11.out) (fun o h => hne (Option.some.inj h))).mono (by omega)
     ·have hE2 : Fr (TM base bc bl) W8 w11 := HE.out.mono2 (fun k o hk hm => by
       rcases hm with hm | hm
       ·exact .inl hm
       ·obtain ⟨h1, -, -, -, o2, h2, h3⟩ := HO.out k hm
        rw [h2] at hk
        obtain rfl := Option.some.inj hk
        exact .inr (.inr ⟨h1, h3⟩))
      exact ((HFw4.out.mono (fun _ _ h => h.elim)).trans' (HF8.out.mono (fun k o h => .inr (.inl h)))).trans' hE2
    ·try simp only [qG, qG0, qG1]
     rw [if_pos (by rfl)]
     refine wp_buildSliceTo 110 117 1 _ rfl Tryz.underlying110 NCC.toArray (Eq.trans (congrArg (Tryz.prog.builtSlice 117 1) (by kernel_rfl)) Hbl1.out) ?_
     refine hK.out _ _ (Lib.hid (hHeld.out.alloc _)) (fun hHeld => ?_)
     clear hK K
     try simp only [Act.put, qS, qS0, qS1, qG, qG0, qG1, qM0, qM1]
     refine qr (i := 12) (by kernel_rfl) rfl (fun K hK => ?_)
     try simp only [qG, qG0, qG1]
     go_simp
     skip
     refine hK.out _ _ (Lib.hid hHeld.out) (fun hHeld => ?_)
     clear hK K
     try simp only [Act.put, qS, qS0, qS1, qG, qG0, qG1, qM0, qM1]
     refine qr (i := 15) (by kernel_rfl) rfl (fun K hK => ?_)
     try simp only [qG, qG0, qG1]
     rw [if_pos (by rfl)]; refine wp_append_at _ _ 110 (by rfl) base 117 i0 (.agg Chg.zero.cells.toArray) 34 48 Tryz.underlying110 hi0 hz0 hz1 hz2 rfl (by decide) VV NH HX (by rfl) HrowL.out ⟨W8.heap.size, 0, none⟩ 1 1 NCC (by rfl) (by rw [Hncl.out]) HlitL.out HNC1.out (by have := Hfew.out; have := Hn1.out; unfold maxLen; omega) (by have := Hfew.out; have := Hn1.out; omega) HbL.out ?_; intro v' w10 hown hg10 hloc
     refine hK.out _ _ (Lib.hid (hHeld.out.trans' ((Fr.ofGrown hg10).mono (fun _ _ h => Or.inr h)))) (fun hHeld => ?_)
     clear hK K
     try simp only [Act.put, qS, qS0, qS1, qG, qG0, qG1, qM0, qM1]
     have hch10 : MapB strK w10 bc n g := (HchL.out).fr (Fr.ofGrown hg10) (fun o h => (HO.out _ h).2.2.1 rfl)
     obtain ⟨w11, hup2, hm11, hg11⟩ := hch10.store (K := strK) Tryz.underlying112 (by have := Hn1.out; unfold maxLen; omega) Hidl.out v'
     replace hup2 : (Instr.mapUpdate 112 (.map (some bc)) (.string ⟨idn.toArray⟩) v').run Tryz.prog w10 = .ok () w11 := hup2
     refine qr (i := 16) (by kernel_rfl) rfl (fun K hK => ?_)
     try simp only [qG, qG0, qG1]
     go_simp
     skip
     refine hK.out _ _ (Lib.hid (hHeld.out.trans' ((Fr.ofGrown hg11).mono (fun _ _ h => Or.inl (Option.some.inj h))))) (fun hHeld => ?_)
     clear hK K
     try simp only [Act.put, qS, qS0, qS1, qG, qG0, qG1, qM0, qM1]
     refine wpAnyH_done (by kernel_rfl) ?_ _
     have HE := Lib.hid hHeld.out
     have HG10 := Lib.hid hg10
     have HG11 := Lib.hid hg11
     have HM11 := Lib.hid hm11
     have HOW := Lib.hid hown
     have HLOC := Lib.hid hloc
     clear hHeld hup2 hch10 hg10 hg11 hm11 hown hloc
     go_wp2_with fail
     go_ret
     have hpush := HT8.out.push (x := idn) Hidl.out (c := NC) HNCok.out HFL.out (by rw [HNH.out, HHX.out, HNCC.out]; exact HOW.out) (by rw [HVV.out]; exact HG10.out) (by rw [HVV.out]; exact HLOC.out) HM11.out HG11.out
     refine ⟨rfl, ⟨upd g idn (some v'), LV8, ?_⟩, ?_⟩
     ·rw [Hcame8.out]
      refine hpush.toL (lv := LV8) (life := life8) ?_ HL8.out
      have hne : bl ≠ bc := fun e => HN.out.2.2.1 e.symm
      have h1 := (HM8.out.fr HFL.out (fun _ h => h)).fr (Fr.ofGrown HG10.out) (fun o h => (HO.out _ h).2.2.2.1 rfl)
      exact (h1.fr (Fr.ofGrown HG11.out) (fun o h => hne (Option.some.inj h))).mono (by omega)
     ·have hE2 : Fr (TM base bc bl) W8 w11 := HE.out.mono2 (fun k o hk hm => by
       rcases hm with hm | hm
       ·exact .inl hm
       ·obtain ⟨h1, -, -, -, o2, h2, h3⟩ := HO.out k hm
        rw [h2] at hk
        obtain rfl := Option.some.inj hk
        exact .inr (.inr ⟨h1, h3⟩))
      exact ((HFw4.out.mono (fun _ _ h => h.elim)).trans' (HF8.out.mono (fun k o h => .inr (.inl h)))).trans' hE2
   ·have e3 : (op != 3) = true := by simpa using h3
    go_upto_region 11 with (fail)
    have hNCe : NC = ⟨pos, true, ky⟩ := by rw [HNC.out, if_neg h3]
    obtain ⟨life8, hlife8⟩ : ∃ l, upd life5 ky 1 = l := ⟨_, rfl⟩
    have hcame8 : T2 = ⟨upd t.hist idn (t.hist idn ++ [NC]), life8⟩ := by rw [Hcame.out, if_neg h3, hlife8]
    have Hcame8 := Lib.hid hcame8
    have Hlife8 := Lib.hid hlife8
    have hK6 := range_fr HK4.out HF6.out (by have := HN.out; omega) (fun _ h => by have h2 : p = bl := h; have := HN.out; omega)
    obtain ⟨KYC, hKYC⟩ : ∃ C, Lib.byteCells ky = C := ⟨_, rfl⟩
    have hkyl : KYC.length = 32 := by rw [← hKYC, byteCells_len, Hkyl.out]
    have hky1 : ∀ v ∈ KYC, v.oneCell' = true := by rw [← hKYC]; exact cells_one ky
    rw [hKYC] at hK6
    have hc1 : W6.cell? ⟨r, 1, none⟩ = some (.bool false) := HR6.out 1 _ rfl
    have hfz1 : W6.frozen? ⟨r, 1, none⟩ = false := (HTR.out 1 (by omega)).2
    have hp6 : p < W6.heap.size := Nat.lt_of_lt_of_le (by have := HN.out; omega) HF6.out.size
    have HK6 := Lib.hid hK6
    have Hp6 := Lib.hid hp6
    have Hky1 : Hid ((Tryz.prog.info? 24).map (·.size) = some KYC.toArray.size) := Lib.hid (by rw [List.size_toArray, hkyl, Tryz.sizeKey])
    have Hky2 : Hid ((Tryz.prog.info? 24).map (·.size) = some KYC.length) := Lib.hid (by rw [hkyl, Tryz.sizeKey])
    have Hky3 := Lib.hid (all_oneCell_toArray hky1)
    have HT62 : Hid (((W6.setCell ⟨r, 1, none⟩ (.bool true)).drew).there r 2 KYC.toArray.size) := Lib.hid (by
     rw [List.size_toArray, hkyl]
     intro j hj
     have h1 := there_setCell HTR.out r 1 (.bool true)
     have h2 := h1 (2 + j) (by omega)
     rw [Nat.zero_add] at h2
     exact h2)
    have Hr7 : Hid ((((W6.setCell ⟨r, 1, none⟩ (.bool true)).drew).setCells r 2 KYC).rangeAt r 0 NC.cells) := Lib.hid (by
     have h1 : W6.rangeAt r 0 ([.int .i64 pos] ++ ([.bool false] ++ Lib.byteCells zero32)) := HR6.out
     have h2 := range_put [.int .i64 pos] [.bool false] (Lib.byteCells zero32) [.bool true] h1 rfl
     have h3 : ((W6.setCell ⟨r, 1, none⟩ (.bool true)).drew).rangeAt r 0 ([.int .i64 pos, .bool true] ++ (Lib.byteCells zero32 ++ [])) := by
      rw [List.append_nil]
      exact h2
     have h4 := range_put [.int .i64 pos, .bool true] (Lib.byteCells zero32) [] KYC h3 (by rw [hkyl]; rfl)
     rw [List.append_nil] at h4
     rw [hNCe]
     unfold Chg.cells
     rw [hKYC]
     exact h4)
    clear hNCe hlife8 hcame8 hK6 hp6 hkyl hky1 h3
    refine wp_region_held_drew (S := fun V => Hid (Fr (fun k _ => k = r) W6 V)) (by kernel_rfl) (Lib.hid Fr.refl.drew) (fun hHeld => ?_)
    simp only [qL, qL1, qL0, qR, qR1, qR0]
    refine qt (v := ?_) rfl (Or.inl ⟨by rfl, ?_⟩) hHeld ?_
    rotate_left
    ·intro W hSw
     try simp only [qG, qG0, qG1]
     go_simp
     try rw [if_neg (by omega)]
     try with_reducible rfl
    try simp only [Act.put, qS, qS0, qS1, qG, qG0, qG1, qM0, qM1]
    refine qi (i := 1) rfl (yieldsIf_load_mid (by rfl) 24 _ rfl p 37 rfl KYC (.array 32 5) (fun V h => range_fr HK6.out h.out Hp6.out (fun _ h => by have h2 : p = r := h; have := HN.out; have := HRW.out; omega)) Tryz.underKey rfl Hky2.out) hHeld ?_
    try simp only [Act.put, qS, qS0, qS1, qG, qG0, qG1, qM0, qM1]
    refine qt (v := ?_) rfl (Or.inl ⟨by rfl, ?_⟩) hHeld ?_
    rotate_left
    ·intro W hSw
     try simp only [qG, qG0, qG1]
     go_simp
     try rw [if_neg (by omega)]
     try with_reducible rfl
    try simp only [Act.put, qS, qS0, qS1, qG, qG0, qG1, qM0, qM1]
    refine qr (i := 3) (by kernel_rfl) rfl (fun K hK => ?_)
    try simp only [qG, qG0, qG1]
    go_simp
    skip
    refine hK.out _ _ (Lib.hid (hHeld.out.setCell _ _ (fun _ _ => rfl))) (fun hHeld => ?_)
    clear hK K
    try simp only [Act.put, qS, qS0, qS1, qG, qG0, qG1, qM0, qM1]
    refine qt (v := ?_) rfl (Or.inl ⟨by rfl, ?_⟩) hHeld ?_
    rotate_left
    ·intro W hSw
     try simp only [qG, qG0, qG1]
     go_simp
     try rw [if_neg (by omega)]
     try with_reducible rfl
    try simp only [Act.put, qS, qS0, qS1, qG, qG0, qG1, qM0, qM1]
    refine qr (i := 5) (by kernel_rfl) rfl (fun K hK => ?_)
    try simp only [qG, qG0, qG1]
    rw [if_pos (by rfl)]; refine wp_store_mid 24 (.tmp 39) (.tmp 37) (by rfl) r 2 KYC.toArray (by rfl) (by rfl) HT62.out Hky1.out Hky3.out ?_
    refine hK.out _ _ (Lib.hid (hHeld.out.trans' ((setCells_fr r _ _ _).mono (fun _ _ h => h)))) (fun hHeld => ?_)
    clear hK K
    try simp only [Act.put, qS, qS0, qS1, qG, qG0, qG1, qM0, qM1]
    refine wpAnyH_done (by kernel_rfl) ?_ _
    have hF67 := hHeld.out
    have hF7 : Fr (fun k _ => k = bl) W4 (((W6.setCell ⟨r, 1, none⟩ (.bool true)).drew).setCells r 2 KYC) := HF6.out.trans hF67 (fun k _ h => by have h2 : k = r := h; have := HRW.out; omega)
    have hm7 : MapB keyK (((W6.setCell ⟨r, 1, none⟩ (.bool true)).drew).setCells r 2 KYC) bl (2 * n + 1) (upd lv LK (some (.int .i64 2))) := HM6.out.fr hF67 (fun _ h => by have h2 : bl = r := h; have := HRW.out; have := HN.out; omega)
    have hr7 := Hr7.out
    have hK7 : (((W6.setCell ⟨r, 1, none⟩ (.bool true)).drew).setCells r 2 KYC).rangeAt p 37 KYC := range_fr HK6.out hF67 Hp6.out (fun _ h => by have h2 : p = r := h; have := HN.out; have := HRW.out; omega)
    have hsz7 : W6.heap.size ≤ (((W6.setCell ⟨r, 1, none⟩ (.bool true)).drew).setCells r 2 KYC).heap.size := hF67.size
    clear hHeld hF67 hc1 hfz1 Hr7 HT62
    go_upto_region 12 with (fail)
    change Code.wp _ _ _ _ (((W6.setCell ⟨r, 1, none⟩ (.bool true)).drew).setCells r 2 KYC)
    obtain ⟨W7, hW7⟩ : ∃ V, ((W6.setCell ⟨r, 1, none⟩ (.bool true)).drew).setCells r 2 KYC = V := ⟨_, rfl⟩
    rw [hW7] at hF7 hm7 hr7 hK7 hsz7 ⊢
    clear hW7
    have HF7 := Lib.hid hF7
    have HK7 := Lib.hid hK7
    have HR7 := Lib.hid hr7
    have Hsz7 := Lib.hid hsz7
    have h07 := Fr.cell hF7 t0 (fun _ h => HN.out.1 h)
    have h17 := Fr.cell hF7 t1 (fun _ h => HN.out.1 h)
    obtain ⟨W8, hup, hm8, hg8⟩ := (hm7.fr (Fr.refl (M := NoB)).drew (fun _ h => h)).store (K := keyK) (w := W7.drew) Tryz.underlying113 Hn2.out Hkyl.out (.int .i64 1)
    replace hup : (Instr.mapUpdate 113 (.map (some bl)) (.agg (Lib.byteCells ky).toArray) (.int .i64 1)).run Tryz.prog W7.drew = .ok () W8 := hup
    rw [hKYC] at hup
    clear hF7 hm7 hr7 hK7 hsz7 hKYC
    refine wp_region_held_drew (S := fun V => Hid (Fr (fun k _ => k = bl) W7 V)) (by kernel_rfl) (Lib.hid Fr.refl.drew) (fun hHeld => ?_)
    simp only [qL, qL1, qL0, qR, qR1, qR0]
    iterate 5
     refine qt (v := ?_) rfl (Or.inl ⟨by rfl, ?_⟩) hHeld ?_
     rotate_left
     ·intro W hSw
      have h0 := Fr.cell hSw.out h07 (fun _ h => HN.out.1 h); have h1 := Fr.cell hSw.out h17 (fun _ h => HN.out.1 h)
      try simp only [qG, qG0, qG1]
      go_simp
      try rw [if_neg (by omega)]
      try with_reducible rfl
     try simp only [Act.put, qS, qS0, qS1, qG, qG0, qG1, qM0, qM1]
    refine qi (i := 5) rfl (yieldsIf_load_mid (by rfl) 24 _ rfl p 37 rfl KYC (.array 32 5) (fun V h => range_fr HK7.out h.out (Nat.lt_of_lt_of_le Hp6.out Hsz7.out) (fun _ h => by have h2 : p = bl := h; have := HN.out; omega)) Tryz.underKey rfl Hky2.out) hHeld ?_
    try simp only [Act.put, qS, qS0, qS1, qG, qG0, qG1, qM0, qM1]
    refine qr (i := 6) (by kernel_rfl) rfl (fun K hK => ?_)
    try simp only [qG, qG0, qG1]
    go_simp
    skip
    refine hK.out _ _ (Lib.hid (hHeld.out.trans' ((Fr.ofGrown hg8).mono (fun _ _ h => Option.some.inj h)))) (fun hHeld => ?_)
    clear hK K
    try simp only [Act.put, qS, qS0, qS1, qG, qG0, qG1, qM0, qM1]
    refine wpAnyH_done (by kernel_rfl) ?_ _
    have hF78 := hHeld.out
    have hF8 := HF7.out.trans' hF78
    have hrW8 : q < r ∧ r < W8.heap.size ∧ W4.heap.size ≤ r := ⟨HRW.out.1, by have := HRW.out; have := Hsz7.out; have := hF78.size; omega, HRW.out.2.2⟩
    have hr8 := range_fr HR7.out hF78 (by have := HRW.out; have := Hsz7.out; omega) (fun _ h => by have h2 : r = bl := h; have := HN.out; have := HRW.out; omega)
    have hl8 : ∀ k : Bs, k.length = 32 → (upd (upd lv LK (some (.int .i64 2))) ky (some (.int .i64 1)) k).getD (.int .i64 0) = .int .i64 (life8 k) := fun k hk => by
     rw [← Hlife8.out]
     have h5 := HL5.out k hk
     show (if k = ky then some (Value.int .i64 1) else ((upd lv LK (some (.int .i64 2)))) k).getD _ = .int .i64 (if k = ky then 1 else life5 k)
     by_cases he : k = ky
     ·rw [if_pos he, if_pos he]; rfl
     ·rw [if_neg he, if_neg he]; exact h5
    have k35 := k356
    clear hHeld hup hg8 hF78 h07 h17
    go_upto_region 13 with (fail)
    change Code.wp _ _ _ _ W8
    obtain ⟨W8, hW8⟩ : ∃ V, W8 = V := ⟨_, rfl⟩
    rw [hW8] at hF8 hm8 hr8 hrW8 ⊢
    clear hW8
    obtain ⟨LV8, hLV8⟩ : ∃ V, (upd (upd lv LK (some (.int .i64 2))) ky (some (.int .i64 1))) = V := ⟨_, rfl⟩
    rw [hLV8] at hl8 hm8
    clear hLV8
    have hT8 := HT4.out.toC.fr hF8 (fun k o hk ho hb => by
     rcases hk with rfl | rfl | ⟨-, hk⟩
     ·exact HN.out.1 hb
     ·exact HN.out.2.2.1 hb
     ·exact map_not HT4.out.li ho hk hb)
    obtain ⟨VV, hVV⟩ : ∃ V, atOr g idn = V := ⟨_, rfl⟩
    obtain ⟨NH, hNH⟩ : ∃ V, (t.hist idn).length = V := ⟨_, rfl⟩
    obtain ⟨HX, hHX⟩ : ∃ V, (t.hist idn).flatMap Chg.cells = V := ⟨_, rfl⟩
    obtain ⟨NCC, hNCC⟩ : ∃ V, NC.cells = V := ⟨_, rfl⟩
    have hHO : ∀ k, some k = VV.ownBlock → base ≤ k ∧ k ≠ tb ∧ k ≠ bc ∧ k ≠ bl ∧ ∃ o, W8.heap[k]? = some o ∧ OfTy 117 o := fun k hk => by
     rw [← hVV] at hk
     obtain ⟨h1, h2, h3, o, h4, h5⟩ := hT8.own Hidl.out hk
     exact ⟨h1, h2, h3, map_not hm8 h4 h5, o, h4, h5⟩
    have hHOp : ∀ k, some k = VV.ownBlock → k < p := fun k hk => by
     rw [← hVV] at hk
     obtain ⟨-, -, -, o, h4, -⟩ := Hwc.out.own Hidl.out hk
     have := get_lt h4
     have := HN.out
     omega
    have hrow8 := hT8.rows idn Hidl.out
    rw [hVV, hNH, hHX] at hrow8
    have hlk := fun V (hV : Fr NoB W8 V) => ((hT8.ch.fr hV (fun _ h => h)).look (K := strK) Tryz.underlying112 (Tryz.zeroHist V) Hidl.out)
    have hlk8 : (Instr.lookup 112 (.map (some bc)) (.string ⟨idn.toArray⟩) false).run Tryz.prog W8.drew = .ok VV W8.drew := by
     rw [← hVV]
     exact hlk _ Fr.refl.drew
    have hlkL : (Instr.lookup 112 (.map (some bc)) (.string ⟨idn.toArray⟩) false).run Tryz.prog (W8.drew.alloc (.cells NCC.toArray 117)) = .ok VV (W8.drew.alloc (.cells NCC.toArray 117)) := by
     rw [← hVV]
     exact hlk _ (Fr.refl.drew.alloc _)
    have hlkL2 : (Instr.lookup 112 (.map (some bc)) (.string ⟨idn.toArray⟩) false).run Tryz.prog (W8.alloc (.cells NCC.toArray 117)).drew = .ok VV (W8.alloc (.cells NCC.toArray 117)).drew := hlkL
    clear hlk
    rw [hNCC] at hr8
    have hncl : NCC.length = 34 := by rw [← hNCC]; exact Chg.size HNCok.out
    have hFL : Fr NoB W8 (W8.drew.alloc (.cells NCC.toArray 117)) := Fr.refl.drew.alloc _
    have HrowL := Lib.hid (ownsRow_fr hrow8 hFL (fun _ _ _ _ h => h))
    have HchL : Hid (MapB strK (W8.drew.alloc (.cells NCC.toArray 117)) bc n g) := Lib.hid (hT8.ch.fr hFL (fun _ h => h))
    have HFL := Lib.hid hFL
    have HlitL := Lib.hid (lit_cells W8.drew NCC 117)
    have HNC1 : Hid (∀ u ∈ NCC, u.oneCell' = true) := Lib.hid (fun u hu => by
     have h := Chg.one NC
     rw [hNCC] at h
     rw [List.all_toArray, List.all_eq_true] at h
     exact h u hu)
    have Hfew : Hid (NH ≤ n) := Lib.hid (by rw [← hNH]; exact hT8.few idn)
    have HbL : Hid (base ≤ (W8.drew.alloc (.cells NCC.toArray 117)).heap.size) := Lib.hid (by
     have h1 := get_lt hT8.cells
     have h2 := hT8.low.1
     have h3 := hFL.size
     omega)
    obtain ⟨i0, hi0, hz0, hz1, hz2⟩ := info_parts Tryz.infoChg
    have hbl1 : Tryz.prog.builtSlice 117 1 [(0, .agg NCC.toArray)] = some NCC.toArray := by
     have h := built_list (P := Tryz.prog) hi0 hz0 hz1 (by rfl) (by decide) (by decide : 0 < 1) (by decide) [.agg NCC.toArray] (fun v hv => by
      obtain rfl : v = .agg NCC.toArray := by simpa using hv
      show NCC.toArray.size = 34
      rw [List.size_toArray, hncl]) rfl
     have e : ([Value.agg NCC.toArray].flatMap fun v => v.cells.toList).toArray = NCC.toArray := by simp [Value.cells]
     rw [e] at h
     exact h
    have Hbl1 := Lib.hid hbl1
    have Hncl := Lib.hid hncl
    have Hnz : Hid ((Tryz.prog.info? 117).map (·.size) = some NCC.length) := Lib.hid (by rw [Tryz.sizeChg, hncl])
    have Hu2 := Lib.hid hu2
    have Hd2 := Lib.hid hd2
    have HR8 := Lib.hid hr8
    have HT8 := Lib.hid hT8
    have HO := Lib.hid hHO
    have HOp := Lib.hid hHOp
    have HVV := Lib.hid hVV
    have HNH := Lib.hid hNH
    have HHX := Lib.hid hHX
    have HNCC := Lib.hid hNCC
    have HM8 := Lib.hid hm8
    have HL8 := Lib.hid hl8
    have h08 := Fr.cell hF8 t0 (fun _ h => HN.out.1 h)
    have h368 := Fr.cell hF8 k36 (fun _ h => by have h2 : p = bl := h; have := HN.out; omega)
    have HF8 := Lib.hid hF8
    have HrW8 := Lib.hid hrW8
    clear hbl1 hncl hu2 hd2 hr8 hrW8 hT8 hHO hHOp hVV hNH hHX hNCC hm8 hl8 hF8 hrow8 hFL t0 t1 k35 k36
    refine wp_region_held_drew (S := fun V => Hid (Fr (fun k _ => k = bc ∨ some k = VV.ownBlock) W8 V)) (by kernel_rfl) (Lib.hid Fr.refl.drew) (fun hHeld => ?_)
    simp only [qL, qL1, qL0, qR, qR1, qR0]
    iterate 12
     refine qt (v := ?_) rfl (Or.inl ⟨by rfl, ?_⟩) hHeld ?_
     rotate_left
     ·intro W hSw
      have h0 := Fr.cell hSw.out h08 (fun _ h => h.elim (fun h => HN.out.2.1 h) (fun h => (HO.out _ h).2.1 rfl)); have h36 := Fr.cell hSw.out h368 (fun _ h => h.elim (fun h => by have := HN.out; omega) (fun h => Nat.lt_irrefl _ (HOp.out _ h)))
      try simp only [qG, qG0, qG1]
      go_simp
      try rw [if_neg (by omega)]
      try with_reducible rfl
     try simp only [Act.put, qS, qS0, qS1, qG, qG0, qG1, qM0, qM1]
    refine qi (i := 13) rfl (yieldsIf_load_mid (by rfl) 117 _ rfl r 0 rfl NCC d2 (fun V h => range_fr HR8.out h.out HrW8.out.2.1 (fun _ h => h.elim (fun h => by have h2 : r = bc := h; have := HN.out; have := HrW8.out; omega) (fun h => by have h2 := HOp.out _ (show some r = VV.ownBlock from h); have := HN.out; have := HrW8.out; omega))) Hu2.out Hd2.out Hnz.out) hHeld ?_
    try simp only [Act.put, qS, qS0, qS1, qG, qG0, qG1, qM0, qM1]
    refine wpAnyH_ready (rs := [12, 14]) (by kernel_rfl) (by simp) (AllReadyH.cons rfl (fun K hK => ?_) (AllReadyH.cons rfl (fun K hK => ?_) AllReadyH.nil))
    ·try simp only [qG, qG0, qG1]
     go_simp
     refine hK.out _ _ (Lib.hid hHeld.out) (fun hHeld => ?_)
     clear hK K
     try simp only [Act.put, qS, qS0, qS1, qG, qG0, qG1, qM0, qM1]
     refine qr (i := 14) (by kernel_rfl) rfl (fun K hK => ?_)
     try simp only [qG, qG0, qG1]
     rw [if_pos (by rfl)]; refine wp_buildSliceTo 110 117 1 _ rfl Tryz.underlying110 NCC.toArray (Eq.trans (congrArg (Tryz.prog.builtSlice 117 1) (by kernel_rfl)) Hbl1.out) ?_
     refine hK.out _ _ (Lib.hid (hHeld.out.alloc _)) (fun hHeld => ?_)
     clear hK K
     try simp only [Act.put, qS, qS0, qS1, qG, qG0, qG1, qM0, qM1]
     refine qr (i := 15) (by kernel_rfl) rfl (fun K hK => ?_)
     try simp only [qG, qG0, qG1]
     rw [if_pos (by rfl)]; refine wp_append_at _ _ 110 (by rfl) base 117 i0 (.agg Chg.zero.cells.toArray) 34 48 Tryz.underlying110 hi0 hz0 hz1 hz2 rfl (by decide) VV NH HX (by rfl) HrowL.out ⟨W8.heap.size, 0, none⟩ 1 1 NCC (by rfl) (by rw [Hncl.out]) HlitL.out HNC1.out (by have := Hfew.out; have := Hn1.out; unfold maxLen; omega) (by have := Hfew.out; have := Hn1.out; omega) HbL.out ?_; intro v' w10 hown hg10 hloc
     refine hK.out _ _ (Lib.hid (hHeld.out.trans' ((Fr.ofGrown hg10).mono (fun _ _ h => Or.inr h)))) (fun hHeld => ?_)
     clear hK K
     try simp only [Act.put, qS, qS0, qS1, qG, qG0, qG1, qM0, qM1]
     have hch10 : MapB strK w10 bc n g := (HchL.out).fr (Fr.ofGrown hg10) (fun o h => (HO.out _ h).2.2.1 rfl)
     obtain ⟨w11, hup2, hm11, hg11⟩ := hch10.store (K := strK) Tryz.underlying112 (by have := Hn1.out; unfold maxLen; omega) Hidl.out v'
     replace hup2 : (Instr.mapUpdate 112 (.map (some bc)) (.string ⟨idn.toArray⟩) v').run Tryz.prog w10 = .ok () w11 := hup2
     refine qr (i := 16) (by kernel_rfl) rfl (fun K hK => ?_)
     try simp only [qG, qG0, qG1]
     go_simp
     skip
     refine hK.out _ _ (Lib.hid (hHeld.out.trans' ((Fr.ofGrown hg11).mono (fun _ _ h => Or.inl (Option.some.inj h))))) (fun hHeld => ?_)
     clear hK K
     try simp only [Act.put, qS, qS0, qS1, qG, qG0, qG1, qM0, qM1]
     refine wpAnyH_done (by kernel_rfl) ?_ _
     have HE := Lib.hid hHeld.out
     have HG10 := Lib.hid hg10
     have HG11 := Lib.hid hg11
     have HM11 := Lib.hid hm11
     have HOW := Lib.hid hown
     have HLOC := Lib.hid hloc
     clear hHeld hup2 hch10 hg10 hg11 hm11 hown hloc
     go_wp2_with fail
     go_ret
     have hpush := HT8.out.push (x := idn) Hidl.out (c := NC) HNCok.out HFL.out (by rw [HNH.out, HHX.out, HNCC.out]; exact HOW.out) (by rw [HVV.out]; exact HG10.out) (by rw [HVV.out]; exact HLOC.out) HM11.out HG11.out
     refine ⟨rfl, ⟨upd g idn (some v'), LV8, ?_⟩, ?_⟩
     ·rw [Hcame8.out]
      refine hpush.toL (lv := LV8) (life := life8) ?_ HL8.out
      have hne : bl ≠ bc := fun e => HN.out.2.2.1 e.symm
      have h1 := (HM8.out.fr HFL.out (fun _ h => h)).fr (Fr.ofGrown HG10.out) (fun o h => (HO.out _ h).2.2.2.1 rfl)
      exact (h1.fr (Fr.ofGrown HG11.out) (fun o h => hne (Option.some.inj h))).mono (by omega)
     ·have hE2 : Fr (TM base bc bl) W8 w11 := HE.out.mono2 (fun k o hk hm => by
       rcases hm with hm | hm
       ·exact .inl hm
       ·obtain ⟨h1, -, -, -, o2, h2, h3⟩ := HO.out k hm
        rw [h2] at hk
        obtain rfl := Option.some.inj hk
        exact .inr (.inr ⟨h1, h3⟩))
      exact ((HFw4.out.mono (fun _ _ h => h.elim)).trans' (HF8.out.mono (fun k o h => .inr (.inl h)))).trans' hE2
    ·try simp only [qG, qG0, qG1]
     rw [if_pos (by rfl)]
     refine wp_buildSliceTo 110 117 1 _ rfl Tryz.underlying110 NCC.toArray (Eq.trans (congrArg (Tryz.prog.builtSlice 117 1) (by kernel_rfl)) Hbl1.out) ?_
     refine hK.out _ _ (Lib.hid (hHeld.out.alloc _)) (fun hHeld => ?_)
     clear hK K
     try simp only [Act.put, qS, qS0, qS1, qG, qG0, qG1, qM0, qM1]
     refine qr (i := 12) (by kernel_rfl) rfl (fun K hK => ?_)
     try simp only [qG, qG0, qG1]
     go_simp
     skip
     refine hK.out _ _ (Lib.hid hHeld.out) (fun hHeld => ?_)
     clear hK K
     try simp only [Act.put, qS, qS0, qS1, qG, qG0, qG1, qM0, qM1]
     refine qr (i := 15) (by kernel_rfl) rfl (fun K hK => ?_)
     try simp only [qG, qG0, qG1]
     rw [if_pos (by rfl)]; refine wp_append_at _ _ 110 (by rfl) base 117 i0 (.agg Chg.zero.cells.toArray) 34 48 Tryz.underlying110 hi0 hz0 hz1 hz2 rfl (by decide) VV NH HX (by rfl) HrowL.out ⟨W8.heap.size, 0, none⟩ 1 1 NCC (by rfl) (by rw [Hncl.out]) HlitL.out HNC1.out (by have := Hfew.out; have := Hn1.out; unfold maxLen; omega) (by have := Hfew.out; have := Hn1.out; omega) HbL.out ?_; intro v' w10 hown hg10 hloc
     refine hK.out _ _ (Lib.hid (hHeld.out.trans' ((Fr.ofGrown hg10).mono (fun _ _ h => Or.inr h)))) (fun hHeld => ?_)
     clear hK K
     try simp only [Act.put, qS, qS0, qS1, qG, qG0, qG1, qM0, qM1]
     have hch10 : MapB strK w10 bc n g := (HchL.out).fr (Fr.ofGrown hg10) (fun o h => (HO.out _ h).2.2.1 rfl)
     obtain ⟨w11, hup2, hm11, hg11⟩ := hch10.store (K := strK) Tryz.underlying112 (by have := Hn1.out; unfold maxLen; omega) Hidl.out v'
     replace hup2 : (Instr.mapUpdate 112 (.map (some bc)) (.string ⟨idn.toArray⟩) v').run Tryz.prog w10 = .ok () w11 := hup2
     refine qr (i := 16) (by kernel_rfl) rfl (fun K hK => ?_)
     try simp only [qG, qG0, qG1]
     go_simp
     skip
     refine hK.out _ _ (Lib.hid (hHeld.out.trans' ((Fr.ofGrown hg11).mono (fun _ _ h => Or.inl (Option.some.inj h))))) (fun hHeld => ?_)
     clear hK K
     try simp only [Act.put, qS, qS0, qS1, qG, qG0, qG1, qM0, qM1]
     refine wpAnyH_done (by kernel_rfl) ?_ _
     have HE := Lib.hid hHeld.out
     have HG10 := Lib.hid hg10
     have HG11 := Lib.hid hg11
     have HM11 := Lib.hid hm11
     have HOW := Lib.hid hown
     have HLOC := Lib.hid hloc
     clear hHeld hup2 hch10 hg10 hg11 hm11 hown hloc
     go_wp2_with fail
     go_ret
     have hpush := HT8.out.push (x := idn) Hidl.out (c := NC) HNCok.out HFL.out (by rw [HNH.out, HHX.out, HNCC.out]; exact HOW.out) (by rw [HVV.out]; exact HG10.out) (by rw [HVV.out]; exact HLOC.out) HM11.out HG11.out
     refine ⟨rfl, ⟨upd g idn (some v'), LV8, ?_⟩, ?_⟩
     ·rw [Hcame8.out]
      refine hpush.toL (lv := LV8) (life := life8) ?_ HL8.out
      have hne : bl ≠ bc := fun e => HN.out.2.2.1 e.symm
      have h1 := (HM8.out.fr HFL.out (fun _ h => h)).fr (Fr.ofGrown HG10.out) (fun o h => (HO.out _ h).2.2.2.1 rfl)
      exact (h1.fr (Fr.ofGrown HG11.out) (fun o h => hne (Option.some.inj h))).mono (by omega)
     ·have hE2 : Fr (TM base bc bl) W8 w11 := HE.out.mono2 (fun k o hk hm => by
       rcases hm with hm | hm
       ·exact .inl hm
       ·obtain ⟨h1, -, -, -, o2, h2, h3⟩ := HO.out k hm
        rw [h2] at hk
        obtain rfl := Option.some.inj hk
        exact .inr (.inr ⟨h1, h3⟩))
      exact ((HFw4.out.mono (fun _ _ h => h.elim)).trans' (HF8.out.mono (fun k o h => .inr (.inl h)))).trans' hE2
 ·have htk : t.take psub e pos = t := by unfold Tb.take; rw [if_neg hp0]
  rw [htk]
  obtain ⟨R, hRv⟩ : ∃ R, pBind psub t e = R := ⟨_, rfl⟩
  rw [hRv] at Hchk hp0 ⊢
  have hne := fun W => And.intro (errV_neq R W) (errV_guard R 13 W)
  have hb0 : decide (R ≠ 0) = true := by simpa using hp0
  rw [hb0] at hne
  obtain ⟨E, hE⟩ : ∃ E, errV R = E := ⟨_, rfl⟩
  rw [hE] at Hchk hne ⊢
  have Hne := Lib.hid hne
  have H := Lib.hid h
  obtain ⟨C, hC⟩ : ∃ C, e.cells pv sv = C := ⟨_, rfl⟩
  rw [hC] at hR hF c35 c36 hK Hz Hchk ⊢
  clear hRv hp0 hb0 hE hne htk hC hlok hidl heok hu2 hd2 h Hlast c35 c36 hK
  go_enter Tryz.func28, Tryz.ntmps28
  go_upto_region 1 with (fail)
  change Code.wp _ _ _ _ (w.alloc (.cells C.toArray 39))
  obtain ⟨W, hW⟩ : ∃ W, w.alloc (.cells C.toArray 39) = W := ⟨_, rfl⟩
  rw [hW] at hR hF ⊢
  obtain ⟨p, hpp⟩ : ∃ p, w.heap.size = p := ⟨_, rfl⟩
  rw [hpp] at hR ⊢
  clear hW hpp
  have HR := Lib.hid hR
  have HF := Lib.hid hF
  clear hR hF
  go_wp2_with ((with_reducible refine wpList_load_mid rfl 39 _ rfl p 0 rfl C d HR.out Hu.out Hd.out Hz.out ?_))
  refine (Hchk.out _ HF.out).mono ?_
  rintro r w2 ⟨rfl, hF2⟩
  have HG := Lib.hid (HF.out.trans' hF2)
  obtain ⟨hne1, hne2⟩ := Hne.out w2
  clear hF2
  go_wp2_with fail
  go_ret
  exact ⟨rfl, ⟨g, lv, (H.out.keep HG.out).mono (Nat.le_succ _)⟩, HG.out.mono (fun _ _ h => h.elim)⟩
end Go.Proofs.YtcddlemkimbkcaaGreatDoor
