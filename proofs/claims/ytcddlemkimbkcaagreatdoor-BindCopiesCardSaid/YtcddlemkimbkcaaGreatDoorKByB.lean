/-
 The walk of bind.must and of bind.by.
-/
import Derived.Test.YtcddlemkimbkcaaGreatDoorKBy
import Derived.Test.YtcddlemkimbkcaaGreatDoorKSpecBind
namespace Go.Proofs.YtcddlemkimbkcaaGreatDoor
set_option linter.unusedVariables false
set_option linter.unusedSimpArgs false
set_option linter.unusedSectionVars false
open Go.RowKit Go.Shelf
variable [OldK]
theorem sgSelf_ok (e : En) : (sgSelf e).ok := ⟨rfl, rfl⟩
theorem sgKey_ok {e : En} (h : e.ok) : (sgKey e).ok := ⟨h.2.1, rfl⟩
set_option maxRecDepth 100000 in
theorem build_self (idn : Bs) (W : World) : (Instr.build 54 #[(0, .string ⟨idn.toArray⟩)]).run Tryz.prog W = .ok (.agg (Sg.cells ⟨idn, zero32, zero64⟩)) W := by kernel_rfl
set_option maxRecDepth 100000 in
theorem build_key (k : Bs) (h : k.length = 32) (W : World) : (Instr.build 54 #[(1, .agg (Lib.byteCells k).toArray)]).run Tryz.prog W = .ok (.agg (Sg.cells ⟨[], k, zero64⟩)) W := by
 obtain ⟨x0, x1, x2, x3, x4, x5, x6, x7, x8, x9, x10, x11, x12, x13, x14, x15, x16, x17, x18, x19, x20, x21, x22, x23, x24, x25, x26, x27, x28, x29, x30, x31, rfl⟩ := list32 k h
 kernel_rfl
/-- a literal of one signature; of two -/
theorem built_one (a : Sg) (ha : a.ok) : Tryz.prog.builtSlice 54 1 [(0, .agg a.cells)] = some a.cells := by
 obtain ⟨i0, hi, hz0, hz1, hz2⟩ := info_parts Tryz.infoSg
 have h := built_list (P := Tryz.prog) hi hz0 hz1 (by rfl) (by decide) (by decide : 0 < 1) (by decide) [.agg a.cells] (fun v hv => by
  obtain rfl : v = .agg a.cells := by simpa using hv
  exact Sg.size ha) rfl
 have e : ([Value.agg a.cells].flatMap fun v => v.cells.toList).toArray = a.cells := by simp [Value.cells]
 rw [e] at h
 exact h
theorem built_two (a b : Sg) (ha : a.ok) (hb : b.ok) : Tryz.prog.builtSlice 54 2 [(0, .agg a.cells), (1, .agg b.cells)] = some (a.cells ++ b.cells) := by
 obtain ⟨i0, hi, hz0, hz1, hz2⟩ := info_parts Tryz.infoSg
 have h := built_list (P := Tryz.prog) hi hz0 hz1 (by rfl) (by decide) (by decide : 0 < 2) (by decide) [.agg a.cells, .agg b.cells] (fun v hv => by
  have : v = .agg a.cells ∨ v = .agg b.cells := by simpa using hv
  rcases this with rfl | rfl
  ·exact Sg.size ha
  ·exact Sg.size hb) rfl
 have e : ([Value.agg a.cells, Value.agg b.cells].flatMap fun v => v.cells.toList).toArray = a.cells ++ b.cells := by
  apply Array.ext'
  simp [Value.cells]
 rw [e] at h
 exact h
set_option maxRecDepth 100000 in
set_option maxHeartbeats 4000000 in
theorem bindMust_c (e : En) (pv sv : Value) (w : World) (hok : e.ok) (hp : pv.oneCell' = true) (hs : sv.oneCell' = true) :
 Calls Tryz.prog 73 #[.agg (e.cells pv sv).toArray] w fun r w' => (∃ gb, r = .returned (.slice (some ⟨gb, 0, none⟩) (pMust e).length (pMust e).length) ∧ SgRow w'.heap.size gb (pMust e) w') ∧ Fr NoB w w' := by
 have hR : (w.alloc (.cells (e.cells pv sv).toArray 39)).rangeAt w.heap.size 0 (e.cells pv sv) := by simpa using range_block (heap_alloc_new w (.cells (e.cells pv sv).toArray 39))
 have hF : Fr NoB w (w.alloc (.cells (e.cells pv sv).toArray 39)) := Fr.refl.alloc _
 obtain ⟨-, -, -, -, c35, c36, hK, -⟩ := En.parts hok hR
 have hb1 := fun V => build_self e.ident V
 have hb2 := fun V => build_key e.key hok.2.1 V
 have hoa := sgSelf_ok e
 have hob := sgKey_ok hok
 obtain ⟨A, hA⟩ : ∃ A, sgSelf e = A := ⟨_, rfl⟩
 obtain ⟨B, hB⟩ : ∃ B, sgKey e = B := ⟨_, rfl⟩
 have hm : pMust e = if e.op = 1 then [B] else if e.op = 2 then [A, B] else [A] := by rw [← hA, ← hB]; rfl
 have hA2 : Sg.cells ⟨e.ident, zero32, zero64⟩ = A.cells := by rw [← hA]; rfl
 have hB2 : Sg.cells ⟨[], e.key, zero64⟩ = B.cells := by rw [← hB]; rfl
 rw [hA2] at hb1
 rw [hB2] at hb2
 rw [hA] at hoa
 rw [hB] at hob
 obtain ⟨M, hM⟩ : ∃ M, pMust e = M := ⟨_, rfl⟩
 rw [hM] at hm ⊢
 have Hm0 := Lib.hid hm
 have hkz : (Tryz.prog.info? 24).map (·.size) = some (Lib.byteCells e.key).length := by rw [Tryz.sizeKey, byteCells_len, hok.2.1]
 obtain ⟨KC, hKC⟩ : ∃ C, Lib.byteCells e.key = C := ⟨_, rfl⟩
 rw [hKC] at hK hb2 hkz
 obtain ⟨C, hC⟩ : ∃ C, e.cells pv sv = C := ⟨_, rfl⟩
 obtain ⟨op, hop⟩ : ∃ o, e.op = o := ⟨_, rfl⟩
 obtain ⟨idn, hidn⟩ : ∃ o, e.ident = o := ⟨_, rfl⟩
 rw [hC] at hR hF c35 c36 hK ⊢
 rw [hop] at c35 Hm0
 rw [hidn] at c36 hb1
 have Hb1 := Lib.hid hb1
 have Hb2 := Lib.hid hb2
 have Hkz := Lib.hid hkz
 have HF := Lib.hid hF
 have HK := Lib.hid hK
 have hpw : w.heap.size < (w.alloc (.cells C.toArray 39)).heap.size := by rw [World.size_alloc]; omega
 obtain ⟨d, hu, hd⟩ := Tryz.rowSg2
 have Hu := Lib.hid hu
 have Hd := Lib.hid hd
 have HsA : Hid ((Tryz.prog.info? 54).map (·.size) = some A.cells.size) := Lib.hid (by rw [Tryz.sizeSg, Sg.size hoa])
 have HsB : Hid ((Tryz.prog.info? 54).map (·.size) = some B.cells.size) := Lib.hid (by rw [Tryz.sizeSg, Sg.size hob])
 clear hR hF hK hm hM hA hB hA2 hB2 hb1 hb2 hkz hKC hC hop hidn hu hd hok
 go_enter Tryz.func73, Tryz.ntmps73
 go_upto_region 1 with (fail)
 change Code.wp _ _ _ _ (w.alloc (.cells C.toArray 39))
 obtain ⟨W, hW⟩ : ∃ W, w.alloc (.cells C.toArray 39) = W := ⟨_, rfl⟩
 rw [hW] at HF HK c35 c36 hpw ⊢
 obtain ⟨p, hpe⟩ : ∃ p, w.heap.size = p := ⟨_, rfl⟩
 rw [hpe] at HK c35 c36 hpw ⊢
 have Hp := Lib.hid hpe
 clear hW hpe
 refine wp_region_held_drew (S := fun V => Hid (Fr (fun k _ => W.heap.size ≤ k) W V)) (by kernel_rfl) (Lib.hid Fr.refl.drew) (fun hHeld => ?_)
 simp only [qL, qL1, qL0, qR, qR1, qR0]
 iterate 2
  refine qt (v := ?_) rfl (Or.inl ⟨by rfl, ?_⟩) hHeld ?_
  rotate_left
  ·intro W hSw
   have h36 := Fr.cell hSw.out c36 (fun _ h => Nat.not_le_of_lt hpw h)
   try simp only [qG, qG0, qG1]
   go_simp
   try rw [if_neg (by omega)]
   try with_reducible rfl
  try simp only [Act.put, qS, qS0, qS1, qG, qG0, qG1, qM0, qM1]
 refine wpAnyH_take (i := 2) (v := .agg A.cells) rfl (by kernel_rfl) (by kernel_rfl) (by kernel_rfl) (fun _ _ _ h => h) (Or.inl ⟨by rfl, ?_⟩) hHeld ?_
 ·intro V hSw
  refine Eq.trans (b := Result.andThen ((Instr.build 54 #[(0, .string ⟨idn.toArray⟩)]).run Tryz.prog V) (fun a w' => .ok (.value a) w')) ?_ ?_
  ·kernel_rfl
  ·rw [Hb1.out V]; rfl
 try simp only [Act.put, qS, qS0, qS1, qG, qG0, qG1, qM0, qM1]
 refine qt (v := ?_) rfl (Or.inl ⟨by rfl, ?_⟩) hHeld ?_
 rotate_left
 ·intro W hSw
  have h36 := Fr.cell hSw.out c36 (fun _ h => Nat.not_le_of_lt hpw h)
  try simp only [qG, qG0, qG1]
  go_simp
  try rw [if_neg (by omega)]
  try with_reducible rfl
 try simp only [Act.put, qS, qS0, qS1, qG, qG0, qG1, qM0, qM1]
 refine qi (i := 4) rfl (yieldsIf_load_mid (by rfl) 24 _ rfl p 37 rfl KC (.array 32 5) (fun V h => range_fr HK.out h.out hpw (fun _ h => Nat.not_le_of_lt hpw h)) Tryz.underKey rfl Hkz.out) hHeld ?_
 try simp only [Act.put, qS, qS0, qS1, qG, qG0, qG1, qM0, qM1]
 refine wpAnyH_take (i := 5) (v := .agg B.cells) rfl (by kernel_rfl) (by kernel_rfl) (by kernel_rfl) (fun _ _ _ h => h) (Or.inl ⟨by rfl, ?_⟩) hHeld ?_
 ·intro V hSw
  simp only [execOp, Sem.run_bind, List.map_toArray, List.map_cons, List.map_nil, List.getElem_toArray, List.getElem_cons_zero, List.getElem_cons_succ]
  exact (congrArg (fun r => Result.andThen r fun a w' => Sem.run Tryz.prog (pure (Next.value a)) w') (Hb2.out V)).trans rfl
 try simp only [Act.put, qS, qS0, qS1, qG, qG0, qG1, qM0, qM1]
 have hn1 := heap_alloc_new W (.cells Tryz.zeroCells54 54)
 have hn2 := heap_alloc_new (W.alloc (.cells Tryz.zeroCells54 54)) (.cells Tryz.zeroCells54 54)
 have hz97 : Tryz.zeroCells54.size = 97 := by kernel_rfl
 have hFw : Fr NoB (W.alloc (.cells Tryz.zeroCells54 54)) (((W.alloc (.cells Tryz.zeroCells54 54)).alloc (.cells Tryz.zeroCells54 54)).drew) := (Fr.refl.alloc _).drew
 have hTa := there_fr (there_block hn1 (n := 97) (by rw [hz97]; exact Nat.le_refl _)) hFw (by rw [World.size_alloc]; omega) (fun _ h => h)
 have hTb : (((W.alloc (.cells Tryz.zeroCells54 54)).alloc (.cells Tryz.zeroCells54 54)).drew).there (W.heap.size + 1) 0 97 := by
  have := there_block hn2 (n := 97) (by rw [hz97]; exact Nat.le_refl _)
  rw [World.size_alloc] at this
  exact there_fr this (Fr.refl (M := NoB)).drew (by rw [World.size_alloc, World.size_alloc]; omega) (fun _ h => h)
 have HTa := Lib.hid hTa
 have HTb := Lib.hid hTb
 clear hn1 hn2 hz97 hFw hTa hTb
 refine wpAnyH_ready (rs := [6, 7]) (by kernel_rfl) (by simp) (AllReadyH.cons rfl (fun K hK => ?_) (AllReadyH.cons rfl (fun K hK => ?_) AllReadyH.nil))
 ·try simp only [qG, qG0, qG1]
  go_simp
  refine hK.out _ _ (Lib.hid (hHeld.out.alloc _)) (fun hHeld => ?_)
  clear hK K
  try simp only [Act.put, qS, qS0, qS1, qG, qG0, qG1, qM0, qM1]
  refine qr (i := 7) (by kernel_rfl) rfl (fun K hK => ?_)
  try simp only [qG, qG0, qG1]
  go_simp
  skip
  refine hK.out _ _ (Lib.hid (hHeld.out.alloc _)) (fun hHeld => ?_)
  clear hK K
  try simp only [Act.put, qS, qS0, qS1, qG, qG0, qG1, qM0, qM1]
  obtain ⟨W2, hW2⟩ : ∃ V, ((W.alloc (.cells Tryz.zeroCells54 54)).alloc (.cells Tryz.zeroCells54 54)).drew = V := ⟨_, rfl⟩
  have hF2 : Fr NoB W W2 := by rw [← hW2]; exact ((Fr.refl.alloc _).alloc _).drew
  have hsz2 : W2.heap.size = W.heap.size + 2 := by rw [← hW2]; simp
  rw [hW2] at hHeld HTa HTb ⊢
  have hT3 : W2.there W.heap.size 0 97 := (HTa).out
  have hT4 : W2.there (W.heap.size + 1) 0 97 := (HTb).out
  have hne : W.heap.size ≠ (W.heap.size + 1) := by omega
  have h3W : W.heap.size ≤ W.heap.size := by omega
  have h4W : W.heap.size ≤ (W.heap.size + 1) := by omega
  have h3l : W.heap.size < W2.heap.size := by omega
  have h4l : (W.heap.size + 1) < W2.heap.size := by omega
  have lA : A.cells.size = 97 := Sg.size hoa
  have lB : B.cells.size = 97 := Sg.size hob
  have HA1 := Lib.hid (Sg.one A)
  have HB1 := Lib.hid (Sg.one B)
  have HT3 := Lib.hid (show W2.there W.heap.size 0 A.cells.size by rw [lA]; exact hT3)
  have HT4 := Lib.hid (show (W2.setCells W.heap.size 0 A.cells.toList).there (W.heap.size + 1) 0 B.cells.size by rw [lB]; exact World.there_setCells hT4 _ _ _)
  have hRA : ((W2.setCells W.heap.size 0 A.cells.toList).setCells (W.heap.size + 1) 0 B.cells.toList).rangeAt W.heap.size 0 A.cells.toList := World.rangeAt_setCells_apart (World.rangeAt_setCells_same W2 W.heap.size 0 _ (by rw [Array.length_toList, lA]; exact hT3)) _ _ _ (.inl hne)
  have hRB : ((W2.setCells W.heap.size 0 A.cells.toList).setCells (W.heap.size + 1) 0 B.cells.toList).rangeAt (W.heap.size + 1) 0 B.cells.toList := World.rangeAt_setCells_same _ (W.heap.size + 1) 0 _ (by rw [Array.length_toList, lB]; exact World.there_setCells hT4 _ _ _)
  have hF4 : Fr (fun k _ => W.heap.size ≤ k) W ((W2.setCells W.heap.size 0 A.cells.toList).setCells (W.heap.size + 1) 0 B.cells.toList) := ((hF2.mono (fun _ _ h => h.elim)).trans' ((setCells_fr W.heap.size _ _ _).mono (fun _ _ h => by have h5 := h; omega))).trans' ((setCells_fr (W.heap.size + 1) _ _ _).mono (fun _ _ h => by have h5 := h; omega))
  clear hW2 HTa HTb hT3 hT4
  refine qr (i := 8) (by kernel_rfl) rfl (fun K hK => ?_)
  try simp only [qG, qG0, qG1]
  rw [if_pos (by rfl)]; refine wp_store_mid 54 (.tmp 3) (.tmp 7) (by rfl) W.heap.size 0 A.cells (by rfl) (by rfl) HT3.out HsA.out HA1.out ?_
  refine hK.out _ _ (Lib.hid (hHeld.out.trans' ((setCells_fr W.heap.size _ _ _).mono (fun _ _ h => by have h5 := h; omega)))) (fun hHeld => ?_)
  clear hK K
  try simp only [Act.put, qS, qS0, qS1, qG, qG0, qG1, qM0, qM1]
  refine qr (i := 9) (by kernel_rfl) rfl (fun K hK => ?_)
  try simp only [qG, qG0, qG1]
  rw [if_pos (by rfl)]; refine wp_store_mid 54 (.tmp 4) (.tmp 10) (by rfl) (W.heap.size + 1) 0 B.cells (by rfl) (by rfl) HT4.out HsB.out HB1.out ?_
  refine hK.out _ _ (Lib.hid (hHeld.out.trans' ((setCells_fr (W.heap.size + 1) _ _ _).mono (fun _ _ h => by have h5 := h; omega)))) (fun hHeld => ?_)
  clear hK K
  try simp only [Act.put, qS, qS0, qS1, qG, qG0, qG1, qM0, qM1]
  refine wpAnyH_done (by kernel_rfl) ?_ _
  clear hHeld
  obtain ⟨E, hE⟩ : ∃ V, (W2.setCells W.heap.size 0 A.cells.toList).setCells (W.heap.size + 1) 0 B.cells.toList = V := ⟨_, rfl⟩
  rw [hE] at hRA hRB hF4 ⊢
  have k35 := Fr.cell hF4 c35 (fun _ h => Nat.not_le_of_lt hpw h)
  have HRA := Lib.hid hRA
  have HRB := Lib.hid hRB
  have HFE := Lib.hid (HF.out.trans hF4 (fun k _ hm => .inr (by have h6 : W.heap.size ≤ k := hm; have := Hp.out; omega)))
  have HsA2 : Hid ((Tryz.prog.info? 54).map (·.size) = some A.cells.toList.length) := Lib.hid (by rw [Tryz.sizeSg, Array.length_toList, lA])
  have HsB2 : Hid ((Tryz.prog.info? 54).map (·.size) = some B.cells.toList.length) := Lib.hid (by rw [Tryz.sizeSg, Array.length_toList, lB])
  have Hbo := Lib.hid (built_one B hob)
  have Hao := Lib.hid (built_one A hoa)
  have Hab := Lib.hid (built_two A B hoa hob)
  have hone : ∀ X : Sg, SgRow (E.alloc (.cells X.cells 54)).heap.size E.heap.size [X] (E.alloc (.cells X.cells 54)) := fun X => ⟨by rw [World.size_alloc]; omega, fun i x hi => by
   cases i with
   | zero =>
     obtain rfl : X = x := by simpa using hi
     exact range_block (heap_alloc_new E (.cells X.cells 54))
   | succ i => simp at hi⟩
  have htwo : SgRow (E.alloc (.cells (A.cells ++ B.cells) 54)).heap.size E.heap.size [A, B] (E.alloc (.cells (A.cells ++ B.cells) 54)) := by
   have hx := range_block (heap_alloc_new E (.cells (A.cells ++ B.cells) 54))
   rw [Array.toList_append, range_append, Array.length_toList, lA] at hx
   refine ⟨by rw [World.size_alloc]; omega, fun i x hi => ?_⟩
   match i, hi with
   | 0, hi => obtain rfl : A = x := by simpa using hi
              exact hx.1
   | 1, hi => obtain rfl : B = x := by simpa using hi
              exact hx.2
  have Hone := Lib.hid hone
  have Htwo := Lib.hid htwo
  clear hRA hRB hF4 hE hone htwo lA lB
  by_cases h1 : op = 1
  ·subst h1
   have Hm : Hid (M = [B]) := Lib.hid (by have := Hm0.out; simpa using this)
   clear Hm0
   go_wp2_with (first
    | (with_reducible refine wpList_load_mid rfl 54 _ rfl ((W.heap.size + 1)) 0 rfl B.cells.toList d HRB.out Hu.out Hd.out HsB2.out ?_)
    | ((with_reducible refine Great.wpList_buildSliceTo ?_ 37 54 1 _ rfl E.heap.size rfl _ rfl Tryz.underlying37 B.cells ?_ ?_); rfl; (refine Eq.trans (congrArg (Tryz.prog.builtSlice 54 1) ?_) Hbo.out; kernel_rfl)))
   go_ret
   rw [Hm.out]
   exact ⟨⟨_, rfl, Hone.out B⟩, HFE.out.alloc _⟩
  ·have e1 : (op == 1) = false := by simpa using h1
   by_cases h2 : op = 2
   ·subst h2
    have Hm : Hid (M = [A, B]) := Lib.hid (by have := Hm0.out; simpa using this)
    clear Hm0 h1 e1
    go_wp2_with (first
     | (with_reducible refine wpList_load_mid rfl 54 _ rfl (W.heap.size) 0 rfl A.cells.toList d HRA.out Hu.out Hd.out HsA2.out ?_)
     | (with_reducible refine wpList_load_mid rfl 54 _ rfl ((W.heap.size + 1)) 0 rfl B.cells.toList d HRB.out Hu.out Hd.out HsB2.out ?_)
     | ((with_reducible refine Great.wpList_buildSliceTo ?_ 37 54 2 _ rfl E.heap.size rfl _ rfl Tryz.underlying37 (A.cells ++ B.cells) ?_ ?_); rfl; (refine Eq.trans (congrArg (Tryz.prog.builtSlice 54 2) ?_) Hab.out; kernel_rfl)))
    go_ret
    rw [Hm.out]
    exact ⟨⟨_, rfl, Htwo.out⟩, HFE.out.alloc _⟩
   ·have e2 : (op == 2) = false := by simpa using h2
    have Hm : Hid (M = [A]) := Lib.hid (by have := Hm0.out; simpa [h1, h2] using this)
    clear Hm0 h1 h2
    go_wp2_with (first
     | (with_reducible refine wpList_load_mid rfl 54 _ rfl (W.heap.size) 0 rfl A.cells.toList d HRA.out Hu.out Hd.out HsA2.out ?_)
     | ((with_reducible refine Great.wpList_buildSliceTo ?_ 37 54 1 _ rfl E.heap.size rfl _ rfl Tryz.underlying37 A.cells ?_ ?_); rfl; (refine Eq.trans (congrArg (Tryz.prog.builtSlice 54 1) ?_) Hao.out; kernel_rfl)))
    go_ret
    rw [Hm.out]
    exact ⟨⟨_, rfl, Hone.out A⟩, HFE.out.alloc _⟩
 ·try simp only [qG, qG0, qG1]
  go_simp
  refine hK.out _ _ (Lib.hid (hHeld.out.alloc _)) (fun hHeld => ?_)
  clear hK K
  try simp only [Act.put, qS, qS0, qS1, qG, qG0, qG1, qM0, qM1]
  refine qr (i := 6) (by kernel_rfl) rfl (fun K hK => ?_)
  try simp only [qG, qG0, qG1]
  go_simp
  skip
  refine hK.out _ _ (Lib.hid (hHeld.out.alloc _)) (fun hHeld => ?_)
  clear hK K
  try simp only [Act.put, qS, qS0, qS1, qG, qG0, qG1, qM0, qM1]
  obtain ⟨W2, hW2⟩ : ∃ V, ((W.alloc (.cells Tryz.zeroCells54 54)).alloc (.cells Tryz.zeroCells54 54)).drew = V := ⟨_, rfl⟩
  have hF2 : Fr NoB W W2 := by rw [← hW2]; exact ((Fr.refl.alloc _).alloc _).drew
  have hsz2 : W2.heap.size = W.heap.size + 2 := by rw [← hW2]; simp
  rw [hW2] at hHeld HTa HTb ⊢
  have hT3 : W2.there (W.heap.size + 1) 0 97 := (HTb).out
  have hT4 : W2.there W.heap.size 0 97 := (HTa).out
  have hne : (W.heap.size + 1) ≠ W.heap.size := by omega
  have h3W : W.heap.size ≤ (W.heap.size + 1) := by omega
  have h4W : W.heap.size ≤ W.heap.size := by omega
  have h3l : (W.heap.size + 1) < W2.heap.size := by omega
  have h4l : W.heap.size < W2.heap.size := by omega
  have lA : A.cells.size = 97 := Sg.size hoa
  have lB : B.cells.size = 97 := Sg.size hob
  have HA1 := Lib.hid (Sg.one A)
  have HB1 := Lib.hid (Sg.one B)
  have HT3 := Lib.hid (show W2.there (W.heap.size + 1) 0 A.cells.size by rw [lA]; exact hT3)
  have HT4 := Lib.hid (show (W2.setCells (W.heap.size + 1) 0 A.cells.toList).there W.heap.size 0 B.cells.size by rw [lB]; exact World.there_setCells hT4 _ _ _)
  have hRA : ((W2.setCells (W.heap.size + 1) 0 A.cells.toList).setCells W.heap.size 0 B.cells.toList).rangeAt (W.heap.size + 1) 0 A.cells.toList := World.rangeAt_setCells_apart (World.rangeAt_setCells_same W2 (W.heap.size + 1) 0 _ (by rw [Array.length_toList, lA]; exact hT3)) _ _ _ (.inl hne)
  have hRB : ((W2.setCells (W.heap.size + 1) 0 A.cells.toList).setCells W.heap.size 0 B.cells.toList).rangeAt W.heap.size 0 B.cells.toList := World.rangeAt_setCells_same _ W.heap.size 0 _ (by rw [Array.length_toList, lB]; exact World.there_setCells hT4 _ _ _)
  have hF4 : Fr (fun k _ => W.heap.size ≤ k) W ((W2.setCells (W.heap.size + 1) 0 A.cells.toList).setCells W.heap.size 0 B.cells.toList) := ((hF2.mono (fun _ _ h => h.elim)).trans' ((setCells_fr (W.heap.size + 1) _ _ _).mono (fun _ _ h => by have h5 := h; omega))).trans' ((setCells_fr W.heap.size _ _ _).mono (fun _ _ h => by have h5 := h; omega))
  clear hW2 HTa HTb hT3 hT4
  refine qr (i := 8) (by kernel_rfl) rfl (fun K hK => ?_)
  try simp only [qG, qG0, qG1]
  rw [if_pos (by rfl)]; refine wp_store_mid 54 (.tmp 3) (.tmp 7) (by rfl) (W.heap.size + 1) 0 A.cells (by rfl) (by rfl) HT3.out HsA.out HA1.out ?_
  refine hK.out _ _ (Lib.hid (hHeld.out.trans' ((setCells_fr (W.heap.size + 1) _ _ _).mono (fun _ _ h => by have h5 := h; omega)))) (fun hHeld => ?_)
  clear hK K
  try simp only [Act.put, qS, qS0, qS1, qG, qG0, qG1, qM0, qM1]
  refine qr (i := 9) (by kernel_rfl) rfl (fun K hK => ?_)
  try simp only [qG, qG0, qG1]
  rw [if_pos (by rfl)]; refine wp_store_mid 54 (.tmp 4) (.tmp 10) (by rfl) W.heap.size 0 B.cells (by rfl) (by rfl) HT4.out HsB.out HB1.out ?_
  refine hK.out _ _ (Lib.hid (hHeld.out.trans' ((setCells_fr W.heap.size _ _ _).mono (fun _ _ h => by have h5 := h; omega)))) (fun hHeld => ?_)
  clear hK K
  try simp only [Act.put, qS, qS0, qS1, qG, qG0, qG1, qM0, qM1]
  refine wpAnyH_done (by kernel_rfl) ?_ _
  clear hHeld
  obtain ⟨E, hE⟩ : ∃ V, (W2.setCells (W.heap.size + 1) 0 A.cells.toList).setCells W.heap.size 0 B.cells.toList = V := ⟨_, rfl⟩
  rw [hE] at hRA hRB hF4 ⊢
  have k35 := Fr.cell hF4 c35 (fun _ h => Nat.not_le_of_lt hpw h)
  have HRA := Lib.hid hRA
  have HRB := Lib.hid hRB
  have HFE := Lib.hid (HF.out.trans hF4 (fun k _ hm => .inr (by have h6 : W.heap.size ≤ k := hm; have := Hp.out; omega)))
  have HsA2 : Hid ((Tryz.prog.info? 54).map (·.size) = some A.cells.toList.length) := Lib.hid (by rw [Tryz.sizeSg, Array.length_toList, lA])
  have HsB2 : Hid ((Tryz.prog.info? 54).map (·.size) = some B.cells.toList.length) := Lib.hid (by rw [Tryz.sizeSg, Array.length_toList, lB])
  have Hbo := Lib.hid (built_one B hob)
  have Hao := Lib.hid (built_one A hoa)
  have Hab := Lib.hid (built_two A B hoa hob)
  have hone : ∀ X : Sg, SgRow (E.alloc (.cells X.cells 54)).heap.size E.heap.size [X] (E.alloc (.cells X.cells 54)) := fun X => ⟨by rw [World.size_alloc]; omega, fun i x hi => by
   cases i with
   | zero =>
     obtain rfl : X = x := by simpa using hi
     exact range_block (heap_alloc_new E (.cells X.cells 54))
   | succ i => simp at hi⟩
  have htwo : SgRow (E.alloc (.cells (A.cells ++ B.cells) 54)).heap.size E.heap.size [A, B] (E.alloc (.cells (A.cells ++ B.cells) 54)) := by
   have hx := range_block (heap_alloc_new E (.cells (A.cells ++ B.cells) 54))
   rw [Array.toList_append, range_append, Array.length_toList, lA] at hx
   refine ⟨by rw [World.size_alloc]; omega, fun i x hi => ?_⟩
   match i, hi with
   | 0, hi => obtain rfl : A = x := by simpa using hi
              exact hx.1
   | 1, hi => obtain rfl : B = x := by simpa using hi
              exact hx.2
  have Hone := Lib.hid hone
  have Htwo := Lib.hid htwo
  clear hRA hRB hF4 hE hone htwo lA lB
  by_cases h1 : op = 1
  ·subst h1
   have Hm : Hid (M = [B]) := Lib.hid (by have := Hm0.out; simpa using this)
   clear Hm0
   go_wp2_with (first
    | (with_reducible refine wpList_load_mid rfl 54 _ rfl (W.heap.size) 0 rfl B.cells.toList d HRB.out Hu.out Hd.out HsB2.out ?_)
    | ((with_reducible refine Great.wpList_buildSliceTo ?_ 37 54 1 _ rfl E.heap.size rfl _ rfl Tryz.underlying37 B.cells ?_ ?_); rfl; (refine Eq.trans (congrArg (Tryz.prog.builtSlice 54 1) ?_) Hbo.out; kernel_rfl)))
   go_ret
   rw [Hm.out]
   exact ⟨⟨_, rfl, Hone.out B⟩, HFE.out.alloc _⟩
  ·have e1 : (op == 1) = false := by simpa using h1
   by_cases h2 : op = 2
   ·subst h2
    have Hm : Hid (M = [A, B]) := Lib.hid (by have := Hm0.out; simpa using this)
    clear Hm0 h1 e1
    go_wp2_with (first
     | (with_reducible refine wpList_load_mid rfl 54 _ rfl ((W.heap.size + 1)) 0 rfl A.cells.toList d HRA.out Hu.out Hd.out HsA2.out ?_)
     | (with_reducible refine wpList_load_mid rfl 54 _ rfl (W.heap.size) 0 rfl B.cells.toList d HRB.out Hu.out Hd.out HsB2.out ?_)
     | ((with_reducible refine Great.wpList_buildSliceTo ?_ 37 54 2 _ rfl E.heap.size rfl _ rfl Tryz.underlying37 (A.cells ++ B.cells) ?_ ?_); rfl; (refine Eq.trans (congrArg (Tryz.prog.builtSlice 54 2) ?_) Hab.out; kernel_rfl)))
    go_ret
    rw [Hm.out]
    exact ⟨⟨_, rfl, Htwo.out⟩, HFE.out.alloc _⟩
   ·have e2 : (op == 2) = false := by simpa using h2
    have Hm : Hid (M = [A]) := Lib.hid (by have := Hm0.out; simpa [h1, h2] using this)
    clear Hm0 h1 h2
    go_wp2_with (first
     | (with_reducible refine wpList_load_mid rfl 54 _ rfl ((W.heap.size + 1)) 0 rfl A.cells.toList d HRA.out Hu.out Hd.out HsA2.out ?_)
     | ((with_reducible refine Great.wpList_buildSliceTo ?_ 37 54 1 _ rfl E.heap.size rfl _ rfl Tryz.underlying37 A.cells ?_ ?_); rfl; (refine Eq.trans (congrArg (Tryz.prog.builtSlice 54 1) ?_) Hao.out; kernel_rfl)))
    go_ret
    rw [Hm.out]
    exact ⟨⟨_, rfl, Hone.out A⟩, HFE.out.alloc _⟩
end Go.Proofs.YtcddlemkimbkcaaGreatDoor
namespace Go.Proofs.YtcddlemkimbkcaaGreatDoor
set_option linter.unusedVariables false
set_option linter.unusedSimpArgs false
set_option linter.unusedSectionVars false
open Go.RowKit Go.Shelf
variable [OldK]
theorem sort2_mem {l : List Sg} : ∀ x, x ∈ sort2 l → x ∈ l := by
 intro x hx
 unfold sort2 at hx
 split at hx
 ·split at hx
  ·simp at hx ⊢; exact hx.symm
  ·exact hx
 ·exact hx
set_option maxRecDepth 100000 in
set_option maxHeartbeats 4000000 in
theorem by_c (S : Nat → Prop) (e : En) (pv sv : Value) (want : List Sg) (gb n : Nat) (w : World) (hok : e.ok) (hg : GS S e.sigs sv w) (hoks : oks e.sigs) (hl : e.sigs.length ≤ 1000) (hn : want.length = n) (hw : SgRow w.heap.size gb want w) (how : oks want) (h12 : (∃ a, want = [a]) ∨ ∃ a b, want = [a, b]) :
 Calls Tryz.prog 72 #[.agg (e.cells pv sv).toArray, .slice (some ⟨gb, 0, none⟩) n n] w fun r w' => r = .returned (.bool (pBy e want)) ∧ Fr NoB w w' := by
 subst hn
 obtain ⟨a3, c3, hsv, -⟩ := id hg
 have hR : (w.alloc (.cells (e.cells pv sv).toArray 39)).rangeAt w.heap.size 0 (e.cells pv sv) := by simpa using range_block (heap_alloc_new w (.cells (e.cells pv sv).toArray 39))
 have hF : Fr NoB w (w.alloc (.cells (e.cells pv sv).toArray 39)) := Fr.refl.alloc _
 obtain ⟨-, -, -, -, -, -, -, c69⟩ := En.parts hok hR
 have hwW : SgRow (w.alloc (.cells (e.cells pv sv).toArray 39)).heap.size gb want (w.alloc (.cells (e.cells pv sv).toArray 39)) := ⟨Nat.lt_of_lt_of_le hw.1 hF.size, fun i x hi => range_fr (hw.2 i x hi) hF hw.1 (fun _ h => h)⟩
 have hgW := hg.fr hF (fun _ _ _ h => h)
 have hvals := fun V => values_c (some ⟨gb, 0, none⟩) want.length want.length V
 have hsort := fun Bs V h1 h2 h3 => sortedFunc_c Bs gb want.length want h12 how V h1 h2 h3
 obtain ⟨R, hRv⟩ : ∃ R, pBy e want = R := ⟨_, rfl⟩
 rw [hRv]
 unfold pBy at hRv
 obtain ⟨C, hC⟩ : ∃ C, e.cells pv sv = C := ⟨_, rfl⟩
 obtain ⟨ss, hss⟩ : ∃ s, e.sigs = s := ⟨_, rfl⟩
 rw [hss] at hgW hoks hl hRv hsv
 have how2 : oks (sort2 want) := fun x hx => how x (sort2_mem x hx)
 have heq := fun v (V : World) (h : GS (fun _ => True) (sort2 want) v V) (hF2 : Fr NoB (w.alloc (.cells C.toArray 39)) V) => equalFunc_c (S := S) (l := ss) (v := sv) (w := V) (hgW.fr (by rw [hC]; exact hF2) (fun _ _ _ h => h)) h hl hoks how2
 rw [hRv] at heq
 rw [hC] at hF c69 hwW ⊢
 have Hvals := Lib.hid hvals
 have Hsort := Lib.hid hsort
 have Heq := Lib.hid heq
 have HF := Lib.hid hF
 have HwW := Lib.hid hwW
 clear hR hgW hg hw hvals hsort heq hF hwW hC hss hRv hok
 go_enter Tryz.func72, Tryz.ntmps72
 go_upto_region 3 with (fail)
 change Code.wp _ _ _ _ (w.alloc (.cells C.toArray 39))
 obtain ⟨W, hW⟩ : ∃ W, w.alloc (.cells C.toArray 39) = W := ⟨_, rfl⟩
 rw [hW] at HF c69 HwW Heq ⊢
 obtain ⟨p, hpe⟩ : ∃ p, w.heap.size = p := ⟨_, rfl⟩
 rw [hpe] at c69 ⊢
 clear hW hpe
 subst hsv
 refine wp_region_held_drew (S := fun V => Hid (Fr NoB W V)) (by kernel_rfl) (Lib.hid Fr.refl.drew) (fun hHeld => ?_)
 simp only [qL, qL1, qL0, qR, qR1, qR0]
 iterate 3
  refine qt (v := ?_) rfl (Or.inl ⟨by rfl, ?_⟩) hHeld ?_
  rotate_left
  ·intro W hSw
   have h69 := Fr.cell hSw.out c69
   try simp only [qG, qG0, qG1]
   go_simp
   try rw [if_neg (by omega)]
   try with_reducible rfl
  try simp only [Act.put, qS, qS0, qS1, qG, qG0, qG1, qM0, qM1]
 refine qi (i := 4) (v := ?_) rfl (Or.inl ⟨by rfl, ?_⟩) hHeld ?_
 rotate_left
 ·intro W hSw
  have h69 := Fr.cell hSw.out c69
  try simp only [qG, qG0, qG1]
  go_simp
  try rw [if_neg (by omega)]
  try with_reducible rfl
 try simp only [Act.put, qS, qS0, qS1, qG, qG0, qG1, qM0, qM1]
 refine qi (i := 6) (v := ?_) rfl (Or.inl ⟨by rfl, ?_⟩) hHeld ?_
 rotate_left
 ·intro W hSw
  have h69 := Fr.cell hSw.out c69
  try simp only [qG, qG0, qG1]
  go_simp
  try rw [if_neg (by omega)]
  try with_reducible rfl
 try simp only [Act.put, qS, qS0, qS1, qG, qG0, qG1, qM0, qM1]
 refine qr (i := 3) (by kernel_rfl) rfl (fun K hK => ?_)
 try simp only [qG, qG0, qG1]
 go_simp
 refine (Hvals.out _).mono ?_; rintro r w1 ⟨rfl, hw1⟩
 refine hK.out _ _ (Lib.hid (by rw [hw1]; exact hHeld.out.alloc _)) (fun hHeld => ?_)
 clear hK K
 try simp only [Act.put, qS, qS0, qS1, qG, qG0, qG1, qM0, qM1]
 have hB1 : w1.heap[W.drew.heap.size]? = some (.cells #[.slice (some ⟨gb, 0, none⟩) want.length want.length] 37 (0, 0)) := by rw [hw1]; exact heap_alloc_new W.drew _
 have hF1 : Fr NoB W w1 := hHeld.out
 have hs5 := Hsort.out W.drew.heap.size w1 (get_lt hB1) (by simp only [World.cell?]; rw [hB1]; rfl) ⟨Nat.lt_of_lt_of_le HwW.out.1 hF1.size, fun i x hi => range_fr (HwW.out.2 i x hi) hF1 HwW.out.1 (fun _ h => h)⟩
 have Hs5 := Lib.hid hs5
 clear hs5 hB1 hw1 hF1
 refine qr (i := 5) (by kernel_rfl) rfl (fun K hK => ?_)
 try simp only [qG, qG0, qG1]
 go_simp
 refine Hs5.out.mono ?_; rintro r w2 ⟨v, rfl, hgs, hF2⟩
 refine hK.out _ _ (Lib.hid (hHeld.out.trans' hF2)) (fun hHeld => ?_)
 clear hK K
 try simp only [Act.put, qS, qS0, qS1, qG, qG0, qG1, qM0, qM1]
 have Hgs := Lib.hid hgs
 clear hgs hF2
 refine qr (i := 7) (by kernel_rfl) rfl (fun K hK => ?_)
 try simp only [qG, qG0, qG1]
 go_simp
 refine (Heq.out _ w2 Hgs.out hHeld.out).mono ?_; rintro r w3 ⟨rfl, hF3⟩
 refine hK.out _ _ (Lib.hid (hHeld.out.trans' hF3)) (fun hHeld => ?_)
 clear hK K
 try simp only [Act.put, qS, qS0, qS1, qG, qG0, qG1, qM0, qM1]
 clear hF3
 refine qt (v := ?_) rfl (Or.inl ⟨by rfl, ?_⟩) hHeld ?_
 rotate_left
 ·intro W hSw
  have h69 := Fr.cell hSw.out c69
  try simp only [qG, qG0, qG1]
  go_simp
  try rw [if_neg (by omega)]
  try with_reducible rfl
 try simp only [Act.put, qS, qS0, qS1, qG, qG0, qG1, qM0, qM1]
 refine wpAnyH_done (by kernel_rfl) ?_ _
 have HG := Lib.hid hHeld.out
 clear hHeld
 go_wp2_with fail
 go_ret
 exact ⟨rfl, HF.out.trans' HG.out⟩
end Go.Proofs.YtcddlemkimbkcaaGreatDoor
