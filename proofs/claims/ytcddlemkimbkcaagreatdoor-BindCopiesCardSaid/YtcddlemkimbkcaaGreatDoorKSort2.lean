/-
 The walks of bind.by's two functions: do two signers have one text, which text is less.
-/
import Derived.Test.YtcddlemkimbkcaaGreatDoorKTable2
import Derived.OrdersHeld
import Derived.Deep.RegionHeld3
import Derived.LoopN
import Derived.Shelf.Lay
namespace Go.Proofs.YtcddlemkimbkcaaGreatDoor
set_option linter.unusedVariables false
set_option linter.unusedSimpArgs false
set_option linter.unusedSectionVars false
open Go.RowKit
variable [OldK]
theorem Tryz.sizeSg : (Tryz.prog.info? 54).map (·.size) = some 97 := by kernel_rfl
theorem Tryz.rowSg2 : ∃ d, Tryz.prog.underlying 54 = some d ∧ d.isRow = true := ⟨_, Tryz.underlying54, rfl⟩
def Sg.ok2 (s : Sg) : Prop := s.ok ∧ s.id.length ≤ 1000000
set_option maxRecDepth 100000 in
set_option maxHeartbeats 2000000 in
theorem same_c (a b : Sg) (w : World) (ha : a.ok2) (hb : b.ok2) :
 Calls Tryz.prog 117 #[.agg a.cells, .agg b.cells] w fun e w' => e = .returned (.bool (pSigner a == pSigner b)) ∧ Fr NoB w w' := by
 have hs1 := fun V => signer_c a V ha.1 ha.2
 have hs2 := fun V => signer_c b V hb.1 hb.2
 obtain ⟨X, hX⟩ : ∃ X, pSigner a = X := ⟨_, rfl⟩
 obtain ⟨Y, hY⟩ : ∃ Y, pSigner b = Y := ⟨_, rfl⟩
 simp only [hX] at hs1
 simp only [hY] at hs2
 rw [hX, hY]
 have hR1 : ((w.alloc (.cells a.cells 54)).alloc (.cells b.cells 54)).rangeAt w.heap.size 0 a.cells.toList := World.rangeAt_alloc (range_block (heap_alloc_new w (.cells a.cells 54))) _
 have hR2 : ((w.alloc (.cells a.cells 54)).alloc (.cells b.cells 54)).rangeAt (w.heap.size + 1) 0 b.cells.toList := by
  have := range_block (heap_alloc_new (w.alloc (.cells a.cells 54)) (.cells b.cells 54))
  rw [World.size_alloc] at this
  exact this
 have hF : Fr NoB w ((w.alloc (.cells a.cells 54)).alloc (.cells b.cells 54)) := (Fr.refl.alloc _).alloc _
 have hsz : w.heap.size + 1 < ((w.alloc (.cells a.cells 54)).alloc (.cells b.cells 54)).heap.size := by rw [World.size_alloc, World.size_alloc]; omega
 have hz1 : (Tryz.prog.info? 54).map (·.size) = some a.cells.toList.length := by rw [Tryz.sizeSg, Array.length_toList, Sg.size ha.1]
 have hz2 : (Tryz.prog.info? 54).map (·.size) = some b.cells.toList.length := by rw [Tryz.sizeSg, Array.length_toList, Sg.size hb.1]
 obtain ⟨d, hu, hd⟩ := Tryz.rowSg2
 obtain ⟨CA, hCA⟩ : ∃ C, a.cells = C := ⟨_, rfl⟩
 obtain ⟨CB, hCB⟩ : ∃ C, b.cells = C := ⟨_, rfl⟩
 rw [hCA] at hz1
 rw [hCB] at hz2
 rw [hCA, hCB] at hR1 hR2 hF hsz ⊢
 simp only [hCA] at hs1
 simp only [hCB] at hs2
 have Hs1 := Lib.hid hs1
 have Hs2 := Lib.hid hs2
 have Hz1 := Lib.hid hz1
 have Hz2 := Lib.hid hz2
 have Hu := Lib.hid hu
 have Hd := Lib.hid hd
 clear hs1 hs2 hX hY hCA hCB hz1 hz2 hu hd ha hb
 go_enter Tryz.func117, Tryz.ntmps117
 go_upto_region 1 with (fail)
 change Code.wp _ _ _ _ ((w.alloc (.cells CA 54)).alloc (.cells CB 54))
 obtain ⟨W, hW⟩ : ∃ W, (w.alloc (.cells CA 54)).alloc (.cells CB 54) = W := ⟨_, rfl⟩
 rw [hW] at hR1 hR2 hF hsz ⊢
 obtain ⟨p, hp⟩ : ∃ p, w.heap.size = p := ⟨_, rfl⟩
 obtain ⟨q, hq⟩ : ∃ q, p + 1 = q := ⟨_, rfl⟩
 rw [hp] at hR1 hR2 hsz
 rw [hq] at hR2 hsz
 rw [hp, hq]
 have hpW : p < W.heap.size := by omega
 clear hW hp hq
 have HR1 := Lib.hid hR1
 have HR2 := Lib.hid hR2
 have HF := Lib.hid hF
 clear hR1 hR2 hF
 refine wp_region_held_drew (S := fun V => Hid (Fr NoB W V)) (by kernel_rfl) (Lib.hid Fr.refl.drew) (fun hHeld => ?_)
 simp only [qL, qL1, qL0, qR, qR1, qR0]
 refine qi (i := 0) rfl (yieldsIf_load_mid (by rfl) 54 _ rfl p 0 rfl CA.toList d (fun V h => range_fr HR1.out h.out hpW (fun _ h => h)) Hu.out Hd.out Hz1.out) hHeld ?_
 try simp only [Act.put, qS, qS0, qS1, qG, qG0, qG1, qM0, qM1]
 refine qi (i := 2) rfl (yieldsIf_load_mid (by rfl) 54 _ rfl q 0 rfl CB.toList d (fun V h => range_fr HR2.out h.out hsz (fun _ h => h)) Hu.out Hd.out Hz2.out) hHeld ?_
 try simp only [Act.put, qS, qS0, qS1, qG, qG0, qG1, qM0, qM1]
 refine qr (i := 1) (by kernel_rfl) rfl (fun K hK => ?_)
 try simp only [qG, qG0, qG1]
 go_simp
 refine (Hs1.out _).mono ?_; rintro r w1 ⟨rfl, hF1⟩
 refine hK.out _ _ (Lib.hid (hHeld.out.trans' hF1)) (fun hHeld => ?_)
 clear hK K
 try simp only [Act.put, qS, qS0, qS1, qG, qG0, qG1, qM0, qM1]
 clear hF1
 refine qr (i := 3) (by kernel_rfl) rfl (fun K hK => ?_)
 try simp only [qG, qG0, qG1]
 go_simp
 refine (Hs2.out _).mono ?_; rintro r w2 ⟨rfl, hF2⟩
 refine hK.out _ _ (Lib.hid (hHeld.out.trans' hF2)) (fun hHeld => ?_)
 clear hK K
 try simp only [Act.put, qS, qS0, qS1, qG, qG0, qG1, qM0, qM1]
 clear hF2
 obtain ⟨r, hr⟩ : ∃ r, (X == Y) = r := ⟨_, rfl⟩
 iterate 2
  refine qt (v := ?_) rfl (Or.inl ⟨by rfl, ?_⟩) hHeld ?_
  rotate_left
  ·intro W hSw
   try simp only [qG, qG0, qG1]
   go_simp
   try rw [if_neg (by omega)]
   try with_reducible rfl
  try simp only [Act.put, qS, qS0, qS1, qG, qG0, qG1, qM0, qM1]
 refine wpAnyH_done (by kernel_rfl) ?_ _
 have HG := Lib.hid hHeld.out
 clear hHeld
 go_wp2_with fail
 go_ret
 exact ⟨ret_bool hr.symm, HF.out.trans' HG.out⟩
set_option maxRecDepth 100000 in
set_option maxHeartbeats 2000000 in
theorem less_c (a b : Sg) (w : World) (ha : a.ok2) (hb : b.ok2) :
 Calls Tryz.prog 119 #[.agg a.cells, .agg b.cells] w fun e w' => e = .returned (.int .i64 (if Op.bytesLess (pSigner a) (pSigner b) then -1 else 1)) ∧ Fr NoB w w' := by
 have hs1 := fun V => signer_c a V ha.1 ha.2
 have hs2 := fun V => signer_c b V hb.1 hb.2
 obtain ⟨X, hX⟩ : ∃ X, pSigner a = X := ⟨_, rfl⟩
 obtain ⟨Y, hY⟩ : ∃ Y, pSigner b = Y := ⟨_, rfl⟩
 simp only [hX] at hs1
 simp only [hY] at hs2
 rw [hX, hY]
 have hR1 : ((w.alloc (.cells a.cells 54)).alloc (.cells b.cells 54)).rangeAt w.heap.size 0 a.cells.toList := World.rangeAt_alloc (range_block (heap_alloc_new w (.cells a.cells 54))) _
 have hR2 : ((w.alloc (.cells a.cells 54)).alloc (.cells b.cells 54)).rangeAt (w.heap.size + 1) 0 b.cells.toList := by
  have := range_block (heap_alloc_new (w.alloc (.cells a.cells 54)) (.cells b.cells 54))
  rw [World.size_alloc] at this
  exact this
 have hF : Fr NoB w ((w.alloc (.cells a.cells 54)).alloc (.cells b.cells 54)) := (Fr.refl.alloc _).alloc _
 have hsz : w.heap.size + 1 < ((w.alloc (.cells a.cells 54)).alloc (.cells b.cells 54)).heap.size := by rw [World.size_alloc, World.size_alloc]; omega
 have hz1 : (Tryz.prog.info? 54).map (·.size) = some a.cells.toList.length := by rw [Tryz.sizeSg, Array.length_toList, Sg.size ha.1]
 have hz2 : (Tryz.prog.info? 54).map (·.size) = some b.cells.toList.length := by rw [Tryz.sizeSg, Array.length_toList, Sg.size hb.1]
 obtain ⟨d, hu, hd⟩ := Tryz.rowSg2
 obtain ⟨CA, hCA⟩ : ∃ C, a.cells = C := ⟨_, rfl⟩
 obtain ⟨CB, hCB⟩ : ∃ C, b.cells = C := ⟨_, rfl⟩
 rw [hCA] at hz1
 rw [hCB] at hz2
 rw [hCA, hCB] at hR1 hR2 hF hsz ⊢
 simp only [hCA] at hs1
 simp only [hCB] at hs2
 have Hs1 := Lib.hid hs1
 have Hs2 := Lib.hid hs2
 have Hz1 := Lib.hid hz1
 have Hz2 := Lib.hid hz2
 have Hu := Lib.hid hu
 have Hd := Lib.hid hd
 clear hs1 hs2 hX hY hCA hCB hz1 hz2 hu hd ha hb
 go_enter Tryz.func119, Tryz.ntmps119
 go_upto_region 1 with (fail)
 change Code.wp _ _ _ _ ((w.alloc (.cells CA 54)).alloc (.cells CB 54))
 obtain ⟨W, hW⟩ : ∃ W, (w.alloc (.cells CA 54)).alloc (.cells CB 54) = W := ⟨_, rfl⟩
 rw [hW] at hR1 hR2 hF hsz ⊢
 obtain ⟨p, hp⟩ : ∃ p, w.heap.size = p := ⟨_, rfl⟩
 obtain ⟨q, hq⟩ : ∃ q, p + 1 = q := ⟨_, rfl⟩
 rw [hp] at hR1 hR2 hsz
 rw [hq] at hR2 hsz
 rw [hp, hq]
 have hpW : p < W.heap.size := by omega
 clear hW hp hq
 have HR1 := Lib.hid hR1
 have HR2 := Lib.hid hR2
 have HF := Lib.hid hF
 clear hR1 hR2 hF
 refine wp_region_held_drew (S := fun V => Hid (Fr NoB W V)) (by kernel_rfl) (Lib.hid Fr.refl.drew) (fun hHeld => ?_)
 simp only [qL, qL1, qL0, qR, qR1, qR0]
 refine qi (i := 0) rfl (yieldsIf_load_mid (by rfl) 54 _ rfl p 0 rfl CA.toList d (fun V h => range_fr HR1.out h.out hpW (fun _ h => h)) Hu.out Hd.out Hz1.out) hHeld ?_
 try simp only [Act.put, qS, qS0, qS1, qG, qG0, qG1, qM0, qM1]
 refine qi (i := 2) rfl (yieldsIf_load_mid (by rfl) 54 _ rfl q 0 rfl CB.toList d (fun V h => range_fr HR2.out h.out hsz (fun _ h => h)) Hu.out Hd.out Hz2.out) hHeld ?_
 try simp only [Act.put, qS, qS0, qS1, qG, qG0, qG1, qM0, qM1]
 refine qr (i := 1) (by kernel_rfl) rfl (fun K hK => ?_)
 try simp only [qG, qG0, qG1]
 go_simp
 refine (Hs1.out _).mono ?_; rintro r w1 ⟨rfl, hF1⟩
 refine hK.out _ _ (Lib.hid (hHeld.out.trans' hF1)) (fun hHeld => ?_)
 clear hK K
 try simp only [Act.put, qS, qS0, qS1, qG, qG0, qG1, qM0, qM1]
 clear hF1
 refine qr (i := 3) (by kernel_rfl) rfl (fun K hK => ?_)
 try simp only [qG, qG0, qG1]
 go_simp
 refine (Hs2.out _).mono ?_; rintro r w2 ⟨rfl, hF2⟩
 refine hK.out _ _ (Lib.hid (hHeld.out.trans' hF2)) (fun hHeld => ?_)
 clear hK K
 try simp only [Act.put, qS, qS0, qS1, qG, qG0, qG1, qM0, qM1]
 clear hF2
 obtain ⟨r, hr⟩ : ∃ r, Op.bytesLess X Y = r := ⟨_, rfl⟩
 cases r
 all_goals
  refine qt (v := ?_) rfl (Or.inl ⟨by rfl, ?_⟩) hHeld ?_
  rotate_left
  ·intro W hSw
   try simp only [qG, qG0, qG1]
   go_simp
   try rw [if_neg (by omega)]
   try with_reducible rfl
  try simp only [Act.put, qS, qS0, qS1, qG, qG0, qG1, qM0, qM1]
  refine wpAnyH_done (by kernel_rfl) ?_ _
  have HG := Lib.hid hHeld.out
  clear hHeld
  go_wp2_with fail
  all_goals first
   | (exfalso; simp_all; done)
   | (go_ret; exact ⟨by simp only [hr]; rfl, HF.out.trans' HG.out⟩)
end Go.Proofs.YtcddlemkimbkcaaGreatDoor
namespace Go.Proofs.YtcddlemkimbkcaaGreatDoor
set_option linter.unusedVariables false
set_option linter.unusedSimpArgs false
set_option linter.unusedSectionVars false
open Go.RowKit
variable [OldK]
/-- two signatures lie side by side -/
structure SR2 (gb : Nat) (a b : Sg) (w : World) : Prop where
 one : w.rangeAt gb 0 a.cells.toList
 two : w.rangeAt gb 97 b.cells.toList
 there : w.there gb 0 194
theorem SR2.fr {M : Nat → Obj → Prop} {gb : Nat} {a b : Sg} {w w' : World} (h : SR2 gb a b w) (hb : gb < w.heap.size) (hF : Fr M w w') (hM : ∀ o, ¬ M gb o) : SR2 gb a b w' :=
 ⟨range_fr h.one hF hb hM, range_fr h.two hF hb hM, there_fr h.there hF hb hM⟩
theorem there_part {w : World} {b n : Nat} (h : w.there b 0 n) (o m : Nat) (hm : o + m ≤ n) : w.there b o m := fun j hj => by
 have := h (o + j) (by omega)
 rwa [Nat.zero_add] at this
/-- they were exchanged -/
theorem SR2.swap {gb : Nat} {a b : Sg} {w : World} (h : SR2 gb a b w) (ha : a.ok) (hb : b.ok) : SR2 gb b a ((w.setCells gb 97 a.cells.toList).setCells gb 0 b.cells.toList) := by
 have la : a.cells.toList.length = 97 := by rw [Array.length_toList, Sg.size ha]
 have lb : b.cells.toList.length = 97 := by rw [Array.length_toList, Sg.size hb]
 refine ⟨World.rangeAt_setCells_same _ gb 0 _ (by rw [lb]; exact there_part (World.there_setCells h.there _ _ _) 0 97 (by omega)), ?_, World.there_setCells (World.there_setCells h.there _ _ _) _ _ _⟩
 exact World.rangeAt_setCells_apart (World.rangeAt_setCells_same w gb 97 _ (by rw [la]; exact there_part h.there 97 97 (by omega))) _ _ _ (.inr (.inr (by omega)))
/-- they lie in their signers' order -/
def SRs (gb : Nat) (a b : Sg) (w : World) : Prop := if Op.bytesLess (pSigner b) (pSigner a) then SR2 gb b a w else SR2 gb a b w
theorem SRs.sort {gb : Nat} {a b : Sg} {w : World} (h : SRs gb a b w) : ∃ x y, sort2 [a, b] = [x, y] ∧ SR2 gb x y w := by
 unfold SRs at h
 by_cases hl : Op.bytesLess (pSigner b) (pSigner a) = true
 ·rw [if_pos hl] at h
  exact ⟨b, a, by unfold sort2; simp [hl], h⟩
 ·rw [if_neg hl] at h
  exact ⟨a, b, by unfold sort2; simp [hl], h⟩
set_option maxRecDepth 100000 in
set_option maxHeartbeats 4000000 in
theorem insertion2_c (a b : Sg) (gb c : Nat) (w : World) (ha : a.ok2) (hb : b.ok2) (h : SR2 gb a b w) (hg : gb < w.heap.size) (hc : 2 ≤ c) :
 Calls Tryz.prog 244 #[.slice (some ⟨gb, 0, none⟩) 2 c, .int .i64 0, .int .i64 2, .func (.func 119) #[] #[]] w fun e w' => e = .returned (.tuple #[]) ∧
  SRs gb a b w' ∧ Fr (fun k _ => k = gb) w w' := by
 have hl := fun V => less_c b a V hb ha
 have heg : ∀ args W, (callFunc 119 args).run Tryz.prog W = .ok (.enter 119 args) W := fun args w => by simp [go_sem]
 have hz1 : (Tryz.prog.info? 54).map (·.size) = some a.cells.toList.length := by rw [Tryz.sizeSg, Array.length_toList, Sg.size ha.1]
 have hz2 : (Tryz.prog.info? 54).map (·.size) = some b.cells.toList.length := by rw [Tryz.sizeSg, Array.length_toList, Sg.size hb.1]
 obtain ⟨d, hu, hd⟩ := Tryz.rowSg2
 obtain ⟨r, hr⟩ : ∃ r, Op.bytesLess (pSigner b) (pSigner a) = r := ⟨_, rfl⟩
 simp only [hr] at hl
 have Hr := Lib.hid hr
 have hw0 : IntKind.i64.wrap 0 = 0 := by rw [IntKind.wrap_i64]; rfl
 have Hl := Lib.hid hl
 have Hz1 := Lib.hid hz1
 have Hz2 := Lib.hid hz2
 have Hu := Lib.hid hu
 have Hd := Lib.hid hd
 have HS := Lib.hid h
 clear hl hz1 hz2 hu hd h hr
 cases r with
 | false =>
   go_enter Tryz.func244, Tryz.ntmps244
   go_wp2_with fail
   refine wp_loop_rounds 2 ?_
   rw [rounds_succ]
   go_wp2_with fail
   refine wp_loop_rounds 1 ?_
   rw [rounds_succ]
   go_upto_region 4 with (fail)
   refine wp_region_held_drew (S := fun V => Hid (Fr NoB w V)) (by kernel_rfl) (Lib.hid Fr.refl.drew) (fun hHeld => ?_)
   simp only [qL, qL1, qL0, qR, qR1, qR0]
   iterate 8
    refine qt (v := ?_) rfl (Or.inl ⟨by rfl, ?_⟩) hHeld ?_
    rotate_left
    ·intro W hSw
     try simp only [qG, qG0, qG1]
     go_simp
     try rw [if_neg (by omega)]
     try with_reducible rfl
    try simp only [Act.put, qS, qS0, qS1, qG, qG0, qG1, qM0, qM1]
   refine qi (i := 8) rfl (yieldsIf_load_mid (by rfl) 54 _ rfl gb 97 rfl b.cells.toList d (fun V h => range_fr HS.out.two h.out hg (fun _ h => h)) Hu.out Hd.out Hz2.out) hHeld ?_
   try simp only [Act.put, qS, qS0, qS1, qG, qG0, qG1, qM0, qM1]
   iterate 4
    refine qt (v := ?_) rfl (Or.inl ⟨by rfl, ?_⟩) hHeld ?_
    rotate_left
    ·intro W hSw
     try simp only [qG, qG0, qG1]
     go_simp
     try rw [if_neg (by omega)]
     try with_reducible rfl
    try simp only [Act.put, qS, qS0, qS1, qG, qG0, qG1, qM0, qM1]
   refine qi (i := 13) rfl (yieldsIf_load_mid (by rfl) 54 _ rfl gb 0 rfl a.cells.toList d (fun V h => range_fr HS.out.one h.out hg (fun _ h => h)) Hu.out Hd.out Hz1.out) hHeld ?_
   try simp only [Act.put, qS, qS0, qS1, qG, qG0, qG1, qM0, qM1]
   refine qr (i := 14) (by kernel_rfl) rfl (fun K hK => ?_)
   try simp only [qG, qG0, qG1]
   go_simp
   refine (Hl.out _).mono ?_; rintro e w1 ⟨rfl, hF1⟩
   refine hK.out _ _ (Lib.hid (hHeld.out.trans' hF1)) (fun hHeld => ?_)
   clear hK K
   try simp only [Act.put, qS, qS0, qS1, qG, qG0, qG1, qM0, qM1]
   clear hF1
   iterate 2
    refine qt (v := ?_) rfl (Or.inl ⟨by rfl, ?_⟩) hHeld ?_
    rotate_left
    ·intro W hSw
     try simp only [qG, qG0, qG1]
     go_simp
     try rw [if_neg (by omega)]
     try with_reducible rfl
    try simp only [Act.put, qS, qS0, qS1, qG, qG0, qG1, qM0, qM1]
   refine wpAnyH_done (by kernel_rfl) ?_ _
   have HG := Lib.hid hHeld.out
   clear hHeld
   go_wp2_with fail
   rw [rounds_succ]
   go_wp2_with fail
   go_end0
   exact ⟨rfl, by unfold SRs; rw [Hr.out]; exact HS.out.fr hg HG.out (fun _ h => h), HG.out.mono (fun _ _ h => h.elim)⟩
 | true =>
   have Hq1 : Hid ((Tryz.prog.info? 54).map (·.size) = some a.cells.size) := Lib.hid (by rw [Tryz.sizeSg, Sg.size ha.1])
   have Hq2 : Hid ((Tryz.prog.info? 54).map (·.size) = some b.cells.size) := Lib.hid (by rw [Tryz.sizeSg, Sg.size hb.1])
   have Ho1 := Lib.hid (Sg.one a)
   have Ho2 := Lib.hid (Sg.one b)
   go_enter Tryz.func244, Tryz.ntmps244
   go_wp2_with fail
   refine wp_loop_rounds 2 ?_
   rw [rounds_succ]
   go_wp2_with fail
   refine wp_loop_rounds 2 ?_
   rw [rounds_succ]
   go_upto_region 4 with (fail)
   refine wp_region_held_drew (S := fun V => Hid (Fr NoB w V)) (by kernel_rfl) (Lib.hid Fr.refl.drew) (fun hHeld => ?_)
   simp only [qL, qL1, qL0, qR, qR1, qR0]
   iterate 8
    refine qt (v := ?_) rfl (Or.inl ⟨by rfl, ?_⟩) hHeld ?_
    rotate_left
    ·intro W hSw
     try simp only [qG, qG0, qG1]
     go_simp
     try rw [if_neg (by omega)]
     try with_reducible rfl
    try simp only [Act.put, qS, qS0, qS1, qG, qG0, qG1, qM0, qM1]
   refine qi (i := 8) rfl (yieldsIf_load_mid (by rfl) 54 _ rfl gb 97 rfl b.cells.toList d (fun V h => range_fr HS.out.two h.out hg (fun _ h => h)) Hu.out Hd.out Hz2.out) hHeld ?_
   try simp only [Act.put, qS, qS0, qS1, qG, qG0, qG1, qM0, qM1]
   iterate 4
    refine qt (v := ?_) rfl (Or.inl ⟨by rfl, ?_⟩) hHeld ?_
    rotate_left
    ·intro W hSw
     try simp only [qG, qG0, qG1]
     go_simp
     try rw [if_neg (by omega)]
     try with_reducible rfl
    try simp only [Act.put, qS, qS0, qS1, qG, qG0, qG1, qM0, qM1]
   refine qi (i := 13) rfl (yieldsIf_load_mid (by rfl) 54 _ rfl gb 0 rfl a.cells.toList d (fun V h => range_fr HS.out.one h.out hg (fun _ h => h)) Hu.out Hd.out Hz1.out) hHeld ?_
   try simp only [Act.put, qS, qS0, qS1, qG, qG0, qG1, qM0, qM1]
   refine qr (i := 14) (by kernel_rfl) rfl (fun K hK => ?_)
   try simp only [qG, qG0, qG1]
   go_simp
   refine (Hl.out _).mono ?_; rintro e w1 ⟨rfl, hF1⟩
   refine hK.out _ _ (Lib.hid (hHeld.out.trans' hF1)) (fun hHeld => ?_)
   clear hK K
   try simp only [Act.put, qS, qS0, qS1, qG, qG0, qG1, qM0, qM1]
   clear hF1
   iterate 2
    refine qt (v := ?_) rfl (Or.inl ⟨by rfl, ?_⟩) hHeld ?_
    rotate_left
    ·intro W hSw
     try simp only [qG, qG0, qG1]
     go_simp
     try rw [if_neg (by omega)]
     try with_reducible rfl
    try simp only [Act.put, qS, qS0, qS1, qG, qG0, qG1, qM0, qM1]
   refine wpAnyH_done (by kernel_rfl) ?_ _
   have HG := Lib.hid hHeld.out
   clear hHeld
   go_upto_region 6 with (fail)
   have hSd := HS.out.fr hg HG.out.drew (fun _ h => h)
   have hFe : Fr (fun k _ => k = gb) w ((w1.drew.setCells gb 97 a.cells.toList).setCells gb 0 b.cells.toList) := ((HG.out.drew.mono (fun _ _ h => h.elim)).trans' (setCells_fr gb _ _ _)).trans' (setCells_fr gb _ _ _)
   have HSe := Lib.hid (hSd.swap ha.1 hb.1)
   have HT1 := Lib.hid (there_part hSd.there 97 a.cells.size (by rw [Sg.size ha.1]; omega))
   have HT0 := Lib.hid (there_part hSd.there 0 b.cells.size (by rw [Sg.size hb.1]; omega))
   have HSd := Lib.hid hSd
   have hgE := Nat.lt_of_lt_of_le hg hFe.size
   have HFe := Lib.hid hFe
   clear hSd hFe
   refine wp_region_held_drew (S := fun _ => True) (by kernel_rfl) trivial (fun hHeld => ?_)
   simp only [qL, qL1, qL0, qR, qR1, qR0]
   iterate 9
    refine qt (v := ?_) rfl (Or.inl ⟨by rfl, ?_⟩) hHeld ?_
    rotate_left
    ·intro W hSw
     try simp only [qG, qG0, qG1]
     go_simp
     try rw [if_neg (by omega)]
     try with_reducible rfl
    try simp only [Act.put, qS, qS0, qS1, qG, qG0, qG1, qM0, qM1]
   refine qi (i := 10) (v := ?_) rfl (Or.inl ⟨by rfl, ?_⟩) hHeld ?_
   rotate_left
   ·intro W hSw
    try simp only [qG, qG0, qG1]
    go_simp
    try rw [if_neg (by omega)]
    try with_reducible rfl
   try simp only [Act.put, qS, qS0, qS1, qG, qG0, qG1, qM0, qM1]
   refine qi (i := 11) (v := ?_) rfl (Or.inl ⟨by rfl, ?_⟩) hHeld ?_
   rotate_left
   ·intro W hSw
    try simp only [qG, qG0, qG1]
    go_simp
    try rw [if_neg (by omega)]
    try with_reducible rfl
   try simp only [Act.put, qS, qS0, qS1, qG, qG0, qG1, qM0, qM1]
   refine qi (i := 12) (v := ?_) rfl (Or.inl ⟨by rfl, ?_⟩) hHeld ?_
   rotate_left
   ·intro W hSw
    try simp only [qG, qG0, qG1]
    go_simp
    try rw [if_neg (by omega)]
    try with_reducible rfl
   try simp only [Act.put, qS, qS0, qS1, qG, qG0, qG1, qM0, qM1]
   refine wpAnyH_ready (rs := [9, 13]) (by kernel_rfl) (by simp) (AllReadyH.cons rfl (fun K hK => ?_) (AllReadyH.cons rfl (fun K hK => ?_) AllReadyH.nil))
   ·try simp only [qG, qG0, qG1]
    rw [if_pos (by rfl)]
    refine wp_load_mid 54 (.tmp 45) (by rfl) gb 0 (by rfl) a.cells.toList d HSd.out.one Hu.out Hd.out Hz1.out ?_
    refine hK.out _ _ trivial (fun hHeld => ?_)
    clear hK K
    try simp only [Act.put, qS, qS0, qS1, qG, qG0, qG1, qM0, qM1]
    refine qr (i := 13) (by kernel_rfl) rfl (fun K hK => ?_)
    try simp only [qG, qG0, qG1]
    rw [if_pos (by rfl)]; refine wp_load_mid 54 (.tmp 49) (by rfl) gb 97 (by rfl) b.cells.toList d HSd.out.two Hu.out Hd.out Hz2.out ?_
    refine hK.out _ _ trivial (fun hHeld => ?_)
    clear hK K
    try simp only [Act.put, qS, qS0, qS1, qG, qG0, qG1, qM0, qM1]
    refine qi (i := 14) (v := ?_) rfl (Or.inl ⟨by rfl, ?_⟩) hHeld ?_
    rotate_left
    ·intro W hSw
     try simp only [qG, qG0, qG1]
     go_simp
     try rw [if_neg (by omega)]
     try with_reducible rfl
    try simp only [Act.put, qS, qS0, qS1, qG, qG0, qG1, qM0, qM1]
    refine qr (i := 15) (by kernel_rfl) rfl (fun K hK => ?_)
    try simp only [qG, qG0, qG1]
    rw [if_pos (by rfl)]; refine wp_store_mid 54 (.tmp 51) (.tmp 46) (by rfl) gb 97 a.cells (by rfl) (by rfl) HT1.out Hq1.out Ho1.out ?_
    refine hK.out _ _ trivial (fun hHeld => ?_)
    clear hK K
    try simp only [Act.put, qS, qS0, qS1, qG, qG0, qG1, qM0, qM1]
    refine qi (i := 16) (v := ?_) rfl (Or.inl ⟨by rfl, ?_⟩) hHeld ?_
    rotate_left
    ·intro W hSw
     try simp only [qG, qG0, qG1]
     go_simp
     try rw [if_neg (by omega)]
     try with_reducible rfl
    try simp only [Act.put, qS, qS0, qS1, qG, qG0, qG1, qM0, qM1]
    refine qr (i := 17) (by kernel_rfl) rfl (fun K hK => ?_)
    try simp only [qG, qG0, qG1]
    rw [if_pos (by rfl)]; refine wp_store_mid 54 (.tmp 52) (.tmp 50) (by rfl) gb 0 b.cells (by rfl) (by rfl) (World.there_setCells HT0.out _ _ _) Hq2.out Ho2.out ?_
    refine hK.out _ _ trivial (fun hHeld => ?_)
    clear hK K
    try simp only [Act.put, qS, qS0, qS1, qG, qG0, qG1, qM0, qM1]
    refine wpAnyH_done (by kernel_rfl) ?_ _
    clear hHeld
    go_wp2_with fail
    rw [rounds_succ]
    go_upto_region 4 with (fail)
    refine wp_region_held_drew (S := fun V => Hid (Fr (fun k _ => k = gb) w V)) (by kernel_rfl) (Lib.hid HFe.out.drew) (fun hHeld => ?_)
    simp only [qL, qL1, qL0, qR, qR1, qR0]
    iterate 17
     first
     | refine qt (v := undef) rfl (Or.inr ⟨by rfl, rfl⟩) hHeld ?_
       try simp only [Act.put, qS, qS0, qS1, qG, qG0, qG1, qM0, qM1]
     | refine qt (v := ?_) rfl (Or.inl ⟨by rfl, ?_⟩) hHeld ?_
       rotate_left
       ·intro W hSw
        try simp only [qG, qG0, qG1]
        go_simp
        try rw [if_neg (by omega)]
        try with_reducible rfl
       try simp only [Act.put, qS, qS0, qS1, qG, qG0, qG1, qM0, qM1]
    refine wpAnyH_done (by kernel_rfl) ?_ _
    clear hHeld
    go_wp2_with fail
    rw [rounds_succ]
    go_wp2_with fail
    go_end0
    exact ⟨rfl, by unfold SRs; rw [Hr.out]; exact HSe.out.fr hgE (Fr.refl (M := NoB)).drew (fun _ h => h), HFe.out.drew⟩
   ·try simp only [qG, qG0, qG1]
    rw [if_pos (by rfl)]
    refine wp_load_mid 54 (.tmp 49) (by rfl) gb 97 (by rfl) b.cells.toList d HSd.out.two Hu.out Hd.out Hz2.out ?_
    refine hK.out _ _ trivial (fun hHeld => ?_)
    clear hK K
    try simp only [Act.put, qS, qS0, qS1, qG, qG0, qG1, qM0, qM1]
    refine qr (i := 9) (by kernel_rfl) rfl (fun K hK => ?_)
    try simp only [qG, qG0, qG1]
    rw [if_pos (by rfl)]; refine wp_load_mid 54 (.tmp 45) (by rfl) gb 0 (by rfl) a.cells.toList d HSd.out.one Hu.out Hd.out Hz1.out ?_
    refine hK.out _ _ trivial (fun hHeld => ?_)
    clear hK K
    try simp only [Act.put, qS, qS0, qS1, qG, qG0, qG1, qM0, qM1]
    refine qi (i := 14) (v := ?_) rfl (Or.inl ⟨by rfl, ?_⟩) hHeld ?_
    rotate_left
    ·intro W hSw
     try simp only [qG, qG0, qG1]
     go_simp
     try rw [if_neg (by omega)]
     try with_reducible rfl
    try simp only [Act.put, qS, qS0, qS1, qG, qG0, qG1, qM0, qM1]
    refine qr (i := 15) (by kernel_rfl) rfl (fun K hK => ?_)
    try simp only [qG, qG0, qG1]
    rw [if_pos (by rfl)]; refine wp_store_mid 54 (.tmp 51) (.tmp 46) (by rfl) gb 97 a.cells (by rfl) (by rfl) HT1.out Hq1.out Ho1.out ?_
    refine hK.out _ _ trivial (fun hHeld => ?_)
    clear hK K
    try simp only [Act.put, qS, qS0, qS1, qG, qG0, qG1, qM0, qM1]
    refine qi (i := 16) (v := ?_) rfl (Or.inl ⟨by rfl, ?_⟩) hHeld ?_
    rotate_left
    ·intro W hSw
     try simp only [qG, qG0, qG1]
     go_simp
     try rw [if_neg (by omega)]
     try with_reducible rfl
    try simp only [Act.put, qS, qS0, qS1, qG, qG0, qG1, qM0, qM1]
    refine qr (i := 17) (by kernel_rfl) rfl (fun K hK => ?_)
    try simp only [qG, qG0, qG1]
    rw [if_pos (by rfl)]; refine wp_store_mid 54 (.tmp 52) (.tmp 50) (by rfl) gb 0 b.cells (by rfl) (by rfl) (World.there_setCells HT0.out _ _ _) Hq2.out Ho2.out ?_
    refine hK.out _ _ trivial (fun hHeld => ?_)
    clear hK K
    try simp only [Act.put, qS, qS0, qS1, qG, qG0, qG1, qM0, qM1]
    refine wpAnyH_done (by kernel_rfl) ?_ _
    clear hHeld
    go_wp2_with fail
    rw [rounds_succ]
    go_upto_region 4 with (fail)
    refine wp_region_held_drew (S := fun V => Hid (Fr (fun k _ => k = gb) w V)) (by kernel_rfl) (Lib.hid HFe.out.drew) (fun hHeld => ?_)
    simp only [qL, qL1, qL0, qR, qR1, qR0]
    iterate 17
     first
     | refine qt (v := undef) rfl (Or.inr ⟨by rfl, rfl⟩) hHeld ?_
       try simp only [Act.put, qS, qS0, qS1, qG, qG0, qG1, qM0, qM1]
     | refine qt (v := ?_) rfl (Or.inl ⟨by rfl, ?_⟩) hHeld ?_
       rotate_left
       ·intro W hSw
        try simp only [qG, qG0, qG1]
        go_simp
        try rw [if_neg (by omega)]
        try with_reducible rfl
       try simp only [Act.put, qS, qS0, qS1, qG, qG0, qG1, qM0, qM1]
    refine wpAnyH_done (by kernel_rfl) ?_ _
    clear hHeld
    go_wp2_with fail
    rw [rounds_succ]
    go_wp2_with fail
    go_end0
    exact ⟨rfl, by unfold SRs; rw [Hr.out]; exact HSe.out.fr hgE (Fr.refl (M := NoB)).drew (fun _ h => h), HFe.out.drew⟩
set_option maxRecDepth 100000 in
set_option maxHeartbeats 1000000 in
theorem insertion1_c (ad : Option Addr) (c : Nat) (w : World) :
 Calls Tryz.prog 244 #[.slice ad 1 c, .int .i64 0, .int .i64 1, .func (.func 119) #[] #[]] w fun e w' => e = .returned (.tuple #[]) ∧ Fr NoB w w' := by
 go_enter Tryz.func244, Tryz.ntmps244
 go_wp2_with fail
 refine wp_loop_rounds 1 ?_
 rw [rounds_succ]
 go_wp2_with fail
 go_end0
 exact ⟨rfl, Fr.refl⟩
set_option maxRecDepth 100000 in
set_option maxHeartbeats 1000000 in
theorem pdq1_c (ad : Option Addr) (c : Nat) (lim : Int) (w : World) :
 Calls Tryz.prog 209 #[.slice ad 1 c, .int .i64 0, .int .i64 1, .int .i64 lim, .func (.func 119) #[] #[]] w fun e w' => e = .returned (.tuple #[]) ∧ Fr NoB w w' := by
 have hi := Lib.hid (fun V => insertion1_c ad c V)
 have hw1 : IntKind.i64.wrap 1 = 1 := by rw [IntKind.wrap_i64]; rfl
 go_enter Tryz.func209, Tryz.ntmps209
 go_wp2_with fail
 refine wp_loop_rounds 1 ?_
 rw [rounds_succ]
 go_wp2_with fail
 refine (hi.out _).mono ?_
 rintro e w1 ⟨rfl, hF1⟩
 have HF1 := Lib.hid hF1
 clear hF1
 go_wp2_with fail
 ((try simp only [Exit.inBlock, Exit.then]); refine bodyPost_ret (results_none rfl _ _ _) rfl ?_)
 exact ⟨rfl, HF1.out⟩
set_option maxRecDepth 100000 in
set_option maxHeartbeats 1000000 in
theorem pdq2_c (a b : Sg) (gb c : Nat) (lim : Int) (w : World) (ha : a.ok2) (hb : b.ok2) (h : SR2 gb a b w) (hg : gb < w.heap.size) (hc : 2 ≤ c) :
 Calls Tryz.prog 209 #[.slice (some ⟨gb, 0, none⟩) 2 c, .int .i64 0, .int .i64 2, .int .i64 lim, .func (.func 119) #[] #[]] w fun e w' => e = .returned (.tuple #[]) ∧
  SRs gb a b w' ∧ Fr (fun k _ => k = gb) w w' := by
 have hi := Lib.hid (insertion2_c a b gb c w ha hb h hg hc)
 have hw2 : IntKind.i64.wrap 2 = 2 := by rw [IntKind.wrap_i64]; rfl
 clear h
 go_enter Tryz.func209, Tryz.ntmps209
 go_wp2_with fail
 refine wp_loop_rounds 1 ?_
 rw [rounds_succ]
 go_wp2_with fail
 refine hi.out.mono ?_
 rintro e w1 ⟨rfl, hS1, hF1⟩
 have HF1 := Lib.hid hF1
 have HS1 := Lib.hid hS1
 clear hF1 hS1
 go_wp2_with fail
 ((try simp only [Exit.inBlock, Exit.then]); refine bodyPost_ret (results_none rfl _ _ _) rfl ?_)
 exact ⟨rfl, HS1.out, HF1.out⟩
end Go.Proofs.YtcddlemkimbkcaaGreatDoor
