/-
  The walk of entry.Equal.
-/
import Derived.Test.YtcddlemkimbkcaaGreatDoorKSigEq
import Derived.Test.YtcddlemkimbkcaaGreatDoorKEnAt
import Derived.Test.YtcddlemkimbkcaaGreatDoorKOwnE
import Derived.Test.YtcddlemkimbkcaaGreatDoorKEqB
namespace Go.Proofs.YtcddlemkimbkcaaGreatDoor
set_option linter.unusedVariables false
set_option linter.unusedSimpArgs false
set_option linter.unusedSectionVars false
open Go.RowKit
variable [OldK]
set_option maxRecDepth 100000 in
set_option maxHeartbeats 4000000 in
theorem enEq_c (S S' T T' : Nat → Prop) (a b : En) (pa pb sa sb : Value) (w : World) (oka : a.ok) (okb : b.ok) (ha : SB S a.payload pa w) (hb : SB S' b.payload pb w) (ga : GS T a.sigs sa w) (gb : GS T' b.sigs sb w)
    (hl : a.payload.length ≤ 9007199254740992) (hl2 : a.sigs.length ≤ 1000) :
    Calls Tryz.prog 108 #[.agg (a.cells pa sa).toArray, .agg (b.cells pb sb).toArray] w fun r w' => r = .returned (.bool (enEq a b)) ∧ Fr NoB w w' := by
  obtain ⟨a1, c1, ea⟩ := ha.form
  obtain ⟨a2, c2, eb⟩ := hb.form
  obtain ⟨a3, c3, ec, -⟩ := id ga
  obtain ⟨a4, c4, ed, -⟩ := id gb
  have hR1 : ((w.alloc (.cells (a.cells pa sa).toArray 39)).alloc (.cells (b.cells pb sb).toArray 39)).rangeAt w.heap.size 0 (a.cells pa sa) := World.rangeAt_alloc (by simpa using range_block (heap_alloc_new w (.cells (a.cells pa sa).toArray 39))) _
  have hR2 : ((w.alloc (.cells (a.cells pa sa).toArray 39)).alloc (.cells (b.cells pb sb).toArray 39)).rangeAt (w.heap.size + 1) 0 (b.cells pb sb) := by
    have := range_block (heap_alloc_new (w.alloc (.cells (a.cells pa sa).toArray 39)) (.cells (b.cells pb sb).toArray 39))
    rw [World.size_alloc] at this
    simpa using this
  have hF : Fr NoB w ((w.alloc (.cells (a.cells pa sa).toArray 39)).alloc (.cells (b.cells pb sb).toArray 39)) := (Fr.refl.alloc _).alloc _
  obtain ⟨p0, p1, p33, p34, p35, p36, p37, p69⟩ := En.parts oka hR1
  obtain ⟨q0, q1, q33, q34, q35, q36, q37, q69⟩ := En.parts okb hR2
  obtain ⟨R, hRv⟩ : ∃ R, enEq a b = R := ⟨_, rfl⟩
  rw [hRv]
  have HRv := Lib.hid hRv
  have heqb := fun W (h : Fr NoB w W) => equal_c S S' a.payload b.payload pa pb W (ha.fr h (fun _ _ _ _ h => h)) (hb.fr h (fun _ _ _ _ h => h)) hl
  have heqs := fun W (h : Fr NoB w W) => sgs_gs_c (ga.fr h (fun _ _ _ h => h)) (gb.fr h (fun _ _ _ h => h)) hl2 oka.2.2 okb.2.2
  obtain ⟨cs, hcs⟩ : ∃ cs, (a.cells pa sa).toArray = cs := ⟨_, rfl⟩
  obtain ⟨ct, hct⟩ : ∃ ct, (b.cells pb sb).toArray = ct := ⟨_, rfl⟩
  rw [hcs, hct] at hF p0 p1 p33 p34 p35 p36 p37 p69 q0 q1 q33 q34 q35 q36 q37 q69 ⊢
  clear hcs hct hRv hR1 hR2 ha hb ga gb
  go_enter Tryz.func108, Tryz.ntmps108
  go_upto_region 1 with (fail)
  change Code.wp _ _ _ _ ((w.alloc (.cells cs 39)).alloc (.cells ct 39))
  obtain ⟨W, hW⟩ : ∃ W, (w.alloc (.cells cs 39)).alloc (.cells ct 39) = W := ⟨_, rfl⟩
  rw [hW] at hF p0 p1 p33 p34 p35 p36 p37 p69 q0 q1 q33 q34 q35 q36 q37 q69 ⊢
  obtain ⟨p, hpp⟩ : ∃ p, w.heap.size = p := ⟨_, rfl⟩
  obtain ⟨q, hq⟩ : ∃ q, p + 1 = q := ⟨_, rfl⟩
  rw [hpp] at p0 p1 p33 p34 p35 p36 p37 p69 q0 q1 q33 q34 q35 q36 q37 q69
  rw [hpp, hq]
  rw [hq] at q0 q1 q33 q34 q35 q36 q37 q69
  clear hW hpp hq
  have HF := Lib.hid hF
  have Heqb := Lib.hid heqb
  have Heqs := Lib.hid heqs
  have Hoa := Lib.hid oka
  have Hob := Lib.hid okb
  clear hF heqb heqs oka okb hl hl2
  obtain ⟨k, dg, ty, pl, op, idn, ky, sg⟩ := a
  obtain ⟨k2, dg2, ty2, pl2, op2, idn2, ky2, sg2⟩ := b
  simp only at p0 p1 p33 p34 p35 p36 p37 p69 q0 q1 q33 q34 q35 q36 q37 q69 ea eb ec ed
  subst ea eb ec ed
  obtain ⟨b1, hb1⟩ : ∃ x, (k == k2) = x := ⟨_, rfl⟩
  obtain ⟨b2, hb2⟩ : ∃ x, (dg == dg2) = x := ⟨_, rfl⟩
  obtain ⟨b3, hb3⟩ : ∃ x, (ty == ty2) = x := ⟨_, rfl⟩
  obtain ⟨b4, hb4⟩ : ∃ x, (pl == pl2) = x := ⟨_, rfl⟩
  obtain ⟨b5, hb5⟩ : ∃ x, (op == op2) = x := ⟨_, rfl⟩
  obtain ⟨b6, hb6⟩ : ∃ x, (idn == idn2) = x := ⟨_, rfl⟩
  obtain ⟨b7, hb7⟩ : ∃ x, (ky == ky2) = x := ⟨_, rfl⟩
  obtain ⟨b8, hb8⟩ : ∃ x, sgsEq sg sg2 = x := ⟨_, rfl⟩
  have hd1 : decide (k = k2) = b1 := hb1
  have hd5 : decide (op = op2) = b5 := hb5
  have HP : Hid ((b1 && (b2 && (b3 && (b4 && (b5 && (b6 && (b7 && b8))))))) = R) := Lib.hid (by
    have := HRv.out
    unfold enEq at this
    simp only at this
    rwa [hd1, hb2, hb3, hb4, hd5, hb6, hb7, hb8] at this)
  have e2 := eqIn_sum dg dg2 Hoa.out.1 Hob.out.1
  have e7 := eqIn_key ky ky2 Hoa.out.2.1 Hob.out.2.1
  have heqb := Heqb.out
  have heqs := Heqs.out
  simp only at heqb heqs
  rw [hb2] at e2
  rw [hb7] at e7
  rw [hb4] at heqb
  rw [hb8] at heqs
  have E2 := Lib.hid e2
  have E7 := Lib.hid e7
  have Heqb2 := Lib.hid heqb
  have Heqs2 := Lib.hid heqs
  have R1 := Lib.hid p1
  have R2 := Lib.hid q1
  have R3 := Lib.hid p37
  have R4 := Lib.hid q37
  have Z1 := Lib.hid (show (Tryz.prog.info? 23).map (·.size) = some (Lib.byteCells dg).length by rw [Tryz.sizeSum, byteCells_len, Hoa.out.1])
  have Z2 := Lib.hid (show (Tryz.prog.info? 23).map (·.size) = some (Lib.byteCells dg2).length by rw [Tryz.sizeSum, byteCells_len, Hob.out.1])
  have Z3 := Lib.hid (show (Tryz.prog.info? 24).map (·.size) = some (Lib.byteCells ky).length by rw [Tryz.sizeKey, byteCells_len, Hoa.out.2.1])
  have Z4 := Lib.hid (show (Tryz.prog.info? 24).map (·.size) = some (Lib.byteCells ky2).length by rw [Tryz.sizeKey, byteCells_len, Hob.out.2.1])
  clear p1 q1 p37 q37 HRv hd1 hd5 hb2 hb4 hb7 hb8 e2 e7 heqb heqs Heqb Heqs Hoa Hob
  cases b1
  · go_wp2_with fail
    go_ret
    exact ⟨ret_bool HP.out, HF.out⟩
  have e2 := E2.out
  cases b2
  · go_wp2_with (first | ((with_reducible refine wpList_load_g 23 _ rfl p 1 ?_ (Lib.byteCells dg) _ R1.out Tryz.underSum ?_ Z1.out ?_ ?_); rfl; rfl; rfl) | ((with_reducible refine wpList_load_g 23 _ rfl q 1 ?_ (Lib.byteCells dg2) _ R2.out Tryz.underSum ?_ Z2.out ?_ ?_); rfl; rfl; rfl))
    go_ret
    exact ⟨ret_bool HP.out, HF.out⟩
  cases b3
  · go_wp2_with (first | ((with_reducible refine wpList_load_g 23 _ rfl p 1 ?_ (Lib.byteCells dg) _ R1.out Tryz.underSum ?_ Z1.out ?_ ?_); rfl; rfl; rfl) | ((with_reducible refine wpList_load_g 23 _ rfl q 1 ?_ (Lib.byteCells dg2) _ R2.out Tryz.underSum ?_ Z2.out ?_ ?_); rfl; rfl; rfl))
    go_ret
    exact ⟨ret_bool HP.out, HF.out⟩
  go_wp2_with (first | ((with_reducible refine wpList_load_g 23 _ rfl p 1 ?_ (Lib.byteCells dg) _ R1.out Tryz.underSum ?_ Z1.out ?_ ?_); rfl; rfl; rfl) | ((with_reducible refine wpList_load_g 23 _ rfl q 1 ?_ (Lib.byteCells dg2) _ R2.out Tryz.underSum ?_ Z2.out ?_ ?_); rfl; rfl; rfl))
  refine (Heqb2.out _ HF.out).mono ?_
  rintro e w1 ⟨rfl, n1, hw1⟩
  have hF1 : Fr NoB W w1 := by rw [hw1]; exact drewN_fr W n1
  have x35 := Fr.cell hF1 p35
  have x36 := Fr.cell hF1 p36
  have x69 := Fr.cell hF1 p69
  have y35 := Fr.cell hF1 q35
  have y36 := Fr.cell hF1 q36
  have y69 := Fr.cell hF1 q69
  have X3 := Lib.hid (range_fr R3.out hF1 (World.block_lt_of_cell? _ _ p35) (fun _ h => h))
  have X4 := Lib.hid (range_fr R4.out hF1 (World.block_lt_of_cell? _ _ q35) (fun _ h => h))
  have HF1 := Lib.hid (HF.out.trans' hF1)
  clear R1 R2 R3 R4 hw1 hF1 p0 p33 p34 p35 p36 p69 q0 q33 q34 q35 q36 q69 e2 E2 Z1 Z2 HF
  have R3 := X3
  have R4 := X4
  have HF := HF1
  clear X3 X4 HF1
  cases b4
  · go_wp2_with fail
    go_ret
    exact ⟨ret_bool HP.out, HF.out⟩
  cases b5
  · go_wp2_with fail
    go_ret
    exact ⟨ret_bool HP.out, HF.out⟩
  cases b6
  · go_wp2_with fail
    go_ret
    exact ⟨ret_bool HP.out, HF.out⟩
  have e7 := E7.out
  cases b7
  · go_wp2_with (first | ((with_reducible refine wpList_load_g 24 _ rfl p 37 ?_ (Lib.byteCells ky) _ R3.out Tryz.underKey ?_ Z3.out ?_ ?_); rfl; rfl; rfl) | ((with_reducible refine wpList_load_g 24 _ rfl q 37 ?_ (Lib.byteCells ky2) _ R4.out Tryz.underKey ?_ Z4.out ?_ ?_); rfl; rfl; rfl))
    go_ret
    exact ⟨ret_bool HP.out, HF.out⟩
  go_wp2_with (first | ((with_reducible refine wpList_load_g 24 _ rfl p 37 ?_ (Lib.byteCells ky) _ R3.out Tryz.underKey ?_ Z3.out ?_ ?_); rfl; rfl; rfl) | ((with_reducible refine wpList_load_g 24 _ rfl q 37 ?_ (Lib.byteCells ky2) _ R4.out Tryz.underKey ?_ Z4.out ?_ ?_); rfl; rfl; rfl))
  refine (Heqs2.out _ HF.out).mono ?_
  rintro e w2 ⟨rfl, hF2⟩
  have HF2 := Lib.hid (HF.out.trans' hF2)
  clear hF2
  go_wp2_with fail
  go_ret
  exact ⟨ret_bool HP.out, HF2.out⟩
end Go.Proofs.YtcddlemkimbkcaaGreatDoor
