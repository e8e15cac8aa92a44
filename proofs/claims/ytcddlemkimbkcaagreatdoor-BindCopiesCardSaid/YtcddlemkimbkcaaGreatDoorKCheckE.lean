/-
 The walk of slices.Equal at bytes.
-/
import Derived.Test.YtcddlemkimbkcaaGreatDoorKOwn
import Derived.Deep.LoopGhost
import Derived.Deep.QuietTactic
import Derived.BigQuiet
import Derived.KernelRfl
import Derived.Test.YtcddlemkimbkcaaGreatDoorKSigEq
import Derived.Test.YtcddlemkimbkcaaGreatDoorKEnAt
import Derived.Test.YtcddlemkimbkcaaGreatDoorKOwnE
import Derived.OrdersHeld
import Derived.Deep.RegionHeld3
namespace Go.Proofs.YtcddlemkimbkcaaGreatDoor
set_option linter.unusedVariables false
set_option linter.unusedSimpArgs false
set_option linter.unusedSectionVars false
open Go.RowKit
variable [OldK]
theorem SB.drewN {S : Nat → Prop} {l : Bs} {v : Value} {w : World} (h : SB S l v w) (q : Nat) : SB S l v (w.drewN q) := h.fr (drewN_fr w q) (fun _ _ _ _ h => h)

set_option maxRecDepth 100000 in
set_option maxHeartbeats 1000000 in
theorem equal_c (S S' : Nat → Prop) (l m : Bs) (v u : Value) (w : World) (hv : SB S l v w) (hu : SB S' m u w) (hl : l.length ≤ 9007199254740992) :
 Calls Tryz.prog 161 #[v, u] w fun e w' => e = .returned (.bool (l == m)) ∧ ∃ q, w' = w.drewN q := by
 obtain ⟨a1, c1, hv1⟩ := hv.form
 obtain ⟨a2, c2, hu1⟩ := hu.form
 by_cases hlm : l.length = m.length
 ·generalize hR : (l == m) = R
  have HR := Lib.hid hR
  subst hv1 hu1
  have Hv := Lib.hid hv
  have Hu := Lib.hid hu
  have Hlm := Lib.hid hlm
  rw [← hlm]
  clear hR hv hu hlm
  go_enter Tryz.func161, Tryz.ntmps161
  go_wp2_with fail
  go_loopg [13] (l.length + 1) (fun g vi wr => ∃ (i q : Nat), vi = .int .i64 i ∧ i ≤ l.length ∧ i + g = l.length + 1 ∧ Hid (wr = w.drewN q) ∧ Hid ((l.drop i == m.drop i) = R))
  case atStart => exact ⟨0, 0, rfl, by omega, by omega, (World.drewN_zero _).symm, HR⟩
  case round =>
   obtain ⟨i, q, rfl, hi, hgk, Hw, HS⟩ := hrel
   rcases Nat.lt_or_ge i l.length with hlt | hge
   ·obtain ⟨x, hx⟩ : ∃ x, l[i]? = some x := ⟨_, List.getElem?_eq_getElem hlt⟩
    obtain ⟨y, hy⟩ : ∃ y, m[i]? = some y := ⟨_, List.getElem?_eq_getElem (by have := Hlm.out; omega)⟩
    have hvw := Hv.out.drewN q
    have huw := Hu.out.drewN q
    rw [← Hw.out] at hvw huw
    obtain ⟨b1, o1, cap1, hv1, k1⟩ := hvw.at hx
    obtain ⟨b2, o2, cap2, hu1, k2⟩ := huw.at hy
    obtain ⟨rfl, rfl⟩ : a1 = some ⟨b1, o1, none⟩ ∧ c1 = cap1 := by simpa using hv1
    obtain ⟨rfl, rfl⟩ : a2 = some ⟨b2, o2, none⟩ ∧ c2 = cap2 := by simpa using hu1
    have hS := HS.out
    rw [drop_at hx, drop_at hy, List.cons_beq_cons] at hS
    have hxy : ((x.toNat : Int) != (y.toNat : Int)) = !(x == y) := by
     rw [Bool.eq_iff_iff]
     simp only [bne_iff_ne, ne_eq, Bool.not_eq_true', beq_eq_false_iff_ne]
     constructor
     ·intro h e; exact h (by rw [e])
     ·intro h e; exact h (UInt8.toNat_inj.1 (by omega))
    cases hbe : (x == y) with
    | true =>
      rw [hbe] at hS hxy
      simp only [Bool.true_and] at hS
      have HS2 := Lib.hid hS
      clear hS HS hbe hvw huw hx hy hv1 hu1
      go_wp2_with fail
      go_quiet (fail)
      go_wp2_with fail
      go_roundg (gk - 1)
      case measure => omega
      case rel => exact ⟨i + 1, q + nq, by simp, by omega, by omega, Lib.hid (by rw [Hw.out, World.drewN_drewN]), HS2⟩
    | false =>
      rw [hbe] at hS hxy
      simp only [Bool.false_and] at hS
      have HS2 := Lib.hid hS
      clear hS HS hbe hvw huw hx hy hv1 hu1
      go_wp2_with fail
      go_quiet (fail)
      go_wp2_with fail
      go_ret
      rw [← HS2.out, Hw.out, World.drewN_drewN]
      exact ⟨rfl, _, rfl⟩
   ·obtain rfl : i = l.length := by omega
    have hS := HS.out
    rw [List.drop_length, Hlm.out, List.drop_length] at hS
    have HS2 := Lib.hid hS
    clear hS HS
    go_wp2_with fail
    go_ret
    rw [← HS2.out, Hw.out]
    exact ⟨rfl, q, rfl⟩
 ·have hne : (l == m) = false := by
   rw [beq_eq_false_iff_ne]
   rintro rfl
   exact hlm rfl
  have hln : ((l.length : Int) != (m.length : Int)) = true := by
   rw [bne_iff_ne]
   omega
  rw [hne]
  subst hv1 hu1
  clear hv hu hne
  go_enter Tryz.func161, Tryz.ntmps161
  go_wp2_with fail
  go_ret
  exact ⟨rfl, 0, (World.drewN_zero _).symm⟩
end Go.Proofs.YtcddlemkimbkcaaGreatDoor
namespace Go.Proofs.YtcddlemkimbkcaaGreatDoor
set_option linter.unusedVariables false
set_option linter.unusedSimpArgs false
set_option linter.unusedSectionVars false
open Go.RowKit
variable [OldK]
set_option maxRecDepth 100000 in
set_option maxHeartbeats 4000000 in
theorem enEq_c (S S' T T' : Nat → Prop) (a b : En) (pa pb sa sb : Value) (w : World) (oka : a.ok) (okb : b.ok) (ha : SB S a.payload pa w) (hb : SB S' b.payload pb w) (ga : GS T a.sigs sa w) (gb : GS T' b.sigs sb w)
 (hl : a.payload.length ≤ 9007199254740992) (hl2 : a.sigs.length ≤ 1000) :
 Calls Tryz.prog 108 #[.agg (a.cells pa sa).toArray, .agg (b.cells pb sb).toArray] w fun r w' => r = .returned (.bool (enEq a b)) ∧ Fr NoB w w' := by
 obtain ⟨a1, c1, ea⟩ := ha.form
 obtain ⟨a2, c2, eb⟩ := hb.form
 obtain ⟨a3, c3, ec, -⟩ := id ga
 obtain ⟨a4, c4, ed, -⟩ := id gb
 have hR1 : ((w.alloc (.cells (a.cells pa sa).toArray 39)).alloc (.cells (b.cells pb sb).toArray 39)).rangeAt w.heap.size 0 (a.cells pa sa) := World.rangeAt_alloc (by simpa using range_block (heap_alloc_new w (.cells (a.cells pa sa).toArray 39))) _
 have hR2 : ((w.alloc (.cells (a.cells pa sa).toArray 39)).alloc (.cells (b.cells pb sb).toArray 39)).rangeAt (w.heap.size + 1) 0 (b.cells pb sb) := by
  have := range_block (heap_alloc_new (w.alloc (.cells (a.cells pa sa).toArray 39)) (.cells (b.cells pb sb).toArray 39))
  rw [World.size_alloc] at this
  simpa using this
 have hF : Fr NoB w ((w.alloc (.cells (a.cells pa sa).toArray 39)).alloc (.cells (b.cells pb sb).toArray 39)) := (Fr.refl.alloc _).alloc _
 obtain ⟨p0, p1, p33, p34, p35, p36, p37, p69⟩ := En.parts oka hR1
 obtain ⟨q0, q1, q33, q34, q35, q36, q37, q69⟩ := En.parts okb hR2
 obtain ⟨R, hRv⟩ : ∃ R, enEq a b = R := ⟨_, rfl⟩
 rw [hRv]
 have HRv := Lib.hid hRv
 have heqb := fun W (h : Fr NoB w W) => equal_c S S' a.payload b.payload pa pb W (ha.fr h (fun _ _ _ _ h => h)) (hb.fr h (fun _ _ _ _ h => h)) hl
 have heqs := fun W (h : Fr NoB w W) => sgs_gs_c (ga.fr h (fun _ _ _ h => h)) (gb.fr h (fun _ _ _ h => h)) hl2 oka.2.2 okb.2.2
 obtain ⟨cs, hcs⟩ : ∃ cs, (a.cells pa sa).toArray = cs := ⟨_, rfl⟩
 obtain ⟨ct, hct⟩ : ∃ ct, (b.cells pb sb).toArray = ct := ⟨_, rfl⟩
 rw [hcs, hct] at hF p0 p1 p33 p34 p35 p36 p37 p69 q0 q1 q33 q34 q35 q36 q37 q69 ⊢
 clear hcs hct hRv hR1 hR2 ha hb ga gb
 go_enter Tryz.func108, Tryz.ntmps108
 go_upto_region 1 with (fail)
 change Code.wp _ _ _ _ ((w.alloc (.cells cs 39)).alloc (.cells ct 39))
 obtain ⟨W, hW⟩ : ∃ W, (w.alloc (.cells cs 39)).alloc (.cells ct 39) = W := ⟨_, rfl⟩
 rw [hW] at hF p0 p1 p33 p34 p35 p36 p37 p69 q0 q1 q33 q34 q35 q36 q37 q69 ⊢
 obtain ⟨p, hpp⟩ : ∃ p, w.heap.size = p := ⟨_, rfl⟩
 obtain ⟨q, hq⟩ : ∃ q, p + 1 = q := ⟨_, rfl⟩
 rw [hpp] at p0 p1 p33 p34 p35 p36 p37 p69 q0 q1 q33 q34 q35 q36 q37 q69
 rw [hpp, hq]
 rw [hq] at q0 q1 q33 q34 q35 q36 q37 q69
 clear hW hpp hq
 have HF := Lib.hid hF
 have Heqb := Lib.hid heqb
 have Heqs := Lib.hid heqs
 have Hoa := Lib.hid oka
 have Hob := Lib.hid okb
 clear hF heqb heqs oka okb hl hl2
 obtain ⟨k, dg, ty, pl, op, idn, ky, sg⟩ := a
 obtain ⟨k2, dg2, ty2, pl2, op2, idn2, ky2, sg2⟩ := b
 simp only at p0 p1 p33 p34 p35 p36 p37 p69 q0 q1 q33 q34 q35 q36 q37 q69 ea eb ec ed
 subst ea eb ec ed
 obtain ⟨b1, hb1⟩ : ∃ x, (k == k2) = x := ⟨_, rfl⟩
 obtain ⟨b2, hb2⟩ : ∃ x, (dg == dg2) = x := ⟨_, rfl⟩
 obtain ⟨b3, hb3⟩ : ∃ x, (ty == ty2) = x := ⟨_, rfl⟩
 obtain ⟨b4, hb4⟩ : ∃ x, (pl == pl2) = x := ⟨_, rfl⟩
 obtain ⟨b5, hb5⟩ : ∃ x, (op == op2) = x := ⟨_, rfl⟩
 obtain ⟨b6, hb6⟩ : ∃ x, (idn == idn2) = x := ⟨_, rfl⟩
 obtain ⟨b7, hb7⟩ : ∃ x, (ky == ky2) = x := ⟨_, rfl⟩
 obtain ⟨b8, hb8⟩ : ∃ x, sgsEq sg sg2 = x := ⟨_, rfl⟩
 have hd1 : decide (k = k2) = b1 := hb1
 have hd5 : decide (op = op2) = b5 := hb5
 have HP : Hid ((b1 && (b2 && (b3 && (b4 && (b5 && (b6 && (b7 && b8))))))) = R) := Lib.hid (by
  have := HRv.out
  unfold enEq at this
  simp only at this
  rwa [hd1, hb2, hb3, hb4, hd5, hb6, hb7, hb8] at this)
 have e2 := eqIn_sum dg dg2 Hoa.out.1 Hob.out.1
 have e7 := eqIn_key ky ky2 Hoa.out.2.1 Hob.out.2.1
 have heqb := Heqb.out
 have heqs := Heqs.out
 simp only at heqb heqs
 rw [hb2] at e2
 rw [hb7] at e7
 rw [hb4] at heqb
 rw [hb8] at heqs
 have E2 := Lib.hid e2
 have E7 := Lib.hid e7
 have Heqb2 := Lib.hid heqb
 have Heqs2 := Lib.hid heqs
 have R1 := Lib.hid p1
 have R2 := Lib.hid q1
 have R3 := Lib.hid p37
 have R4 := Lib.hid q37
 have Z1 := Lib.hid (show (Tryz.prog.info? 23).map (·.size) = some (Lib.byteCells dg).length by rw [Tryz.sizeSum, byteCells_len, Hoa.out.1])
 have Z2 := Lib.hid (show (Tryz.prog.info? 23).map (·.size) = some (Lib.byteCells dg2).length by rw [Tryz.sizeSum, byteCells_len, Hob.out.1])
 have Z3 := Lib.hid (show (Tryz.prog.info? 24).map (·.size) = some (Lib.byteCells ky).length by rw [Tryz.sizeKey, byteCells_len, Hoa.out.2.1])
 have Z4 := Lib.hid (show (Tryz.prog.info? 24).map (·.size) = some (Lib.byteCells ky2).length by rw [Tryz.sizeKey, byteCells_len, Hob.out.2.1])
 clear p1 q1 p37 q37 HRv hd1 hd5 hb2 hb4 hb7 hb8 e2 e7 heqb heqs Heqb Heqs Hoa Hob
 cases b1
 ·go_wp2_with fail
  go_ret
  exact ⟨ret_bool HP.out, HF.out⟩
 have e2 := E2.out
 cases b2
 ·go_wp2_with (first | ((with_reducible refine wpList_load_g 23 _ rfl p 1 ?_ (Lib.byteCells dg) _ R1.out Tryz.underSum ?_ Z1.out ?_ ?_); rfl; rfl; rfl) | ((with_reducible refine wpList_load_g 23 _ rfl q 1 ?_ (Lib.byteCells dg2) _ R2.out Tryz.underSum ?_ Z2.out ?_ ?_); rfl; rfl; rfl))
  go_ret
  exact ⟨ret_bool HP.out, HF.out⟩
 cases b3
 ·go_wp2_with (first | ((with_reducible refine wpList_load_g 23 _ rfl p 1 ?_ (Lib.byteCells dg) _ R1.out Tryz.underSum ?_ Z1.out ?_ ?_); rfl; rfl; rfl) | ((with_reducible refine wpList_load_g 23 _ rfl q 1 ?_ (Lib.byteCells dg2) _ R2.out Tryz.underSum ?_ Z2.out ?_ ?_); rfl; rfl; rfl))
  go_ret
  exact ⟨ret_bool HP.out, HF.out⟩
 go_wp2_with (first | ((with_reducible refine wpList_load_g 23 _ rfl p 1 ?_ (Lib.byteCells dg) _ R1.out Tryz.underSum ?_ Z1.out ?_ ?_); rfl; rfl; rfl) | ((with_reducible refine wpList_load_g 23 _ rfl q 1 ?_ (Lib.byteCells dg2) _ R2.out Tryz.underSum ?_ Z2.out ?_ ?_); rfl; rfl; rfl))
 refine (Heqb2.out _ HF.out).mono ?_
 rintro e w1 ⟨rfl, n1, hw1⟩
 have hF1 : Fr NoB W w1 := by rw [hw1]; exact drewN_fr W n1
 have x35 := Fr.cell hF1 p35
 have x36 := Fr.cell hF1 p36
 have x69 := Fr.cell hF1 p69
 have y35 := Fr.cell hF1 q35
 have y36 := Fr.cell hF1 q36
 have y69 := Fr.cell hF1 q69
 have X3 := Lib.hid (range_fr R3.out hF1 (World.block_lt_of_cell? _ _ p35) (fun _ h => h))
 have X4 := Lib.hid (range_fr R4.out hF1 (World.block_lt_of_cell? _ _ q35) (fun _ h => h))
 have HF1 := Lib.hid (HF.out.trans' hF1)
 clear R1 R2 R3 R4 hw1 hF1 p0 p33 p34 p35 p36 p69 q0 q33 q34 q35 q36 q69 e2 E2 Z1 Z2 HF
 have R3 := X3
 have R4 := X4
 have HF := HF1
 clear X3 X4 HF1
 cases b4
 ·go_wp2_with fail
  go_ret
  exact ⟨ret_bool HP.out, HF.out⟩
 cases b5
 ·go_wp2_with fail
  go_ret
  exact ⟨ret_bool HP.out, HF.out⟩
 cases b6
 ·go_wp2_with fail
  go_ret
  exact ⟨ret_bool HP.out, HF.out⟩
 have e7 := E7.out
 cases b7
 ·go_wp2_with (first | ((with_reducible refine wpList_load_g 24 _ rfl p 37 ?_ (Lib.byteCells ky) _ R3.out Tryz.underKey ?_ Z3.out ?_ ?_); rfl; rfl; rfl) | ((with_reducible refine wpList_load_g 24 _ rfl q 37 ?_ (Lib.byteCells ky2) _ R4.out Tryz.underKey ?_ Z4.out ?_ ?_); rfl; rfl; rfl))
  go_ret
  exact ⟨ret_bool HP.out, HF.out⟩
 go_wp2_with (first | ((with_reducible refine wpList_load_g 24 _ rfl p 37 ?_ (Lib.byteCells ky) _ R3.out Tryz.underKey ?_ Z3.out ?_ ?_); rfl; rfl; rfl) | ((with_reducible refine wpList_load_g 24 _ rfl q 37 ?_ (Lib.byteCells ky2) _ R4.out Tryz.underKey ?_ Z4.out ?_ ?_); rfl; rfl; rfl))
 refine (Heqs2.out _ HF.out).mono ?_
 rintro e w2 ⟨rfl, hF2⟩
 have HF2 := Lib.hid (HF.out.trans' hF2)
 clear hF2
 go_wp2_with fail
 go_ret
 exact ⟨ret_bool HP.out, HF2.out⟩
end Go.Proofs.YtcddlemkimbkcaaGreatDoor
namespace Go.Proofs.YtcddlemkimbkcaaGreatDoor
set_option linter.unusedVariables false
set_option linter.unusedSimpArgs false
set_option linter.unusedSectionVars false
open Go.RowKit
variable [OldK]
theorem enOnly_cells (k : Int) (l : List Sg) (a : Option Addr) (n c : Nat) : ((enOnly k l).cells (.slice none 0 0) (.slice a n c)).toArray =
 #[.int .i64 k, .int .u8 0, .int .u8 0, .int .u8 0, .int .u8 0, .int .u8 0, .int .u8 0, .int .u8 0, .int .u8 0, .int .u8 0, .int .u8 0, .int .u8 0, .int .u8 0, .int .u8 0, .int .u8 0, .int .u8 0, .int .u8 0, .int .u8 0, .int .u8 0, .int .u8 0, .int .u8 0, .int .u8 0, .int .u8 0, .int .u8 0, .int .u8 0, .int .u8 0, .int .u8 0, .int .u8 0, .int .u8 0, .int .u8 0, .int .u8 0, .int .u8 0, .int .u8 0, .string ⟨#[]⟩, .slice none 0 0, .int .i64 0, .string ⟨#[]⟩, .int .u8 0, .int .u8 0, .int .u8 0, .int .u8 0, .int .u8 0, .int .u8 0, .int .u8 0, .int .u8 0, .int .u8 0, .int .u8 0, .int .u8 0, .int .u8 0, .int .u8 0, .int .u8 0, .int .u8 0, .int .u8 0, .int .u8 0, .int .u8 0, .int .u8 0, .int .u8 0, .int .u8 0, .int .u8 0, .int .u8 0, .int .u8 0, .int .u8 0, .int .u8 0, .int .u8 0, .int .u8 0, .int .u8 0, .int .u8 0, .int .u8 0, .int .u8 0, .slice a n c] := rfl
theorem pBlank_sigs (e : En) : (pBlank e).sigs = e.sigs := by
 unfold pBlank
 repeat' split
 all_goals rfl
theorem pBlank_len (e : En) : (pBlank e).payload.length ≤ e.payload.length := by
 unfold pBlank
 repeat' split
 all_goals simp
theorem pBlank_pay {S : Nat → Prop} {e : En} {pv : Value} {w : World} (h : SB S e.payload pv w) : SB S (pBlank e).payload (bPay e pv) w := by
 unfold pBlank bPay
 by_cases h1 : e.kind = 1
 ·rw [if_pos h1, if_neg (show ¬ (e.kind = 2 ∨ e.kind = 3) by omega)]; exact h
 by_cases h2 : e.kind = 2
 ·rw [if_neg h1, if_pos h2, if_pos (.inl h2)]; exact SB.nil S w 0
 by_cases h3 : e.kind = 3
 ·rw [if_neg h1, if_neg h2, if_pos h3, if_pos (.inr h3)]; exact SB.nil S w 0
 by_cases h4 : e.kind = 4
 ·rw [if_neg h1, if_neg h2, if_neg h3, if_pos h4, if_neg (show ¬ (e.kind = 2 ∨ e.kind = 3) by omega)]; exact h
 ·rw [if_neg h1, if_neg h2, if_neg h3, if_neg h4, if_neg (show ¬ (e.kind = 2 ∨ e.kind = 3) by omega)]; exact h
/-- what Check answers -/
def chkV (b : Bool) : Value := if b then .nilIface else .iface 56 (.int .i64 11)
set_option maxRecDepth 100000 in
set_option maxHeartbeats 4000000 in
theorem checkE_c (sub : Bs → Bool) (S S' : Nat → Prop) (e : En) (pv sv : Value) (w : World) (hok : e.ok) (hb : SB S e.payload pv w) (hg : GS S' e.sigs sv w) (hsub : SubC sub e pv w)
 (hty : e.typ.length ≤ 1000000) (hid : e.ident.length ≤ 1000000) (hpl : e.payload.length ≤ 1000000000) (hsl : e.sigs.length ≤ 1000) (hsi : ∀ s ∈ e.sigs, s.id.length ≤ 1000000) :
 Calls Tryz.prog 59 #[.agg (e.cells pv sv).toArray] w fun r w' => r = .returned (chkV (pEntry sub e)) ∧ Fr NoB w w' := by
 obtain ⟨a1, c1, ea⟩ := hb.form
 obtain ⟨a3, c3, rfl, -⟩ := id hg
 have hp1 : pv.oneCell' = true := by rw [ea]; rfl
 have hs1 : (Value.slice a3 e.sigs.length c3).oneCell' = true := rfl
 have hR : (w.alloc (.cells (e.cells pv (.slice a3 e.sigs.length c3)).toArray 39)).rangeAt w.heap.size 0 (e.cells pv (.slice a3 e.sigs.length c3)) := by simpa using range_block (heap_alloc_new w (.cells (e.cells pv (.slice a3 e.sigs.length c3)).toArray 39))
 have hF : Fr NoB w (w.alloc (.cells (e.cells pv (.slice a3 e.sigs.length c3)).toArray 39)) := Fr.refl.alloc _
 obtain ⟨c0, -, -, -, -, -, -, c69⟩ := En.parts hok hR
 have hown := fun V (h : Fr NoB w V) => own_c sub e a1 c1 (.slice a3 e.sigs.length c3) V hok (by rw [← ea]; exact hsub.fr h) hty hid hpl
 rw [← ea] at hown
 have hsig := fun V (h : Fr NoB w V) => signed_gs (hg.fr h (fun _ _ _ h => h)) hsl (fun s hs => ⟨hok.2.2 s hs, hsi s hs⟩)
 have hbl := fun V => blank_c e pv (.slice a3 e.sigs.length c3) V hok hp1 hs1
 have heq := fun V (h : Fr NoB w V) => enEq_c S S S' S' (pBlank e) (enOnly e.kind e.sigs) (bPay e pv) (.slice none 0 0) (.slice a3 e.sigs.length c3) (.slice a3 e.sigs.length c3) V (pBlank_ok hok) (enOnly_ok hok.2.2) (pBlank_pay (hb.fr h (fun _ _ _ _ h => h))) (SB.nil S V 0)
  (by rw [pBlank_sigs]; exact hg.fr h (fun _ _ _ h => h)) (hg.fr h (fun _ _ _ h => h)) (by have := pBlank_len e; omega) (by rw [pBlank_sigs]; exact hsl)
 have hsz := En.size hok pv (.slice a3 e.sigs.length c3)
 obtain ⟨d, hu, hd⟩ := Tryz.rowEntry
 have hz : (Tryz.prog.info? 39).map (·.size) = some (e.cells pv (.slice a3 e.sigs.length c3)).length := by rw [Tryz.sizeEntry, hsz]
 obtain ⟨R, hRv⟩ : ∃ R, pEntry sub e = R := ⟨_, rfl⟩
 obtain ⟨b1, hb1⟩ : ∃ x, pOwn sub e = x := ⟨_, rfl⟩
 obtain ⟨b2, hb2⟩ : ∃ x, pSigned e.sigs = x := ⟨_, rfl⟩
 obtain ⟨b3, hb3⟩ : ∃ x, enEq (pBlank e) (enOnly e.kind e.sigs) = x := ⟨_, rfl⟩
 have HP : Hid ((b1 && (b2 && b3)) = R) := Lib.hid (by rw [← hRv, ← hb1, ← hb2, ← hb3]; rfl)
 obtain ⟨k, hk⟩ : ∃ k, e.kind = k := ⟨_, rfl⟩
 rw [hk] at heq
 simp only [enOnly_cells] at heq
 rw [hb1] at hown
 rw [hb2] at hsig
 rw [hk] at hb3
 rw [hk] at c0
 rw [hRv]
 obtain ⟨CB, hCB⟩ : ∃ C, ((pBlank e).cells (bPay e pv) (.slice a3 e.sigs.length c3)).toArray = C := ⟨_, rfl⟩
 obtain ⟨C, hC⟩ : ∃ C, e.cells pv (.slice a3 e.sigs.length c3) = C := ⟨_, rfl⟩
 obtain ⟨n, hn⟩ : ∃ n, e.sigs.length = n := ⟨_, rfl⟩
 simp only [hb3] at heq
 rw [hCB] at hbl heq
 rw [hC] at hR hF c0 c69 hown hbl hz ⊢
 rw [hn] at c69 heq hsig
 have Hown := Lib.hid hown
 have Hsig := Lib.hid hsig
 have Hbl := Lib.hid hbl
 have Heq := Lib.hid heq
 have Hz := Lib.hid hz
 have Hu := Lib.hid hu
 have Hd := Lib.hid hd
 clear hown hsig hbl heq hz hu hd hsz hCB hC hb1 hb2 hb3 hRv hk ea hok hb hg hsub hty hid hpl hsl hsi hp1 hs1
 go_enter Tryz.func59, Tryz.ntmps59
 go_upto_region 1 with (fail)
 change Code.wp _ _ _ _ (w.alloc (.cells C.toArray 39))
 obtain ⟨W, hW⟩ : ∃ W, w.alloc (.cells C.toArray 39) = W := ⟨_, rfl⟩
 rw [hW] at hR hF c0 c69 ⊢
 obtain ⟨p, hpp⟩ : ∃ p, w.heap.size = p := ⟨_, rfl⟩
 rw [hpp] at hR c0 c69
 rw [hpp]
 have hpW : p < W.heap.size := World.block_lt_of_cell? _ _ c0
 clear hW hpp hn
 have HR := Lib.hid hR
 have HF := Lib.hid hF
 have hHeld0 : Hid (Fr NoB W W.drew) ∧ W.drew.cell? ⟨p, 0, none⟩ = some (.int .i64 k) ∧ W.drew.cell? ⟨p, 69, none⟩ = some (.slice a3 n c3) := ⟨Lib.hid Fr.refl.drew, by simpa using c0, by simpa using c69⟩
 have HH := Lib.hid hHeld0
 clear hHeld0 hR hF c0 c69
 cases b1
 ·refine wp_region_held_drew (S := fun V => Hid (Fr NoB W V) ∧ V.cell? ⟨p, 0, none⟩ = some (.int .i64 k) ∧ V.cell? ⟨p, 69, none⟩ = some (.slice a3 n c3)) (by kernel_rfl) HH.out (fun hHeld => ?_)
  simp only [qL, qL1, qL0, qR, qR1, qR0]
  refine qi (i := 0) rfl (yieldsIf_load_mid (by rfl) 39 _ rfl p 0 rfl C d (fun V h => range_fr HR.out h.1.out hpW (fun _ h => h)) Hu.out Hd.out Hz.out) hHeld ?_
  try simp only [Act.put, qS, qS0, qS1, qG, qG0, qG1, qM0, qM1]
  refine qr (i := 1) (by kernel_rfl) rfl (fun K hK => ?_)
  try simp only [qG, qG0, qG1]
  go_simp
  refine (Hown.out _ (HF.out.trans' hHeld.1.out)).mono ?_; rintro r w1 ⟨rfl, hF1⟩
  refine hK.out _ _ ⟨Lib.hid (hHeld.1.out.trans' hF1), Fr.cell hF1 hHeld.2.1, Fr.cell hF1 hHeld.2.2⟩ (fun hHeld => ?_)
  clear hK K
  try simp only [Act.put, qS, qS0, qS1, qG, qG0, qG1, qM0, qM1]
  have HG1 := Lib.hid hHeld.1.out
  clear hF1
  iterate 18
   first
   | refine qt (v := undef) rfl (Or.inr ⟨by rfl, rfl⟩) hHeld ?_
     try simp only [Act.put, qS, qS0, qS1, qG, qG0, qG1, qM0, qM1]
   | refine qt (v := ?_) rfl (Or.inl ⟨by rfl, ?_⟩) hHeld ?_
     rotate_left
     ·intro W hSw
      obtain ⟨-, hs0, hs69⟩ := hSw
      try simp only [qG, qG0, qG1]
      go_simp
      try rw [if_neg (by omega)]
      try with_reducible rfl
     try simp only [Act.put, qS, qS0, qS1, qG, qG0, qG1, qM0, qM1]
  refine wpAnyH_done (by kernel_rfl) ?_ _
  clear hHeld
  go_wp2_with fail
  go_ret
  exact ⟨by rw [← HP.out]; rfl, HF.out.trans' HG1.out⟩
 cases b2
 ·refine wp_region_held_drew (S := fun V => Hid (Fr NoB W V) ∧ V.cell? ⟨p, 0, none⟩ = some (.int .i64 k) ∧ V.cell? ⟨p, 69, none⟩ = some (.slice a3 n c3)) (by kernel_rfl) HH.out (fun hHeld => ?_)
  simp only [qL, qL1, qL0, qR, qR1, qR0]
  refine qi (i := 0) rfl (yieldsIf_load_mid (by rfl) 39 _ rfl p 0 rfl C d (fun V h => range_fr HR.out h.1.out hpW (fun _ h => h)) Hu.out Hd.out Hz.out) hHeld ?_
  try simp only [Act.put, qS, qS0, qS1, qG, qG0, qG1, qM0, qM1]
  refine qr (i := 1) (by kernel_rfl) rfl (fun K hK => ?_)
  try simp only [qG, qG0, qG1]
  go_simp
  refine (Hown.out _ (HF.out.trans' hHeld.1.out)).mono ?_; rintro r w1 ⟨rfl, hF1⟩
  refine hK.out _ _ ⟨Lib.hid (hHeld.1.out.trans' hF1), Fr.cell hF1 hHeld.2.1, Fr.cell hF1 hHeld.2.2⟩ (fun hHeld => ?_)
  clear hK K
  try simp only [Act.put, qS, qS0, qS1, qG, qG0, qG1, qM0, qM1]
  have HG1 := Lib.hid hHeld.1.out
  clear hF1
  iterate 4
   refine qt (v := ?_) rfl (Or.inl ⟨by rfl, ?_⟩) hHeld ?_
   rotate_left
   ·intro W hSw
    obtain ⟨-, hs0, hs69⟩ := hSw
    try simp only [qG, qG0, qG1]
    go_simp
    try rw [if_neg (by omega)]
    try with_reducible rfl
   try simp only [Act.put, qS, qS0, qS1, qG, qG0, qG1, qM0, qM1]
  refine qr (i := 6) (by kernel_rfl) rfl (fun K hK => ?_)
  try simp only [qG, qG0, qG1]
  go_simp
  refine (Hsig.out _ (HF.out.trans' HG1.out)).mono ?_; rintro r w2 ⟨rfl, hF2⟩
  refine hK.out _ _ ⟨Lib.hid (hHeld.1.out.trans' hF2), Fr.cell hF2 hHeld.2.1, Fr.cell hF2 hHeld.2.2⟩ (fun hHeld => ?_)
  clear hK K
  try simp only [Act.put, qS, qS0, qS1, qG, qG0, qG1, qM0, qM1]
  have HG2 := Lib.hid hHeld.1.out
  clear hF2
  iterate 13
   first
   | refine qt (v := undef) rfl (Or.inr ⟨by rfl, rfl⟩) hHeld ?_
     try simp only [Act.put, qS, qS0, qS1, qG, qG0, qG1, qM0, qM1]
   | refine qt (v := ?_) rfl (Or.inl ⟨by rfl, ?_⟩) hHeld ?_
     rotate_left
     ·intro W hSw
      obtain ⟨-, hs0, hs69⟩ := hSw
      try simp only [qG, qG0, qG1]
      go_simp
      try rw [if_neg (by omega)]
      try with_reducible rfl
     try simp only [Act.put, qS, qS0, qS1, qG, qG0, qG1, qM0, qM1]
  refine wpAnyH_done (by kernel_rfl) ?_ _
  clear hHeld
  go_wp2_with fail
  go_ret
  exact ⟨by rw [← HP.out]; rfl, HF.out.trans' HG2.out⟩
 cases b3
 all_goals
  refine wp_region_held_drew (S := fun V => Hid (Fr NoB W V) ∧ V.cell? ⟨p, 0, none⟩ = some (.int .i64 k) ∧ V.cell? ⟨p, 69, none⟩ = some (.slice a3 n c3)) (by kernel_rfl) HH.out (fun hHeld => ?_)
  simp only [qL, qL1, qL0, qR, qR1, qR0]
  refine qi (i := 0) rfl (yieldsIf_load_mid (by rfl) 39 _ rfl p 0 rfl C d (fun V h => range_fr HR.out h.1.out hpW (fun _ h => h)) Hu.out Hd.out Hz.out) hHeld ?_
  try simp only [Act.put, qS, qS0, qS1, qG, qG0, qG1, qM0, qM1]
  refine qr (i := 1) (by kernel_rfl) rfl (fun K hK => ?_)
  try simp only [qG, qG0, qG1]
  go_simp
  refine (Hown.out _ (HF.out.trans' hHeld.1.out)).mono ?_; rintro r w1 ⟨rfl, hF1⟩
  refine hK.out _ _ ⟨Lib.hid (hHeld.1.out.trans' hF1), Fr.cell hF1 hHeld.2.1, Fr.cell hF1 hHeld.2.2⟩ (fun hHeld => ?_)
  clear hK K
  try simp only [Act.put, qS, qS0, qS1, qG, qG0, qG1, qM0, qM1]
  have HG1 := Lib.hid hHeld.1.out
  clear hF1
  iterate 4
   refine qt (v := ?_) rfl (Or.inl ⟨by rfl, ?_⟩) hHeld ?_
   rotate_left
   ·intro W hSw
    obtain ⟨-, hs0, hs69⟩ := hSw
    try simp only [qG, qG0, qG1]
    go_simp
    try rw [if_neg (by omega)]
    try with_reducible rfl
   try simp only [Act.put, qS, qS0, qS1, qG, qG0, qG1, qM0, qM1]
  refine qr (i := 6) (by kernel_rfl) rfl (fun K hK => ?_)
  try simp only [qG, qG0, qG1]
  go_simp
  refine (Hsig.out _ (HF.out.trans' HG1.out)).mono ?_; rintro r w2 ⟨rfl, hF2⟩
  refine hK.out _ _ ⟨Lib.hid (hHeld.1.out.trans' hF2), Fr.cell hF2 hHeld.2.1, Fr.cell hF2 hHeld.2.2⟩ (fun hHeld => ?_)
  clear hK K
  try simp only [Act.put, qS, qS0, qS1, qG, qG0, qG1, qM0, qM1]
  have HG2 := Lib.hid hHeld.1.out
  clear hF2
  iterate 3
   refine qt (v := ?_) rfl (Or.inl ⟨by rfl, ?_⟩) hHeld ?_
   rotate_left
   ·intro W hSw
    obtain ⟨-, hs0, hs69⟩ := hSw
    try simp only [qG, qG0, qG1]
    go_simp
    try rw [if_neg (by omega)]
    try with_reducible rfl
   try simp only [Act.put, qS, qS0, qS1, qG, qG0, qG1, qM0, qM1]
  refine qi (i := 10) rfl (yieldsIf_load_mid (by rfl) 39 _ rfl p 0 rfl C d (fun V h => range_fr HR.out h.1.out hpW (fun _ h => h)) Hu.out Hd.out Hz.out) hHeld ?_
  try simp only [Act.put, qS, qS0, qS1, qG, qG0, qG1, qM0, qM1]
  refine qi (i := 12) (v := ?_) rfl (Or.inl ⟨by rfl, ?_⟩) hHeld ?_
  rotate_left
  ·intro W hSw
   obtain ⟨-, hs0, hs69⟩ := hSw
   try simp only [qG, qG0, qG1]
   go_simp
   try rw [if_neg (by omega)]
   try with_reducible rfl
  try simp only [Act.put, qS, qS0, qS1, qG, qG0, qG1, qM0, qM1]
  refine qi (i := 13) (v := ?_) rfl (Or.inl ⟨by rfl, ?_⟩) hHeld ?_
  rotate_left
  ·intro W hSw
   obtain ⟨-, hs0, hs69⟩ := hSw
   try simp only [qG, qG0, qG1]
   go_simp
   try rw [if_neg (by omega)]
   try with_reducible rfl
  try simp only [Act.put, qS, qS0, qS1, qG, qG0, qG1, qM0, qM1]
  refine qi (i := 14) (v := ?_) rfl (Or.inl ⟨by rfl, ?_⟩) hHeld ?_
  rotate_left
  ·intro W hSw
   obtain ⟨-, hs0, hs69⟩ := hSw
   try simp only [qG, qG0, qG1]
   go_simp
   try rw [if_neg (by omega)]
   try with_reducible rfl
  try simp only [Act.put, qS, qS0, qS1, qG, qG0, qG1, qM0, qM1]
  refine qi (i := 15) (v := ?_) rfl (Or.inl ⟨by rfl, ?_⟩) hHeld ?_
  rotate_left
  ·intro W hSw
   obtain ⟨-, hs0, hs69⟩ := hSw
   try simp only [qG, qG0, qG1]
   go_simp
   try rw [if_neg (by omega)]
   try with_reducible rfl
  try simp only [Act.put, qS, qS0, qS1, qG, qG0, qG1, qM0, qM1]
  refine qi (i := 16) (v := ?_) rfl (Or.inl ⟨by rfl, ?_⟩) hHeld ?_
  rotate_left
  ·intro W hSw
   obtain ⟨-, hs0, hs69⟩ := hSw
   try simp only [qG, qG0, qG1]
   go_simp
   try rw [if_neg (by omega)]
   try with_reducible rfl
  try simp only [Act.put, qS, qS0, qS1, qG, qG0, qG1, qM0, qM1]
  refine qr (i := 11) (by kernel_rfl) rfl (fun K hK => ?_)
  try simp only [qG, qG0, qG1]
  go_simp
  refine (Hbl.out _).mono ?_; rintro r w3 ⟨rfl, hF3⟩
  refine hK.out _ _ ⟨Lib.hid (hHeld.1.out.trans' hF3), Fr.cell hF3 hHeld.2.1, Fr.cell hF3 hHeld.2.2⟩ (fun hHeld => ?_)
  clear hK K
  try simp only [Act.put, qS, qS0, qS1, qG, qG0, qG1, qM0, qM1]
  have HG3 := Lib.hid hHeld.1.out
  clear hF3
  refine qr (i := 17) (by kernel_rfl) rfl (fun K hK => ?_)
  try simp only [qG, qG0, qG1]
  go_simp
  refine (Heq.out _ (HF.out.trans' HG3.out)).mono ?_; rintro r w4 ⟨rfl, hF4⟩
  refine hK.out _ _ ⟨Lib.hid (hHeld.1.out.trans' hF4), Fr.cell hF4 hHeld.2.1, Fr.cell hF4 hHeld.2.2⟩ (fun hHeld => ?_)
  clear hK K
  try simp only [Act.put, qS, qS0, qS1, qG, qG0, qG1, qM0, qM1]
  have HG4 := Lib.hid hHeld.1.out
  clear hF4
  iterate 2
   refine qt (v := ?_) rfl (Or.inl ⟨by rfl, ?_⟩) hHeld ?_
   rotate_left
   ·intro W hSw
    obtain ⟨-, hs0, hs69⟩ := hSw
    try simp only [qG, qG0, qG1]
    go_simp
    try rw [if_neg (by omega)]
    try with_reducible rfl
   try simp only [Act.put, qS, qS0, qS1, qG, qG0, qG1, qM0, qM1]
  refine wpAnyH_done (by kernel_rfl) ?_ _
  clear hHeld
  go_wp2_with fail
  go_ret
  exact ⟨by rw [← HP.out]; rfl, HF.out.trans' HG4.out⟩
end Go.Proofs.YtcddlemkimbkcaaGreatDoor
