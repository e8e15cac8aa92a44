/-
 The walks of package coder: bytes as signs.
-/
import Derived.Test.YtcddlemkimbkcaaGreatDoorKBuilder
import Derived.Test.YtcddlemkimbkcaaGreatDoorKOwn
import Derived.Test.YtcddlemkimbkcaaGreatDoorKSpecEntry
import Derived.Deep.RegionHeld3
import Derived.Laws.MakeOwn
import Derived.Lib.Bytealg
namespace Go.Proofs.YtcddlemkimbkcaaGreatDoor
set_option linter.unusedVariables false
set_option linter.unusedSimpArgs false
set_option linter.unusedSectionVars false
open Go.RowKit
variable [OldK]
theorem i64_or_nat (a b : Nat) (ha : a < 9223372036854775808) (hb : b < 9223372036854775808) : bits .or .i64 (a : Int) (b : Int) = ((a ||| b : Nat) : Int) := by
 have hx : a ||| b < 2 ^ 63 := Nat.or_lt_two_pow (by omega) (by omega)
 show IntKind.i64.wrap ((BitVec.ofInt 64 (a : Int) ||| BitVec.ofInt 64 (b : Int)).toNat : Int) = _
 rw [BitVec.toNat_or, BitVec.ofInt_natCast, BitVec.ofInt_natCast, BitVec.toNat_ofNat, BitVec.toNat_ofNat, Nat.mod_eq_of_lt (by omega), Nat.mod_eq_of_lt (by omega), IntKind.wrap_i64]
 omega
theorem i64_and_nat (a b : Nat) (ha : a < 9223372036854775808) (hb : b < 9223372036854775808) : bits .and .i64 (a : Int) (b : Int) = ((a &&& b : Nat) : Int) := by
 have hx : a &&& b < 2 ^ 63 := Nat.and_lt_two_pow _ (by omega)
 show IntKind.i64.wrap ((BitVec.ofInt 64 (a : Int) &&& BitVec.ofInt 64 (b : Int)).toNat : Int) = _
 rw [BitVec.toNat_and, BitVec.ofInt_natCast, BitVec.ofInt_natCast, BitVec.toNat_ofNat, BitVec.toNat_ofNat, Nat.mod_eq_of_lt (by omega), Nat.mod_eq_of_lt (by omega), IntKind.wrap_i64]
 omega
/-- a byte behind some bits -/
theorem or_byte (a b : Nat) (ha : a < 1000000) (hb : b < 256) : bits .or .i64 ((a : Int) * 256) (b : Int) = ((a * 256 + b : Nat) : Int) := by
 have h := i64_or_nat (a * 256) b (by omega) (by omega)
 rw [show ((a : Int) * 256) = ((a * 256 : Nat) : Int) from (Int.natCast_mul a 256).symm, h]
 have h2 := Nat.shiftLeft_add_eq_or_of_lt (i := 8) (b := b) (by omega) a
 rw [Nat.shiftLeft_eq] at h2
 rw [← h2]
theorem pow_le13 {h : Nat} (hh : h ≤ 13) : 2 ^ h ≤ 8192 := by
 have := Nat.pow_le_pow_right (n := 2) (by decide) hh
 omega
theorem emit_stop {signs : Bs} {nb k b h : Nat} (hh : h < nb) : cEmit signs nb k b h = ([], b, h) := by
 cases k with
 | zero => rfl
 | succ k => rw [cEmit, if_neg (by omega)]
theorem emit_step {signs : Bs} {nb k b h : Nat} (hh : nb ≤ h) : cEmit signs nb (k + 1) b h = (sgn signs (b / 2 ^ (h - nb)) :: (cEmit signs nb k (b % 2 ^ (h - nb)) (h - nb)).1, (cEmit signs nb k (b % 2 ^ (h - nb)) (h - nb)).2) := by
 rw [cEmit, if_pos hh]
set_option maxRecDepth 100000 in
set_option maxHeartbeats 4000000 in
theorem code_c (signs : Bs) (nb : Nat) (hnb : nb = 4 ∨ nb = 6) (hs : signs.length = 2 ^ nb) (S : Nat → Prop) (l : Bs) (v : Value) (w : World) (hv : SB S l v w) (hlen : l.length ≤ 1000000) :
 Calls Tryz.prog 114 #[.agg #[.string ⟨signs.toArray⟩, .int .i64 (nb : Int)], v] w fun e w' => e = .returned (.string ⟨(cLoop signs nb 0 0 l).toArray⟩) ∧ Fr NoB w w' := by
 obtain ⟨q, cap, rfl⟩ := hv.form
 have Hs := Lib.hid hs
 clear hs
 generalize hR : cLoop signs nb 0 0 l = R
 have HR : Hid ([] ++ cLoop signs nb 0 0 (l.drop 0) = R) := hR
 clear hR
 have Hv := Lib.hid hv
 clear hv
 have hF0 := (Fr.refl (M := NoB)).alloc (w := w) (.cells #[.string ⟨signs.toArray⟩, .int .i64 (nb : Int)] 182)
 have hB := Bld.fresh (w.alloc (.cells #[.string ⟨signs.toArray⟩, .int .i64 (nb : Int)] 182))
 have hs1 : (w.alloc (.cells #[.string ⟨signs.toArray⟩, .int .i64 (nb : Int)] 182)).heap.size = w.heap.size + 1 := World.size_alloc _ _
 rw [hs1] at hB
 have hbx := hF0.alloc (.cells #[.pointer none, .slice none 0 0] 262)
 have hA := (Fr.refl (M := NoB)).alloc (w := w.alloc (.cells #[.string ⟨signs.toArray⟩, .int .i64 (nb : Int)] 182)) (.cells #[.pointer none, .slice none 0 0] 262) |>.block _ _ (heap_alloc_new w (.cells #[.string ⟨signs.toArray⟩, .int .i64 (nb : Int)] 182)) (fun h => h)
 have HF := Lib.hid hbx
 have HB := Lib.hid hB
 have HA := Lib.hid hA
 clear hF0 hB hs1 hbx hA
 go_enter Tryz.func114, Tryz.ntmps114
 go_wp2_with fail
 go_loopg [6, 7, 12] (l.length + 1) (fun g vb vh vi wr => ∃ (i bits h : Nat) (out : Bs), vb = .int .i64 (bits : Int) ∧ vh = .int .i64 (h : Int) ∧ vi = .int .i64 (i : Int) ∧ i ≤ l.length ∧ i + g = l.length + 1 ∧ h < nb ∧ bits < 2 ^ h ∧ out.length ≤ 8 * i ∧
  wr.heap[w.heap.size]? = some (.cells #[.string ⟨signs.toArray⟩, .int .i64 (nb : Int)] 182 (0, 0)) ∧ Hid (Bld (w.heap.size + 1) (w.heap.size + 1) out wr) ∧ Hid (Fr NoB w wr) ∧ Hid (out ++ cLoop signs nb bits h (l.drop i) = R))
 case atStart => exact ⟨0, 0, 0, [], rfl, rfl, rfl, by omega, by omega, by omega, by simp, by simp, HA.out, HB, HF, HR⟩
 case round =>
  clear HA HB HF HR
  obtain ⟨i, bits, h, out, rfl, rfl, rfl, hi, hig, hh, hbits, hol, hA, HB, HF, HS⟩ := hrel
  have a0 : wr.cell? ⟨w.heap.size, 0, none⟩ = some (.string ⟨signs.toArray⟩) := by simp [World.cell?, hA]
  have a1 : wr.cell? ⟨w.heap.size, 1, none⟩ = some (.int .i64 (nb : Int)) := by simp [World.cell?, hA]
  have HA := Lib.hid hA
  clear hA
  rcases Nat.lt_or_ge i l.length with hlt | hge
  ·obtain ⟨c, hc⟩ : ∃ c, l[i]? = some c := ⟨_, List.getElem?_eq_getElem hlt⟩
   obtain ⟨g, o, cap', e9, hat⟩ := (Hv.out.fr HF.out (fun _ _ _ _ h => h)).at hc
   obtain ⟨rfl, rfl⟩ : q = some ⟨g, o, none⟩ ∧ cap = cap' := by simpa using e9
   clear e9
   have hc8 := UInt8.toNat_lt c
   have hnb6 : nb ≤ 6 := by omega
   have hb32 : bits < 32 := Nat.lt_of_lt_of_le hbits (by have := Nat.pow_le_pow_right (n := 2) (by decide) (show h ≤ 5 by omega); omega)
   have hor := or_byte bits c.toNat (by omega) hc8
   have hbB : bits * 256 + c.toNat < 2 ^ (h + 8) := by
    have : 2 ^ (h + 8) = 2 ^ h * 256 := Nat.pow_add 2 h 8
    omega
   have hd : l.drop i = c :: l.drop (i + 1) := by
    rw [List.drop_eq_getElem_cons hlt]
    congr 1
    exact (List.getElem?_eq_some_iff.1 hc).2
   have hS := HS.out
   rw [hd, cLoop, ← List.append_assoc] at hS
   have HS := Lib.hid hS
   have hi0 : i < 1000000 := by omega
   clear hS hd hc
   go_wp2_with fail
   clear hor
   obtain ⟨B, hBe⟩ : ∃ B : Nat, bits * 256 + c.toNat = B := ⟨_, rfl⟩
   rw [hBe] at HS hbB
   have Hbe := Lib.hid hBe
   go_loopg [6, 7] (h + 9) (fun k vb vh w2 => ∃ (b2 h2 : Nat) (out2 : Bs), vb = .int .i64 (b2 : Int) ∧ vh = .int .i64 (h2 : Int) ∧ h2 < k ∧ h2 ≤ 13 ∧ b2 < 2 ^ h2 ∧ out2.length * 4 + h2 ≤ 32 * i + 13 ∧
    w2.heap[w.heap.size]? = some (.cells #[.string ⟨signs.toArray⟩, .int .i64 (nb : Int)] 182 (0, 0)) ∧ Hid (Bld (w.heap.size + 1) (w.heap.size + 1) out2 w2) ∧ Hid (Fr NoB w w2) ∧
    Hid (out2 ++ (cEmit signs nb k b2 h2).1 ++ cLoop signs nb (cEmit signs nb k b2 h2).2.1 (cEmit signs nb k b2 h2).2.2 (l.drop (i + 1)) = R))
   case atStart => exact ⟨B, h + 8, out, by rw [← Hbe.out]; push_cast; rfl, by push_cast; rfl, by omega, by omega, hbB, by omega, HA.out, HB, HF, HS⟩
   case round =>
    obtain ⟨b2, h2, out2, rfl, rfl, hk, hh2, hb2, hol2, hA2, HB2, HF2, HS2⟩ := hrel
    rcases Nat.lt_or_ge h2 nb with hlt2 | hge2
    ·have hS2 := HS2.out
     rw [emit_stop hlt2] at hS2
     simp only [List.append_nil] at hS2
     have HS3 := Lib.hid hS2
     have a1 : wr.cell? ⟨w.heap.size, 1, none⟩ = some (.int .i64 (nb : Int)) := by simp [World.cell?, hA2]
     have HA2 := Lib.hid hA2
     clear hS2 HS2 hA2
     go_wp2_with fail
     go_roundg (l.length + 1 - (i + 1))
     case measure => omega
     case rel => exact ⟨i + 1, b2, h2, out2, rfl, rfl, by push_cast; rfl, by omega, by omega, hlt2, hb2, by omega, HA2.out, HB2, HF2, HS3⟩
    ·obtain ⟨H, rfl⟩ : ∃ H, h2 = nb + H := ⟨h2 - nb, by omega⟩
     obtain ⟨k, rfl⟩ : ∃ k', gk = k' + 1 := ⟨gk - 1, by omega⟩
     have hS2 := HS2.out
     rw [emit_step (by omega), show nb + H - nb = H by omega] at hS2
     have a0 : wr.cell? ⟨w.heap.size, 0, none⟩ = some (.string ⟨signs.toArray⟩) := by simp [World.cell?, hA2]
     have a1 : wr.cell? ⟨w.heap.size, 1, none⟩ = some (.int .i64 (nb : Int)) := by simp [World.cell?, hA2]
     have hP13 := pow_le13 (h := H) (by omega)
     have hP1 : 1 ≤ 2 ^ H := Nat.one_le_two_pow
     have hmul : 2 ^ (nb + H) = 2 ^ nb * 2 ^ H := Nat.pow_add 2 nb H
     have hX : b2 / 2 ^ H < signs.length := by rw [Hs.out]; exact Nat.div_lt_of_lt_mul (by rw [Nat.mul_comm]; omega)
     have hM := Nat.mod_lt b2 (show 0 < 2 ^ H by omega)
     have hb13 : b2 < 8192 := Nat.lt_of_lt_of_le hb2 (pow_le13 hh2)
     have hand : Go.bits .and .i64 (b2 : Int) ((2 ^ H : Nat) - 1 : Int) = ((b2 % 2 ^ H : Nat) : Int) := by
      have h := i64_and_nat b2 (2 ^ H - 1) (by omega) (by omega)
      rw [Nat.and_two_pow_sub_one_eq_mod] at h
      rw [← h]
      congr 1
      omega
     have hpow : (2 : Int) ^ H = ((2 ^ H : Nat) : Int) := by simp
     have hdiv : (b2 : Int) / ((2 ^ H : Nat) : Int) = ((b2 / 2 ^ H : Nat) : Int) := (Int.natCast_ediv b2 (2 ^ H)).symm
     generalize hPe : 2 ^ H = P at *
     have hX0 : (0 : Int) ≤ (b2 : Int) / (P : Int) := by rw [hdiv]; exact Int.natCast_nonneg _
     have hX2 : (b2 : Int) / (P : Int) < (signs.length : Int) := by rw [hdiv]; omega
     have hX3 : ((b2 : Int) / (P : Int)).toNat = b2 / P := by rw [hdiv, Int.toNat_natCast]
     have Hpe := Lib.hid hPe
     have hsz : (ByteArray.mk signs.toArray).size = signs.length := rfl
     have hget : ∀ h, (ByteArray.mk signs.toArray)[b2 / P]'h = sgn signs (b2 / P) := by
      intro h
      unfold sgn
      rw [List.getD_eq_getElem?_getD, List.getElem?_eq_getElem hX]
      rfl
     have hsub : (nb : Int) + (H : Int) - (nb : Int) = (H : Int) := by omega
     have hol3 : out2.length + 1 ≤ 140737488355328 := by omega
     have HBd := Lib.hid (HB2.out.fr (Fr.refl.drew (M := NoB)) (fun _ _ _ _ _ h => h))
     have HA2 := Lib.hid hA2
     have hN := HF2.out.size
     have HFd := Lib.hid (HF2.out.drew)
     have hol4 := hol2
     have HS3 := Lib.hid hS2
     have HM := Lib.hid hM
     clear hmul hM HS2 hA2 hdiv hPe hS2
     go_wp2_with fail
     go_region_held3 (fun W => W.cell? ⟨w.heap.size, 0, none⟩ = some (.string ⟨signs.toArray⟩) ∧ W.cell? ⟨w.heap.size, 1, none⟩ = some (.int .i64 (nb : Int))) (go_keep) ((go_at_call 166; refine (writeByte_c _ _ _ _ _ HBd.out hol3).mono ?_; rintro e w5 ⟨rfl, hB5, hF5⟩; have hA5 := hF5.block _ _ HA2.out (by rintro ⟨h1, _⟩; omega); obtain ⟨c0, c1⟩ := (⟨by simp [World.cell?, hA5], by simp [World.cell?, hA5]⟩ : w5.cell? ⟨w.heap.size, 0, none⟩ = some (.string ⟨signs.toArray⟩) ∧ w5.cell? ⟨w.heap.size, 1, none⟩ = some (.int .i64 (nb : Int)))))
     go_wp2_with fail
     go_roundg k
     case measure => omega
     case rel =>
      refine ⟨b2 % P, H, out2 ++ [sgn signs (b2 / P)], by rw [Int.natCast_emod], rfl, by omega, by omega, by rw [Hpe.out]; exact HM.out, by rw [List.length_append]; simp only [List.length_cons, List.length_nil]; omega, hA5, Lib.hid hB5, Lib.hid (HFd.out.trans hF5 (fun k o hm => .inr (by have := hm.1; omega))), Lib.hid ?_⟩
      have := HS3.out
      simp only [List.append_assoc, List.cons_append, List.nil_append] at this ⊢
      exact this
  ·obtain rfl : i = l.length := by omega
   have hS := HS.out
   rw [List.drop_length, cLoop] at hS
   have hN := HF.out.size
   have HBd := Lib.hid (HB.out.fr (Fr.refl.drew (M := NoB)) (fun _ _ _ _ _ h => h))
   have HFd := Lib.hid (HF.out.drew)
   have hol1 : out.length + 1 ≤ 140737488355328 := by omega
   rcases Nat.eq_zero_or_pos h with rfl | hpos
   ·rw [if_neg (by omega), List.append_nil] at hS
    have HS4 := Lib.hid hS
    clear HS hS
    go_wp2_with fail
    refine (string_c _ _ _ _ HB.out).mono ?_
    rintro e w5 ⟨rfl, hF5⟩
    go_wp2_with fail
    go_ret
    exact ⟨ret_str (by rw [HS4.out]), HF.out.trans hF5 (fun k o hm => .inr (by have := hm.1; omega))⟩
   ·rw [if_pos hpos] at hS
    have hP1 : 1 ≤ 2 ^ (nb - h) := Nat.one_le_two_pow
    have hmul : 2 ^ nb = 2 ^ h * 2 ^ (nb - h) := by rw [← Nat.pow_add]; congr 1; omega
    have hX : bits * 2 ^ (nb - h) < signs.length := by rw [Hs.out, hmul]; exact Nat.mul_lt_mul_of_pos_right hbits (by omega)
    have hP6 : 2 ^ (nb - h) ≤ 64 := by have := Nat.pow_le_pow_right (n := 2) (by decide) (show nb - h ≤ 6 by omega); omega
    have hb32 : bits < 32 := Nat.lt_of_lt_of_le hbits (by have := Nat.pow_le_pow_right (n := 2) (by decide) (show h ≤ 5 by omega); omega)
    have hsub : (nb : Int) - (h : Int) = ((nb - h : Nat) : Int) := by omega
    obtain ⟨H, hH⟩ : ∃ H, nb - h = H := ⟨_, rfl⟩
    rw [hH] at hP1 hmul hX hP6 hsub hS
    have hwsub : IntKind.i64.wrap (H : Int) = (H : Int) := by rw [IntKind.wrap_i64]; omega
    have hpow : (2 : Int) ^ H = ((2 ^ H : Nat) : Int) := by simp
    have hH0 : (0 : Int) ≤ (H : Int) := Int.natCast_nonneg _
    have hH6 : (H : Int) ≤ 6 := by omega
    generalize hPe : 2 ^ H = P at *
    have hbp : bits * P ≤ 2048 := by
     have := Nat.mul_le_mul (show bits ≤ 32 by omega) hP6
     omega
    have hX0 : (0 : Int) ≤ (bits : Int) * (P : Int) := by rw [← Int.natCast_mul]; exact Int.natCast_nonneg _
    have hX2 : (bits : Int) * (P : Int) < (signs.length : Int) := by rw [← Int.natCast_mul]; omega
    have hX3 : ((bits : Int) * (P : Int)).toNat = bits * P := by rw [← Int.natCast_mul, Int.toNat_natCast]
    have hX4 : IntKind.i64.wrap ((bits : Int) * (P : Int)) = (bits : Int) * (P : Int) := by rw [← Int.natCast_mul, IntKind.wrap_i64]; omega
    have hsz : (ByteArray.mk signs.toArray).size = signs.length := rfl
    have hget : ∀ h, (ByteArray.mk signs.toArray)[bits * P]'h = sgn signs (bits * P) := by
     intro h
     unfold sgn
     rw [List.getD_eq_getElem?_getD, List.getElem?_eq_getElem hX]
     rfl
    have hpos2 : (0 : Int) < (h : Int) := by omega
    have HS4 := Lib.hid hS
    clear HS hmul hPe hH hS
    go_wp2_with fail
    go_region_held3 (fun W => W.cell? ⟨w.heap.size, 0, none⟩ = some (.string ⟨signs.toArray⟩) ∧ W.cell? ⟨w.heap.size, 1, none⟩ = some (.int .i64 (nb : Int))) (go_keep) ((go_at_call 166; refine (writeByte_c _ _ _ _ _ HBd.out hol1).mono ?_; rintro e w5 ⟨rfl, hB5, hF5⟩; have hA5 := hF5.block _ _ HA.out (by rintro ⟨h1, _⟩; omega); obtain ⟨c0, c1⟩ := (⟨by simp [World.cell?, hA5], by simp [World.cell?, hA5]⟩ : w5.cell? ⟨w.heap.size, 0, none⟩ = some (.string ⟨signs.toArray⟩) ∧ w5.cell? ⟨w.heap.size, 1, none⟩ = some (.int .i64 (nb : Int)))))
    go_wp2_with fail
    refine (string_c _ _ _ _ hB5).mono ?_
    rintro e w6 ⟨rfl, hF6⟩
    go_wp2_with fail
    go_ret
    have hs5 := hF5.size
    exact ⟨ret_str (by rw [HS4.out]), (HFd.out.trans hF5 (fun k o hm => .inr (by have := hm.1; omega))).trans hF6 (fun k o hm => .inr (by have := hm.1; omega))⟩
set_option maxRecDepth 100000 in
set_option maxHeartbeats 1000000 in
theorem hexes_c (w : World) : Calls Tryz.prog 113 #[] w fun e w' => e = .returned (.agg #[.string ⟨hexes.toArray⟩, .int .i64 4]) ∧ Fr NoB w w' := by
 go_enter Tryz.func113, Tryz.ntmps113
 go_wp2_with fail
 refine bodyPost_ret (v := .agg #[.string ⟨hexes.toArray⟩, .int .i64 4]) (by simp [results, Tryz.results113, go_sem, hexes]) rfl ?_
 exact ⟨rfl, Fr.refl.alloc _⟩
set_option maxRecDepth 100000 in
set_option maxHeartbeats 1000000 in
/-- Hex: the figures of bytes -/
theorem coderHex_c (S : Nat → Prop) (l : Bs) (v : Value) (w : World) (hv : SB S l v w) (hlen : l.length ≤ 1000000) :
 Calls Tryz.prog 62 #[v] w fun e w' => e = .returned (.string ⟨(hexS l).toArray⟩) ∧ Fr NoB w w' := by
 have hc := fun W hW => code_c hexes 4 (.inl rfl) rfl S l v W hW hlen
 rw [code_hex] at hc
 obtain ⟨q, cap, rfl⟩ := hv.form
 obtain ⟨X, hX⟩ : ∃ X : Bs, X = hexes := ⟨_, rfl⟩
 have hh := hexes_c w
 rw [← hX] at hc hh
 have Hc := Lib.hid hc
 have Hh := Lib.hid hh
 have Hv := Lib.hid hv
 clear hc hh hv hX
 go_enter Tryz.func62, Tryz.ntmps62
 go_wp2_with fail
 refine Hh.out.mono ?_
 rintro e w1 ⟨rfl, hF1⟩
 have Hv1 := Lib.hid (Hv.out.fr hF1 (fun _ _ _ _ h => h))
 have HF1 := Lib.hid hF1
 clear hF1
 go_wp2_with fail
 refine (Hc.out _ Hv1.out).mono ?_
 rintro e w2 ⟨rfl, hF2⟩
 go_wp2_with fail
 go_ret
 exact ⟨rfl, HF1.out.trans' hF2⟩
end Go.Proofs.YtcddlemkimbkcaaGreatDoor
namespace Go.Proofs.YtcddlemkimbkcaaGreatDoor
set_option linter.unusedVariables false
set_option linter.unusedSimpArgs false
set_option linter.unusedSectionVars false
open Go.RowKit
variable [OldK]
theorem idx_eq (c : UInt8) (l : Bs) : idx (c :: l) c = some 0 := by
 unfold idx
 simp
theorem idx_ne {b c : UInt8} (l : Bs) (h : ¬ b = c) : idx (b :: l) c = (idx l c).map (· + 1) := by
 have hb : (b == c) = false := by rw [beq_eq_false_iff_ne]; exact h
 have hi : (b :: l).idxOf c = l.idxOf c + 1 := by rw [List.idxOf_cons, hb]; rfl
 unfold idx
 rw [hi, List.length_cons]
 by_cases h2 : l.idxOf c < l.length
 ·rw [if_pos h2, if_pos (by omega)]; rfl
 ·rw [if_neg h2, if_neg (by omega)]; rfl
theorem idx_byte (c : UInt8) : ∀ l : Bs, Lib.indexByte l c = match idx l c with | some k => (k : Int) | none => -1 := by
 intro l
 induction l with
 | nil => rfl
 | cons b l ih =>
   unfold Lib.indexByte
   by_cases h : b = c
   ·subst h
    rw [idx_eq]
    simp
   ·have hb : (b == c) = false := by rw [beq_eq_false_iff_ne]; exact h
    rw [idx_ne l h, ih, hb]
    cases idx l c with
    | none => simp
    | some k =>
      simp only [Option.map_some, Bool.false_eq_true, if_false]
      rw [if_neg (by rw [beq_iff_eq]; omega)]
      push_cast
      rfl
theorem idx_lt {l : Bs} {c : UInt8} {k : Nat} (h : idx l c = some k) : k < l.length := by
 unfold idx at h
 split at h
 ·simp only [Option.some.injEq] at h; omega
 ·simp at h
theorem or_bits (a n b : Nat) (ha : a * 2 ^ n < 1000000) (hb : b < 2 ^ n) (hn : n ≤ 6) : Go.bits .or .i64 ((a : Int) * ((2 ^ n : Nat) : Int)) (b : Int) = ((a * 2 ^ n + b : Nat) : Int) := by
 have hn6 := Nat.pow_le_pow_right (n := 2) (by decide) hn
 have h := i64_or_nat (a * 2 ^ n) b (by omega) (by omega)
 rw [← Int.natCast_mul, h]
 have h2 := Nat.shiftLeft_add_eq_or_of_lt (i := n) (b := b) hb a
 rw [Nat.shiftLeft_eq] at h2
 rw [← h2]
/-- what decode hands back: bytes of its own, or an error -/
def DecPost (B : Nat) (r : Option Bs) (e : Ending) (w' : World) : Prop :=
 match r with
 | some b => ∃ a c, e = .returned (.tuple #[.slice a b.length c, .nilIface]) ∧ SB (fun k => B ≤ k) b (.slice a b.length c) w'
 | none => e = .returned (.tuple #[.slice none 0 0, .iface 56 (.int .i64 1)])
set_option maxRecDepth 100000 in
set_option maxHeartbeats 4000000 in
theorem decode_c (signs : Bs) (nb : Nat) (hnb : nb = 4 ∨ nb = 6) (hs : signs.length = 2 ^ nb) (s : Bs) (w : World) (hlen : s.length ≤ 1000000) :
 Calls Tryz.prog 164 #[.agg #[.string ⟨signs.toArray⟩, .int .i64 (nb : Int)], .string ⟨s.toArray⟩] w fun e w' => DecPost w.heap.size (dLoop signs nb 0 0 [] s) e w' ∧ Fr NoB w w' := by
 have Hs := Lib.hid hs
 clear hs
 generalize hR : dLoop signs nb 0 0 [] s = R
 have HR : Hid (dLoop signs nb 0 0 [] (s.drop 0) = R) := hR
 clear hR
 obtain ⟨i0, hi0, hz0, hz1, hz2⟩ := info_parts Tryz.infoByte
 have hnb6 : nb ≤ 6 := by omega
 have hnb1 : 4 ≤ nb := by omega
 have hA := heap_alloc_new w (.cells #[.string ⟨signs.toArray⟩, .int .i64 (nb : Int)] 182)
 have hF0 := (Fr.refl (M := NoB)).alloc (w := w) (.cells #[.string ⟨signs.toArray⟩, .int .i64 (nb : Int)] 182)
 obtain ⟨M, hM⟩ : ∃ M : Nat, s.length * nb / 8 = M := ⟨_, rfl⟩
 have hM1 : M ≤ 1000000 := by
  rw [← hM]
  have := Nat.mul_le_mul hlen hnb6
  omega
 obtain ⟨w1, hmk, hown1, hgr1⟩ := run_make_own (P := Tryz.prog) (w.alloc (.cells #[.string ⟨signs.toArray⟩, .int .i64 (nb : Int)] 182)) (w.heap.size + 1) 36 5 i0 (.int .u8 0) 1 Tryz.underlying36 hi0 hz0 hz1 .i64 .i64 M (by rw [hz2]; omega) (by unfold maxLen; omega) (by rw [World.size_alloc]; omega)
 have hF1 : Fr NoB (w.alloc (.cells #[.string ⟨signs.toArray⟩, .int .i64 (nb : Int)] 182)) w1 := (Fr.ofGrown hgr1).mono (fun k _ h => by simp at h)
 have HA1 := Lib.hid (hF1.block _ _ hA (fun h => h))
 have HF1 := Lib.hid (hF0.trans' hF1)
 have hg0 : 1 ≤ (w.alloc (.cells #[.string ⟨signs.toArray⟩, .int .i64 (nb : Int)] 182)).heap.size := by rw [World.size_alloc]; omega
 have hsz1 : (w.alloc (.cells #[.string ⟨signs.toArray⟩, .int .i64 (nb : Int)] 182)).heap.size = w.heap.size + 1 := World.size_alloc _ _
 rw [hsz1] at hmk hown1
 have Hown1 : Hid (OB (w.heap.size + 1) [] (.slice (some ⟨w.heap.size + 1, 0, none⟩) 0 M) w1) := Lib.hid hown1
 have hmul : ((s.length : Int) * (nb : Int)) = ((s.length * nb : Nat) : Int) := (Int.natCast_mul _ _).symm
 have hmb : s.length * nb ≤ 6000000 := by have := Nat.mul_le_mul hlen hnb6; omega
 have hw1 : IntKind.i64.wrap ((s.length : Int) * (nb : Int)) = (s.length : Int) * (nb : Int) := by rw [hmul, IntKind.wrap_i64]; omega
 have hdv : ((s.length : Int) * (nb : Int)).tdiv 8 = (M : Int) := by rw [hmul, ← hM, Int.tdiv_eq_ediv_of_nonneg (by omega)]; omega
 clear hA hF0 hF1 hgr1 hg0 hown1 hmul hM
 go_enter Tryz.func164, Tryz.ntmps164
 go_wp2_with fail
 go_loopg [6, 7, 8, 20] (s.length + 1) (fun g vo vb vh vi wr => ∃ (i bt h : Nat) (out : Bs), vb = .int .i64 (bt : Int) ∧ vh = .int .i64 (h : Int) ∧ vi = .int .i64 (i : Int) ∧ i ≤ s.length ∧ i + g = s.length + 1 ∧ h < 8 ∧ bt < 2 ^ h ∧ out.length ≤ i ∧
  wr.heap[w.heap.size]? = some (.cells #[.string ⟨signs.toArray⟩, .int .i64 (nb : Int)] 182 (0, 0)) ∧ Hid (OB (w.heap.size + 1) out vo wr) ∧ Hid (Fr NoB w wr) ∧ Hid (dLoop signs nb bt h out (s.drop i) = R))
 case atStart => exact ⟨0, 0, 0, [], rfl, rfl, rfl, by omega, by omega, by omega, by simp, by simp, HA1.out, Hown1, HF1, HR⟩
 case round =>
  clear HA1 Hown1 HF1 HR hmk hw1 hdv
  obtain ⟨i, bt, h, out, rfl, rfl, rfl, hi, hig, hh, hbt, hol, hA, HO, HF, HS⟩ := hrel
  have a0 : wr.cell? ⟨w.heap.size, 0, none⟩ = some (.string ⟨signs.toArray⟩) := by simp [World.cell?, hA]
  have a1 : wr.cell? ⟨w.heap.size, 1, none⟩ = some (.int .i64 (nb : Int)) := by simp [World.cell?, hA]
  have HA := Lib.hid hA
  obtain ⟨oa, oc, rfl⟩ := HO.out.form
  have hbt256 : bt < 256 := Nat.lt_of_lt_of_le hbt (by have := Nat.pow_le_pow_right (n := 2) (by decide) (show h ≤ 7 by omega); omega)
  clear hA
  rcases Nat.lt_or_ge i s.length with hlt | hge
  ·obtain ⟨c, hc⟩ : ∃ c, s[i]? = some c := ⟨_, List.getElem?_eq_getElem hlt⟩
   have hcb : ∀ h, (ByteArray.mk s.toArray)[i]'h = c := by
    intro h
    exact (List.getElem?_eq_some_iff.1 hc).2
   have hsz : (ByteArray.mk s.toArray).size = s.length := rfl
   have hd : s.drop i = c :: s.drop (i + 1) := by
    rw [List.drop_eq_getElem_cons hlt]
    congr 1
    exact (List.getElem?_eq_some_iff.1 hc).2
   have hS := HS.out
   rw [hd, dLoop] at hS
   have hix := idx_byte c signs
   have hib := fun W => Go.Proofs.Tryz.strings_IndexByte ⟨signs.toArray⟩ (c.toNat : Int) W
   rw [show ((c.toNat : Int).toNat.toUInt8) = c by simp, show (ByteArray.mk signs.toArray).data.toList = signs by simp] at hib
   rw [hix] at hib
   clear hix HS hc hd
   cases hk : idx signs c with
   | none =>
     rw [hk] at hS hib
     simp only at hS hib
     have HR := Lib.hid hS
     have Hib := Lib.hid hib
     clear hS hib hk
     go_wp2_with fail
     go_region_held3 (fun W => W.cell? ⟨w.heap.size, 0, none⟩ = some (.string ⟨signs.toArray⟩) ∧ W.cell? ⟨w.heap.size, 1, none⟩ = some (.int .i64 (nb : Int))) (go_keep) ((go_at_call 205; refine (Hib.out _).mono ?_; rintro e w5 ⟨rfl, rfl⟩))
     go_wp2_with fail
     go_ret2
     exact ⟨by rw [← HR.out]; rfl, HF.out.drew⟩
   | some k =>
     rw [hk] at hS hib
     simp only at hS hib
     have hkl := idx_lt hk
     rw [Hs.out] at hkl
     have Hib := Lib.hid hib
     have hQ64 := Nat.pow_le_pow_right (n := 2) (by decide) hnb6
     have hpn : 2 ^ (h + nb) = 2 ^ h * 2 ^ nb := Nat.pow_add 2 h nb
     have hB2 : bt * 2 ^ nb + k < 2 ^ (h + nb) := by
      have := Nat.mul_le_mul_right (2 ^ nb) (show bt + 1 ≤ 2 ^ h by omega)
      rw [Nat.add_mul] at this
      omega
     have hB3 : bt * 2 ^ nb ≤ 16384 := by
      have := Nat.mul_le_mul (show bt ≤ 256 by omega) hQ64
      omega
     have hor := or_bits bt nb k (by omega) hkl hnb6
     have hpow : (2 : Int) ^ nb = ((2 ^ nb : Nat) : Int) := by simp
     obtain ⟨B1, hBe⟩ : ∃ B1, bt * 2 ^ nb + k = B1 := ⟨_, rfl⟩
     rw [hBe] at hor hB2 hS
     have hB1 : B1 ≤ 17000 := by omega
     have hH1 : (h : Int) + (nb : Int) = ((h + nb : Nat) : Int) := by push_cast; rfl
     obtain ⟨H1, hHe⟩ : ∃ H1, h + nb = H1 := ⟨_, rfl⟩
     rw [hHe] at hH1 hB2 hS
     have hH13 : H1 ≤ 13 := by omega
     generalize 2 ^ nb = Q at *
     have hw1 : IntKind.i64.wrap ((bt : Int) * (Q : Int)) = (bt : Int) * (Q : Int) := by rw [← Int.natCast_mul, IntKind.wrap_i64]; omega
     have hw2 : IntKind.i64.wrap (H1 : Int) = (H1 : Int) := by rw [IntKind.wrap_i64]; omega
     have hnb0 : (0 : Int) ≤ (nb : Int) := by omega
     have hnb64 : (nb : Int) ≤ 64 := by omega
     have HSS := Lib.hid hS
     have HFd := Lib.hid (HF.out.drew.drew)
     have HOd := Lib.hid ((HO.out.fr ((Fr.refl (M := NoB) (w := wr)).drew) (fun _ _ _ _ h => h)).fr ((Fr.refl (M := NoB) (w := wr.drew)).drew) (fun _ _ _ _ h => h))
     have hkn : ¬ ((k : Int) < 0) := by omega
     clear hS hib hk hpn hBe hHe hB3 hQ64
     by_cases h8 : 8 ≤ H1
     ·have hS := HSS.out
      rw [if_pos h8] at hS
      obtain ⟨H2, rfl⟩ : ∃ H2, H1 = H2 + 8 := ⟨H1 - 8, by omega⟩
      rw [show H2 + 8 - 8 = H2 by omega] at hS
      have hP1 : 1 ≤ 2 ^ H2 := Nat.one_le_two_pow
      have hP13 := pow_le13 (h := H2) (by omega)
      have hM := Nat.mod_lt B1 (show 0 < 2 ^ H2 by omega)
      have hpp : 2 ^ (H2 + 8) = 2 ^ H2 * 256 := Nat.pow_add 2 H2 8
      have hX : B1 / 2 ^ H2 < 256 := Nat.div_lt_of_lt_mul (by omega)
      have hand : Go.bits .and .i64 (B1 : Int) ((2 ^ H2 : Nat) - 1 : Int) = ((B1 % 2 ^ H2 : Nat) : Int) := by
       have h := i64_and_nat B1 (2 ^ H2 - 1) (by omega) (by omega)
       rw [Nat.and_two_pow_sub_one_eq_mod] at h
       rw [← h]
       congr 1
       omega
      have hpow2 : (2 : Int) ^ H2 = ((2 ^ H2 : Nat) : Int) := by simp
      generalize hPe : 2 ^ H2 = P at *
      have hcv : IntKind.u8.wrap ((B1 : Int) / (P : Int)) = ((UInt8.ofNat (B1 / P)).toNat : Int) := by
       rw [← Int.natCast_ediv, UInt8.toNat_ofNat', Nat.mod_eq_of_lt hX]
       rw [IntKind.wrap_u8]
       generalize B1 / P = X at hX ⊢
       omega
      have HS2 := Lib.hid hS
      have HM := Lib.hid hM
      have Hpe := Lib.hid hPe
      obtain ⟨x, hx⟩ : ∃ x, UInt8.ofNat (B1 / P) = x := ⟨_, rfl⟩
      rw [hx] at hcv HS2
      clear hS hM hpp hPe hx HSS hX
      go_wp2_with fail
      go_region_held3 (fun W => W.cell? ⟨w.heap.size, 0, none⟩ = some (.string ⟨signs.toArray⟩) ∧ W.cell? ⟨w.heap.size, 1, none⟩ = some (.int .i64 (nb : Int))) (go_keep) ((go_at_call 205; refine (Hib.out _).mono ?_; rintro e w5 ⟨rfl, rfl⟩))
      go_wp2_with fail
      go_region_held3 (fun W => W.cell? ⟨w.heap.size, 0, none⟩ = some (.string ⟨signs.toArray⟩) ∧ W.cell? ⟨w.heap.size, 1, none⟩ = some (.int .i64 (nb : Int))) (go_keep) (fail)
      go_wp2_with (at_builtin; refine wpList_append_own _ rfl _ _ 36 rfl (w.heap.size + 1) 5 i0 (.int .u8 0) 1 1 Tryz.underlying36 hi0 hz0 hz1 hz2 rfl (by decide) (.slice oa out.length oc) out.length (Lib.byteCells out) (by rfl) (HOd.out.alloc _) ⟨_, 0, none⟩ 1 1 [.int .u8 (x.toNat : Int)] (by rfl) (by rfl) ?c1 ?c2 ?c3 ?c4 ?c5 ?_)
      case c1 => exact cells_at wr.drew.drew _ _ _ (by simp)
      case c2 => simp [Value.oneCell']
      case c3 => unfold maxLen; omega
      case c4 => omega
      case c5 => have := HF.out.size; have := get_lt HA.out; simp; omega
      intro v' w6 hown6 hgr6 _
      obtain ⟨ho6, hF6⟩ := OB.push (news := [x]) HOd.out ((Fr.refl (M := NoB)).alloc (w := wr.drew.drew) (.cells #[.int .u8 (x.toNat : Int)] 5)) hown6 hgr6
      have hA6 := hF6.block _ _ HA.out (by omega)
      have HO6 := Lib.hid ho6
      have HF6 := Lib.hid (HFd.out.trans hF6 (fun k o hm => .inr (by omega)))
      obtain ⟨va, vc, rfl⟩ := ho6.form
      clear hown6 hgr6 ho6 hF6
      go_wp2_with fail
      go_roundg (s.length + 1 - (i + 1))
      case measure => omega
      case rel =>
       refine ⟨i + 1, B1 % P, H2, out ++ [x], by rw [Int.natCast_emod], rfl, by push_cast; rfl, by omega, by omega, by omega, by rw [Hpe.out]; exact HM.out, by rw [List.length_append]; simp only [List.length_cons, List.length_nil]; omega, hA6, HO6, HF6, HS2⟩
     ·have hS := HSS.out
      rw [if_neg h8] at hS
      have HS2 := Lib.hid hS
      have h8' : ¬ (8 : Int) ≤ (H1 : Int) := by omega
      clear hS HSS h8
      go_wp2_with fail
      go_region_held3 (fun W => W.cell? ⟨w.heap.size, 0, none⟩ = some (.string ⟨signs.toArray⟩) ∧ W.cell? ⟨w.heap.size, 1, none⟩ = some (.int .i64 (nb : Int))) (go_keep) ((go_at_call 205; refine (Hib.out _).mono ?_; rintro e w5 ⟨rfl, rfl⟩))
      go_wp2_with fail
      go_region_held3 (fun W => W.cell? ⟨w.heap.size, 0, none⟩ = some (.string ⟨signs.toArray⟩) ∧ W.cell? ⟨w.heap.size, 1, none⟩ = some (.int .i64 (nb : Int))) (go_keep) (fail)
      go_wp2_with fail
      go_roundg (s.length + 1 - (i + 1))
      case measure => omega
      case rel =>
       exact ⟨i + 1, B1, H1, out, rfl, rfl, by push_cast; rfl, by omega, by omega, by omega, hB2, by omega, HA.out, HOd, HFd, HS2⟩
  ·obtain rfl : i = s.length := by omega
   have hS := HS.out
   rw [List.drop_length, dLoop] at hS
   have hsb := HO.out.sb
   have HSb := Lib.hid hsb
   clear hsb
   rcases Nat.lt_or_ge h nb with hlt2 | hge2
   ·have hh2 : ¬ (nb : Int) ≤ (h : Int) := by omega
    by_cases hb0 : bt = 0
    ·rw [if_neg (by omega)] at hS
     have hq : ((bt : Int) == 0) = true := by rw [beq_iff_eq]; omega
     have hq2 : ((bt : Int) != 0) = false := by rw [bne, hq]; rfl
     have HR := Lib.hid hS
     clear hS HS hb0
     go_wp2_with fail
     go_ret2
     exact ⟨by rw [← HR.out]; exact ⟨_, _, rfl, HSb.out.kp (fun b o hb ho _ => ⟨by omega, ho⟩)⟩, HF.out⟩
    ·rw [if_pos (.inr hb0)] at hS
     have hq : ((bt : Int) == 0) = false := by rw [beq_eq_false_iff_ne]; omega
     have hq2 : ((bt : Int) != 0) = true := by rw [bne, hq]; rfl
     have HR := Lib.hid hS
     clear hS HS hb0
     go_wp2_with fail
     go_ret2
     exact ⟨by rw [← HR.out]; rfl, HF.out⟩
   ·rw [if_pos (.inl hge2)] at hS
    have hh2 : (nb : Int) ≤ (h : Int) := by omega
    have HR := Lib.hid hS
    clear hS HS
    go_wp2_with fail
    go_ret2
    exact ⟨by rw [← HR.out]; rfl, HF.out⟩
end Go.Proofs.YtcddlemkimbkcaaGreatDoor
