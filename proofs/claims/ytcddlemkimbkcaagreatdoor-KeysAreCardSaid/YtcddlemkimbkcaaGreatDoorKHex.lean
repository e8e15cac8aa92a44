/-
  The walks of package coder: bytes as signs.
-/
import Derived.Test.YtcddlemkimbkcaaGreatDoorKBuilder
import Derived.Test.YtcddlemkimbkcaaGreatDoorKBytes
import Derived.Test.YtcddlemkimbkcaaGreatDoorKSpecCode
import Derived.Deep.RegionHeld3
namespace Go.Proofs.YtcddlemkimbkcaaGreatDoor
set_option linter.unusedVariables false
set_option linter.unusedSimpArgs false
set_option linter.unusedSectionVars false
open Go.RowKit
variable [OldK]
theorem i64_or_nat (a b : Nat) (ha : a < 9223372036854775808) (hb : b < 9223372036854775808) : bits .or .i64 (a : Int) (b : Int) = ((a ||| b : Nat) : Int) := by
  have hx : a ||| b < 2 ^ 63 := Nat.or_lt_two_pow (by omega) (by omega)
  show IntKind.i64.wrap ((BitVec.ofInt 64 (a : Int) ||| BitVec.ofInt 64 (b : Int)).toNat : Int) = _
  rw [BitVec.toNat_or, BitVec.ofInt_natCast, BitVec.ofInt_natCast, BitVec.toNat_ofNat, BitVec.toNat_ofNat, Nat.mod_eq_of_lt (by omega), Nat.mod_eq_of_lt (by omega), IntKind.wrap_i64]
  omega
theorem i64_and_nat (a b : Nat) (ha : a < 9223372036854775808) (hb : b < 9223372036854775808) : bits .and .i64 (a : Int) (b : Int) = ((a &&& b : Nat) : Int) := by
  have hx : a &&& b < 2 ^ 63 := Nat.and_lt_two_pow _ (by omega)
  show IntKind.i64.wrap ((BitVec.ofInt 64 (a : Int) &&& BitVec.ofInt 64 (b : Int)).toNat : Int) = _
  rw [BitVec.toNat_and, BitVec.ofInt_natCast, BitVec.ofInt_natCast, BitVec.toNat_ofNat, BitVec.toNat_ofNat, Nat.mod_eq_of_lt (by omega), Nat.mod_eq_of_lt (by omega), IntKind.wrap_i64]
  omega
/-- a byte behind some bits -/
theorem or_byte (a b : Nat) (ha : a < 1000000) (hb : b < 256) : bits .or .i64 ((a : Int) * 256) (b : Int) = ((a * 256 + b : Nat) : Int) := by
  have h := i64_or_nat (a * 256) b (by omega) (by omega)
  rw [show ((a : Int) * 256) = ((a * 256 : Nat) : Int) from (Int.natCast_mul a 256).symm, h]
  have h2 := Nat.shiftLeft_add_eq_or_of_lt (i := 8) (b := b) (by omega) a
  rw [Nat.shiftLeft_eq] at h2
  rw [← h2]
theorem pow_le13 {h : Nat} (hh : h ≤ 13) : 2 ^ h ≤ 8192 := by
  have := Nat.pow_le_pow_right (n := 2) (by decide) hh
  omega
theorem emit_stop {signs : Bs} {nb k b h : Nat} (hh : h < nb) : cEmit signs nb k b h = ([], b, h) := by
  cases k with
  | zero => rfl
  | succ k => rw [cEmit, if_neg (by omega)]
theorem emit_step {signs : Bs} {nb k b h : Nat} (hh : nb ≤ h) : cEmit signs nb (k + 1) b h = (sgn signs (b / 2 ^ (h - nb)) :: (cEmit signs nb k (b % 2 ^ (h - nb)) (h - nb)).1, (cEmit signs nb k (b % 2 ^ (h - nb)) (h - nb)).2) := by
  rw [cEmit, if_pos hh]
set_option maxRecDepth 100000 in
set_option maxHeartbeats 4000000 in
theorem code_c (signs : Bs) (nb : Nat) (hnb : nb = 4 ∨ nb = 6) (hs : signs.length = 2 ^ nb) (S : Nat → Prop) (l : Bs) (v : Value) (w : World) (hv : SB S l v w) (hlen : l.length ≤ 1000000) :
    Calls Tryz.prog 114 #[.agg #[.string ⟨signs.toArray⟩, .int .i64 (nb : Int)], v] w fun e w' => e = .returned (.string ⟨(cLoop signs nb 0 0 l).toArray⟩) ∧ Fr NoB w w' := by
  obtain ⟨q, cap, rfl⟩ := hv.form
  have Hs := Lib.hid hs
  clear hs
  generalize hR : cLoop signs nb 0 0 l = R
  have HR : Hid ([] ++ cLoop signs nb 0 0 (l.drop 0) = R) := hR
  clear hR
  have Hv := Lib.hid hv
  clear hv
  have hF0 := (Fr.refl (M := NoB)).alloc (w := w) (.cells #[.string ⟨signs.toArray⟩, .int .i64 (nb : Int)] 182)
  have hB := Bld.fresh (w.alloc (.cells #[.string ⟨signs.toArray⟩, .int .i64 (nb : Int)] 182))
  have hs1 : (w.alloc (.cells #[.string ⟨signs.toArray⟩, .int .i64 (nb : Int)] 182)).heap.size = w.heap.size + 1 := World.size_alloc _ _
  rw [hs1] at hB
  have hbx := hF0.alloc (.cells #[.pointer none, .slice none 0 0] 262)
  have hA := (Fr.refl (M := NoB)).alloc (w := w.alloc (.cells #[.string ⟨signs.toArray⟩, .int .i64 (nb : Int)] 182)) (.cells #[.pointer none, .slice none 0 0] 262) |>.block _ _ (heap_alloc_new w (.cells #[.string ⟨signs.toArray⟩, .int .i64 (nb : Int)] 182)) (fun h => h)
  have HF := Lib.hid hbx
  have HB := Lib.hid hB
  have HA := Lib.hid hA
  clear hF0 hB hs1 hbx hA
  go_enter Tryz.func114, Tryz.ntmps114
  go_wp2_with fail
  go_loopg [6, 7, 12] (l.length + 1) (fun g vb vh vi wr => ∃ (i bits h : Nat) (out : Bs), vb = .int .i64 (bits : Int) ∧ vh = .int .i64 (h : Int) ∧ vi = .int .i64 (i : Int) ∧ i ≤ l.length ∧ i + g = l.length + 1 ∧ h < nb ∧ bits < 2 ^ h ∧ out.length ≤ 8 * i ∧
    wr.heap[w.heap.size]? = some (.cells #[.string ⟨signs.toArray⟩, .int .i64 (nb : Int)] 182 (0, 0)) ∧ Hid (Bld (w.heap.size + 1) (w.heap.size + 1) out wr) ∧ Hid (Fr NoB w wr) ∧ Hid (out ++ cLoop signs nb bits h (l.drop i) = R))
  case atStart => exact ⟨0, 0, 0, [], rfl, rfl, rfl, by omega, by omega, by omega, by simp, by simp, HA.out, HB, HF, HR⟩
  case round =>
    clear HA HB HF HR
    obtain ⟨i, bits, h, out, rfl, rfl, rfl, hi, hig, hh, hbits, hol, hA, HB, HF, HS⟩ := hrel
    have a0 : wr.cell? ⟨w.heap.size, 0, none⟩ = some (.string ⟨signs.toArray⟩) := by simp [World.cell?, hA]
    have a1 : wr.cell? ⟨w.heap.size, 1, none⟩ = some (.int .i64 (nb : Int)) := by simp [World.cell?, hA]
    have HA := Lib.hid hA
    clear hA
    rcases Nat.lt_or_ge i l.length with hlt | hge
    · obtain ⟨c, hc⟩ : ∃ c, l[i]? = some c := ⟨_, List.getElem?_eq_getElem hlt⟩
      obtain ⟨g, o, cap', e9, hat⟩ := (Hv.out.fr HF.out (fun _ _ _ _ h => h)).at hc
      obtain ⟨rfl, rfl⟩ : q = some ⟨g, o, none⟩ ∧ cap = cap' := by simpa using e9
      clear e9
      have hc8 := UInt8.toNat_lt c
      have hnb6 : nb ≤ 6 := by omega
      have hb32 : bits < 32 := Nat.lt_of_lt_of_le hbits (by have := Nat.pow_le_pow_right (n := 2) (by decide) (show h ≤ 5 by omega); omega)
      have hor := or_byte bits c.toNat (by omega) hc8
      have hbB : bits * 256 + c.toNat < 2 ^ (h + 8) := by
        have : 2 ^ (h + 8) = 2 ^ h * 256 := Nat.pow_add 2 h 8
        omega
      have hd : l.drop i = c :: l.drop (i + 1) := by
        rw [List.drop_eq_getElem_cons hlt]
        congr 1
        exact (List.getElem?_eq_some_iff.1 hc).2
      have hS := HS.out
      rw [hd, cLoop, ← List.append_assoc] at hS
      have HS := Lib.hid hS
      have hi0 : i < 1000000 := by omega
      clear hS hd hc
      go_wp2_with fail
      clear hor
      obtain ⟨B, hBe⟩ : ∃ B : Nat, bits * 256 + c.toNat = B := ⟨_, rfl⟩
      rw [hBe] at HS hbB
      have Hbe := Lib.hid hBe
      go_loopg [6, 7] (h + 9) (fun k vb vh w2 => ∃ (b2 h2 : Nat) (out2 : Bs), vb = .int .i64 (b2 : Int) ∧ vh = .int .i64 (h2 : Int) ∧ h2 < k ∧ h2 ≤ 13 ∧ b2 < 2 ^ h2 ∧ out2.length * 4 + h2 ≤ 32 * i + 13 ∧
        w2.heap[w.heap.size]? = some (.cells #[.string ⟨signs.toArray⟩, .int .i64 (nb : Int)] 182 (0, 0)) ∧ Hid (Bld (w.heap.size + 1) (w.heap.size + 1) out2 w2) ∧ Hid (Fr NoB w w2) ∧
        Hid (out2 ++ (cEmit signs nb k b2 h2).1 ++ cLoop signs nb (cEmit signs nb k b2 h2).2.1 (cEmit signs nb k b2 h2).2.2 (l.drop (i + 1)) = R))
      case atStart => exact ⟨B, h + 8, out, by rw [← Hbe.out]; push_cast; rfl, by push_cast; rfl, by omega, by omega, hbB, by omega, HA.out, HB, HF, HS⟩
      case round =>
        obtain ⟨b2, h2, out2, rfl, rfl, hk, hh2, hb2, hol2, hA2, HB2, HF2, HS2⟩ := hrel
        rcases Nat.lt_or_ge h2 nb with hlt2 | hge2
        · have hS2 := HS2.out
          rw [emit_stop hlt2] at hS2
          simp only [List.append_nil] at hS2
          have HS3 := Lib.hid hS2
          have a1 : wr.cell? ⟨w.heap.size, 1, none⟩ = some (.int .i64 (nb : Int)) := by simp [World.cell?, hA2]
          have HA2 := Lib.hid hA2
          clear hS2 HS2 hA2
          go_wp2_with fail
          go_roundg (l.length + 1 - (i + 1))
          case measure => omega
          case rel => exact ⟨i + 1, b2, h2, out2, rfl, rfl, by push_cast; rfl, by omega, by omega, hlt2, hb2, by omega, HA2.out, HB2, HF2, HS3⟩
        · obtain ⟨H, rfl⟩ : ∃ H, h2 = nb + H := ⟨h2 - nb, by omega⟩
          obtain ⟨k, rfl⟩ : ∃ k', gk = k' + 1 := ⟨gk - 1, by omega⟩
          have hS2 := HS2.out
          rw [emit_step (by omega), show nb + H - nb = H by omega] at hS2
          have a0 : wr.cell? ⟨w.heap.size, 0, none⟩ = some (.string ⟨signs.toArray⟩) := by simp [World.cell?, hA2]
          have a1 : wr.cell? ⟨w.heap.size, 1, none⟩ = some (.int .i64 (nb : Int)) := by simp [World.cell?, hA2]
          have hP13 := pow_le13 (h := H) (by omega)
          have hP1 : 1 ≤ 2 ^ H := Nat.one_le_two_pow
          have hmul : 2 ^ (nb + H) = 2 ^ nb * 2 ^ H := Nat.pow_add 2 nb H
          have hX : b2 / 2 ^ H < signs.length := by rw [Hs.out]; exact Nat.div_lt_of_lt_mul (by rw [Nat.mul_comm]; omega)
          have hM := Nat.mod_lt b2 (show 0 < 2 ^ H by omega)
          have hb13 : b2 < 8192 := Nat.lt_of_lt_of_le hb2 (pow_le13 hh2)
          have hand : Go.bits .and .i64 (b2 : Int) ((2 ^ H : Nat) - 1 : Int) = ((b2 % 2 ^ H : Nat) : Int) := by
            have h := i64_and_nat b2 (2 ^ H - 1) (by omega) (by omega)
            rw [Nat.and_two_pow_sub_one_eq_mod] at h
            rw [← h]
            congr 1
            omega
          have hpow : (2 : Int) ^ H = ((2 ^ H : Nat) : Int) := by simp
          have hdiv : (b2 : Int) / ((2 ^ H : Nat) : Int) = ((b2 / 2 ^ H : Nat) : Int) := (Int.natCast_ediv b2 (2 ^ H)).symm
          generalize hPe : 2 ^ H = P at *
          have hX0 : (0 : Int) ≤ (b2 : Int) / (P : Int) := by rw [hdiv]; exact Int.natCast_nonneg _
          have hX2 : (b2 : Int) / (P : Int) < (signs.length : Int) := by rw [hdiv]; omega
          have hX3 : ((b2 : Int) / (P : Int)).toNat = b2 / P := by rw [hdiv, Int.toNat_natCast]
          have Hpe := Lib.hid hPe
          have hsz : (ByteArray.mk signs.toArray).size = signs.length := rfl
          have hget : ∀ h, (ByteArray.mk signs.toArray)[b2 / P]'h = sgn signs (b2 / P) := by
            intro h
            unfold sgn
            rw [List.getD_eq_getElem?_getD, List.getElem?_eq_getElem hX]
            rfl
          have hsub : (nb : Int) + (H : Int) - (nb : Int) = (H : Int) := by omega
          have hol3 : out2.length + 1 ≤ 140737488355328 := by omega
          have HBd := Lib.hid (HB2.out.fr (Fr.refl.drew (M := NoB)) (fun _ _ _ _ _ h => h))
          have HA2 := Lib.hid hA2
          have hN := HF2.out.size
          have HFd := Lib.hid (HF2.out.drew)
          have hol4 := hol2
          have HS3 := Lib.hid hS2
          have HM := Lib.hid hM
          clear hmul hM HS2 hA2 hdiv hPe hS2
          go_wp2_with fail
          go_region_held3 (fun W => W.cell? ⟨w.heap.size, 0, none⟩ = some (.string ⟨signs.toArray⟩) ∧ W.cell? ⟨w.heap.size, 1, none⟩ = some (.int .i64 (nb : Int))) (go_keep) ((go_at_call 166; refine (writeByte_c _ _ _ _ _ HBd.out hol3).mono ?_; rintro e w5 ⟨rfl, hB5, hF5⟩; have hA5 := hF5.block _ _ HA2.out (by rintro ⟨h1, _⟩; omega); obtain ⟨c0, c1⟩ := (⟨by simp [World.cell?, hA5], by simp [World.cell?, hA5]⟩ : w5.cell? ⟨w.heap.size, 0, none⟩ = some (.string ⟨signs.toArray⟩) ∧ w5.cell? ⟨w.heap.size, 1, none⟩ = some (.int .i64 (nb : Int)))))
          go_wp2_with fail
          go_roundg k
          case measure => omega
          case rel =>
            refine ⟨b2 % P, H, out2 ++ [sgn signs (b2 / P)], by rw [Int.natCast_emod], rfl, by omega, by omega, by rw [Hpe.out]; exact HM.out, by rw [List.length_append]; simp only [List.length_cons, List.length_nil]; omega, hA5, Lib.hid hB5, Lib.hid (HFd.out.trans hF5 (fun k o hm => .inr (by have := hm.1; omega))), Lib.hid ?_⟩
            have := HS3.out
            simp only [List.append_assoc, List.cons_append, List.nil_append] at this ⊢
            exact this
    · obtain rfl : i = l.length := by omega
      have hS := HS.out
      rw [List.drop_length, cLoop] at hS
      have hN := HF.out.size
      have HBd := Lib.hid (HB.out.fr (Fr.refl.drew (M := NoB)) (fun _ _ _ _ _ h => h))
      have HFd := Lib.hid (HF.out.drew)
      have hol1 : out.length + 1 ≤ 140737488355328 := by omega
      rcases Nat.eq_zero_or_pos h with rfl | hpos
      · rw [if_neg (by omega), List.append_nil] at hS
        have HS4 := Lib.hid hS
        clear HS hS
        go_wp2_with fail
        refine (string_c _ _ _ _ HB.out).mono ?_
        rintro e w5 ⟨rfl, hF5⟩
        go_wp2_with fail
        go_ret
        exact ⟨ret_str (by rw [HS4.out]), HF.out.trans hF5 (fun k o hm => .inr (by have := hm.1; omega))⟩
      · rw [if_pos hpos] at hS
        have hP1 : 1 ≤ 2 ^ (nb - h) := Nat.one_le_two_pow
        have hmul : 2 ^ nb = 2 ^ h * 2 ^ (nb - h) := by rw [← Nat.pow_add]; congr 1; omega
        have hX : bits * 2 ^ (nb - h) < signs.length := by rw [Hs.out, hmul]; exact Nat.mul_lt_mul_of_pos_right hbits (by omega)
        have hP6 : 2 ^ (nb - h) ≤ 64 := by have := Nat.pow_le_pow_right (n := 2) (by decide) (show nb - h ≤ 6 by omega); omega
        have hb32 : bits < 32 := Nat.lt_of_lt_of_le hbits (by have := Nat.pow_le_pow_right (n := 2) (by decide) (show h ≤ 5 by omega); omega)
        have hsub : (nb : Int) - (h : Int) = ((nb - h : Nat) : Int) := by omega
        obtain ⟨H, hH⟩ : ∃ H, nb - h = H := ⟨_, rfl⟩
        rw [hH] at hP1 hmul hX hP6 hsub hS
        have hwsub : IntKind.i64.wrap (H : Int) = (H : Int) := by rw [IntKind.wrap_i64]; omega
        have hpow : (2 : Int) ^ H = ((2 ^ H : Nat) : Int) := by simp
        have hH0 : (0 : Int) ≤ (H : Int) := Int.natCast_nonneg _
        have hH6 : (H : Int) ≤ 6 := by omega
        generalize hPe : 2 ^ H = P at *
        have hbp : bits * P ≤ 2048 := by
          have := Nat.mul_le_mul (show bits ≤ 32 by omega) hP6
          omega
        have hX0 : (0 : Int) ≤ (bits : Int) * (P : Int) := by rw [← Int.natCast_mul]; exact Int.natCast_nonneg _
        have hX2 : (bits : Int) * (P : Int) < (signs.length : Int) := by rw [← Int.natCast_mul]; omega
        have hX3 : ((bits : Int) * (P : Int)).toNat = bits * P := by rw [← Int.natCast_mul, Int.toNat_natCast]
        have hX4 : IntKind.i64.wrap ((bits : Int) * (P : Int)) = (bits : Int) * (P : Int) := by rw [← Int.natCast_mul, IntKind.wrap_i64]; omega
        have hsz : (ByteArray.mk signs.toArray).size = signs.length := rfl
        have hget : ∀ h, (ByteArray.mk signs.toArray)[bits * P]'h = sgn signs (bits * P) := by
          intro h
          unfold sgn
          rw [List.getD_eq_getElem?_getD, List.getElem?_eq_getElem hX]
          rfl
        have hpos2 : (0 : Int) < (h : Int) := by omega
        have HS4 := Lib.hid hS
        clear HS hmul hPe hH hS
        go_wp2_with fail
        go_region_held3 (fun W => W.cell? ⟨w.heap.size, 0, none⟩ = some (.string ⟨signs.toArray⟩) ∧ W.cell? ⟨w.heap.size, 1, none⟩ = some (.int .i64 (nb : Int))) (go_keep) ((go_at_call 166; refine (writeByte_c _ _ _ _ _ HBd.out hol1).mono ?_; rintro e w5 ⟨rfl, hB5, hF5⟩; have hA5 := hF5.block _ _ HA.out (by rintro ⟨h1, _⟩; omega); obtain ⟨c0, c1⟩ := (⟨by simp [World.cell?, hA5], by simp [World.cell?, hA5]⟩ : w5.cell? ⟨w.heap.size, 0, none⟩ = some (.string ⟨signs.toArray⟩) ∧ w5.cell? ⟨w.heap.size, 1, none⟩ = some (.int .i64 (nb : Int)))))
        go_wp2_with fail
        refine (string_c _ _ _ _ hB5).mono ?_
        rintro e w6 ⟨rfl, hF6⟩
        go_wp2_with fail
        go_ret
        have hs5 := hF5.size
        exact ⟨ret_str (by rw [HS4.out]), (HFd.out.trans hF5 (fun k o hm => .inr (by have := hm.1; omega))).trans hF6 (fun k o hm => .inr (by have := hm.1; omega))⟩
set_option maxRecDepth 100000 in
set_option maxHeartbeats 1000000 in
theorem hexes_c (w : World) : Calls Tryz.prog 113 #[] w fun e w' => e = .returned (.agg #[.string ⟨hexes.toArray⟩, .int .i64 4]) ∧ Fr NoB w w' := by
  go_enter Tryz.func113, Tryz.ntmps113
  go_wp2_with fail
  refine bodyPost_ret (v := .agg #[.string ⟨hexes.toArray⟩, .int .i64 4]) (by simp [results, Tryz.results113, go_sem, hexes]) rfl ?_
  exact ⟨rfl, Fr.refl.alloc _⟩
set_option maxRecDepth 100000 in
set_option maxHeartbeats 1000000 in
/-- Hex: the figures of bytes -/
theorem hex_c (S : Nat → Prop) (l : Bs) (v : Value) (w : World) (hv : SB S l v w) (hlen : l.length ≤ 1000000) :
    Calls Tryz.prog 62 #[v] w fun e w' => e = .returned (.string ⟨(hexS l).toArray⟩) ∧ Fr NoB w w' := by
  have hc := fun W hW => code_c hexes 4 (.inl rfl) rfl S l v W hW hlen
  rw [code_hex] at hc
  obtain ⟨q, cap, rfl⟩ := hv.form
  obtain ⟨X, hX⟩ : ∃ X : Bs, X = hexes := ⟨_, rfl⟩
  have hh := hexes_c w
  rw [← hX] at hc hh
  have Hc := Lib.hid hc
  have Hh := Lib.hid hh
  have Hv := Lib.hid hv
  clear hc hh hv hX
  go_enter Tryz.func62, Tryz.ntmps62
  go_wp2_with fail
  refine Hh.out.mono ?_
  rintro e w1 ⟨rfl, hF1⟩
  have Hv1 := Lib.hid (Hv.out.fr hF1 (fun _ _ _ _ h => h))
  have HF1 := Lib.hid hF1
  clear hF1
  go_wp2_with fail
  refine (Hc.out _ Hv1.out).mono ?_
  rintro e w2 ⟨rfl, hF2⟩
  go_wp2_with fail
  go_ret
  exact ⟨rfl, HF1.out.trans' hF2⟩
end Go.Proofs.YtcddlemkimbkcaaGreatDoor
