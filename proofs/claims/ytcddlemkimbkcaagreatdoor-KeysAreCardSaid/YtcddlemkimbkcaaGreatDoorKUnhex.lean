/-
  The walks of package coder: the bytes of signs.
-/
import Derived.Test.YtcddlemkimbkcaaGreatDoorKHex
import Derived.Test.YtcddlemkimbkcaaGreatDoorKOwn
import Derived.Laws.MakeOwn
import Derived.Lib.Bytealg
namespace Go.Proofs.YtcddlemkimbkcaaGreatDoor
set_option linter.unusedVariables false
set_option linter.unusedSimpArgs false
set_option linter.unusedSectionVars false
open Go.RowKit
variable [OldK]
theorem idx_eq (c : UInt8) (l : Bs) : idx (c :: l) c = some 0 := by
  unfold idx
  simp
theorem idx_ne {b c : UInt8} (l : Bs) (h : ¬ b = c) : idx (b :: l) c = (idx l c).map (· + 1) := by
  have hb : (b == c) = false := by rw [beq_eq_false_iff_ne]; exact h
  have hi : (b :: l).idxOf c = l.idxOf c + 1 := by rw [List.idxOf_cons, hb]; rfl
  unfold idx
  rw [hi, List.length_cons]
  by_cases h2 : l.idxOf c < l.length
  · rw [if_pos h2, if_pos (by omega)]; rfl
  · rw [if_neg h2, if_neg (by omega)]; rfl
theorem idx_byte (c : UInt8) : ∀ l : Bs, Lib.indexByte l c = match idx l c with | some k => (k : Int) | none => -1 := by
  intro l
  induction l with
  | nil => rfl
  | cons b l ih =>
    unfold Lib.indexByte
    by_cases h : b = c
    · subst h
      rw [idx_eq]
      simp
    · have hb : (b == c) = false := by rw [beq_eq_false_iff_ne]; exact h
      rw [idx_ne l h, ih, hb]
      cases idx l c with
      | none => simp
      | some k =>
        simp only [Option.map_some, Bool.false_eq_true, if_false]
        rw [if_neg (by rw [beq_iff_eq]; omega)]
        push_cast
        rfl
theorem idx_lt {l : Bs} {c : UInt8} {k : Nat} (h : idx l c = some k) : k < l.length := by
  unfold idx at h
  split at h
  · simp only [Option.some.injEq] at h; omega
  · simp at h
theorem or_bits (a n b : Nat) (ha : a * 2 ^ n < 1000000) (hb : b < 2 ^ n) (hn : n ≤ 6) : Go.bits .or .i64 ((a : Int) * ((2 ^ n : Nat) : Int)) (b : Int) = ((a * 2 ^ n + b : Nat) : Int) := by
  have hn6 := Nat.pow_le_pow_right (n := 2) (by decide) hn
  have h := i64_or_nat (a * 2 ^ n) b (by omega) (by omega)
  rw [← Int.natCast_mul, h]
  have h2 := Nat.shiftLeft_add_eq_or_of_lt (i := n) (b := b) hb a
  rw [Nat.shiftLeft_eq] at h2
  rw [← h2]
/-- what decode hands back: bytes of its own, or an error -/
def DecPost (B : Nat) (r : Option Bs) (e : Ending) (w' : World) : Prop :=
  match r with
  | some b => ∃ a c, e = .returned (.tuple #[.slice a b.length c, .nilIface]) ∧ SB (fun k => B ≤ k) b (.slice a b.length c) w'
  | none => e = .returned (.tuple #[.slice none 0 0, .iface 56 (.int .i64 1)])
set_option maxRecDepth 100000 in
set_option maxHeartbeats 4000000 in
theorem decode_c (signs : Bs) (nb : Nat) (hnb : nb = 4 ∨ nb = 6) (hs : signs.length = 2 ^ nb) (s : Bs) (w : World) (hlen : s.length ≤ 1000000) :
    Calls Tryz.prog 164 #[.agg #[.string ⟨signs.toArray⟩, .int .i64 (nb : Int)], .string ⟨s.toArray⟩] w fun e w' => DecPost w.heap.size (dLoop signs nb 0 0 [] s) e w' ∧ Fr NoB w w' := by
  have Hs := Lib.hid hs
  clear hs
  generalize hR : dLoop signs nb 0 0 [] s = R
  have HR : Hid (dLoop signs nb 0 0 [] (s.drop 0) = R) := hR
  clear hR
  obtain ⟨i0, hi0, hz0, hz1, hz2⟩ := info_parts Tryz.infoByte
  have hnb6 : nb ≤ 6 := by omega
  have hnb1 : 4 ≤ nb := by omega
  have hA := heap_alloc_new w (.cells #[.string ⟨signs.toArray⟩, .int .i64 (nb : Int)] 182)
  have hF0 := (Fr.refl (M := NoB)).alloc (w := w) (.cells #[.string ⟨signs.toArray⟩, .int .i64 (nb : Int)] 182)
  obtain ⟨M, hM⟩ : ∃ M : Nat, s.length * nb / 8 = M := ⟨_, rfl⟩
  have hM1 : M ≤ 1000000 := by
    rw [← hM]
    have := Nat.mul_le_mul hlen hnb6
    omega
  obtain ⟨w1, hmk, hown1, hgr1⟩ := run_make_own (P := Tryz.prog) (w.alloc (.cells #[.string ⟨signs.toArray⟩, .int .i64 (nb : Int)] 182)) (w.heap.size + 1) 36 5 i0 (.int .u8 0) 1 Tryz.underlying36 hi0 hz0 hz1 .i64 .i64 M (by rw [hz2]; omega) (by unfold maxLen; omega) (by rw [World.size_alloc]; omega)
  have hF1 : Fr NoB (w.alloc (.cells #[.string ⟨signs.toArray⟩, .int .i64 (nb : Int)] 182)) w1 := (Fr.ofGrown hgr1).mono (fun k _ h => by simp at h)
  have HA1 := Lib.hid (hF1.block _ _ hA (fun h => h))
  have HF1 := Lib.hid (hF0.trans' hF1)
  have hg0 : 1 ≤ (w.alloc (.cells #[.string ⟨signs.toArray⟩, .int .i64 (nb : Int)] 182)).heap.size := by rw [World.size_alloc]; omega
  have hsz1 : (w.alloc (.cells #[.string ⟨signs.toArray⟩, .int .i64 (nb : Int)] 182)).heap.size = w.heap.size + 1 := World.size_alloc _ _
  rw [hsz1] at hmk hown1
  have Hown1 : Hid (OB (w.heap.size + 1) [] (.slice (some ⟨w.heap.size + 1, 0, none⟩) 0 M) w1) := Lib.hid hown1
  have hmul : ((s.length : Int) * (nb : Int)) = ((s.length * nb : Nat) : Int) := (Int.natCast_mul _ _).symm
  have hmb : s.length * nb ≤ 6000000 := by have := Nat.mul_le_mul hlen hnb6; omega
  have hw1 : IntKind.i64.wrap ((s.length : Int) * (nb : Int)) = (s.length : Int) * (nb : Int) := by rw [hmul, IntKind.wrap_i64]; omega
  have hdv : ((s.length : Int) * (nb : Int)).tdiv 8 = (M : Int) := by rw [hmul, ← hM, Int.tdiv_eq_ediv_of_nonneg (by omega)]; omega
  clear hA hF0 hF1 hgr1 hg0 hown1 hmul hM
  go_enter Tryz.func164, Tryz.ntmps164
  go_wp2_with fail
  go_loopg [6, 7, 8, 20] (s.length + 1) (fun g vo vb vh vi wr => ∃ (i bt h : Nat) (out : Bs), vb = .int .i64 (bt : Int) ∧ vh = .int .i64 (h : Int) ∧ vi = .int .i64 (i : Int) ∧ i ≤ s.length ∧ i + g = s.length + 1 ∧ h < 8 ∧ bt < 2 ^ h ∧ out.length ≤ i ∧
    wr.heap[w.heap.size]? = some (.cells #[.string ⟨signs.toArray⟩, .int .i64 (nb : Int)] 182 (0, 0)) ∧ Hid (OB (w.heap.size + 1) out vo wr) ∧ Hid (Fr NoB w wr) ∧ Hid (dLoop signs nb bt h out (s.drop i) = R))
  case atStart => exact ⟨0, 0, 0, [], rfl, rfl, rfl, by omega, by omega, by omega, by simp, by simp, HA1.out, Hown1, HF1, HR⟩
  case round =>
    clear HA1 Hown1 HF1 HR hmk hw1 hdv
    obtain ⟨i, bt, h, out, rfl, rfl, rfl, hi, hig, hh, hbt, hol, hA, HO, HF, HS⟩ := hrel
    have a0 : wr.cell? ⟨w.heap.size, 0, none⟩ = some (.string ⟨signs.toArray⟩) := by simp [World.cell?, hA]
    have a1 : wr.cell? ⟨w.heap.size, 1, none⟩ = some (.int .i64 (nb : Int)) := by simp [World.cell?, hA]
    have HA := Lib.hid hA
    obtain ⟨oa, oc, rfl⟩ := HO.out.form
    have hbt256 : bt < 256 := Nat.lt_of_lt_of_le hbt (by have := Nat.pow_le_pow_right (n := 2) (by decide) (show h ≤ 7 by omega); omega)
    clear hA
    rcases Nat.lt_or_ge i s.length with hlt | hge
    · obtain ⟨c, hc⟩ : ∃ c, s[i]? = some c := ⟨_, List.getElem?_eq_getElem hlt⟩
      have hcb : ∀ h, (ByteArray.mk s.toArray)[i]'h = c := by
        intro h
        exact (List.getElem?_eq_some_iff.1 hc).2
      have hsz : (ByteArray.mk s.toArray).size = s.length := rfl
      have hd : s.drop i = c :: s.drop (i + 1) := by
        rw [List.drop_eq_getElem_cons hlt]
        congr 1
        exact (List.getElem?_eq_some_iff.1 hc).2
      have hS := HS.out
      rw [hd, dLoop] at hS
      have hix := idx_byte c signs
      have hib := fun W => Go.Proofs.Tryz.strings_IndexByte ⟨signs.toArray⟩ (c.toNat : Int) W
      rw [show ((c.toNat : Int).toNat.toUInt8) = c by simp, show (ByteArray.mk signs.toArray).data.toList = signs by simp] at hib
      rw [hix] at hib
      clear hix HS hc hd
      cases hk : idx signs c with
      | none =>
        rw [hk] at hS hib
        simp only at hS hib
        have HR := Lib.hid hS
        have Hib := Lib.hid hib
        clear hS hib hk
        go_wp2_with fail
        go_region_held3 (fun W => W.cell? ⟨w.heap.size, 0, none⟩ = some (.string ⟨signs.toArray⟩) ∧ W.cell? ⟨w.heap.size, 1, none⟩ = some (.int .i64 (nb : Int))) (go_keep) ((go_at_call 205; refine (Hib.out _).mono ?_; rintro e w5 ⟨rfl, rfl⟩))
        go_wp2_with fail
        go_ret2
        exact ⟨by rw [← HR.out]; rfl, HF.out.drew⟩
      | some k =>
        rw [hk] at hS hib
        simp only at hS hib
        have hkl := idx_lt hk
        rw [Hs.out] at hkl
        have Hib := Lib.hid hib
        have hQ64 := Nat.pow_le_pow_right (n := 2) (by decide) hnb6
        have hpn : 2 ^ (h + nb) = 2 ^ h * 2 ^ nb := Nat.pow_add 2 h nb
        have hB2 : bt * 2 ^ nb + k < 2 ^ (h + nb) := by
          have := Nat.mul_le_mul_right (2 ^ nb) (show bt + 1 ≤ 2 ^ h by omega)
          rw [Nat.add_mul] at this
          omega
        have hB3 : bt * 2 ^ nb ≤ 16384 := by
          have := Nat.mul_le_mul (show bt ≤ 256 by omega) hQ64
          omega
        have hor := or_bits bt nb k (by omega) hkl hnb6
        have hpow : (2 : Int) ^ nb = ((2 ^ nb : Nat) : Int) := by simp
        obtain ⟨B1, hBe⟩ : ∃ B1, bt * 2 ^ nb + k = B1 := ⟨_, rfl⟩
        rw [hBe] at hor hB2 hS
        have hB1 : B1 ≤ 17000 := by omega
        have hH1 : (h : Int) + (nb : Int) = ((h + nb : Nat) : Int) := by push_cast; rfl
        obtain ⟨H1, hHe⟩ : ∃ H1, h + nb = H1 := ⟨_, rfl⟩
        rw [hHe] at hH1 hB2 hS
        have hH13 : H1 ≤ 13 := by omega
        generalize 2 ^ nb = Q at *
        have hw1 : IntKind.i64.wrap ((bt : Int) * (Q : Int)) = (bt : Int) * (Q : Int) := by rw [← Int.natCast_mul, IntKind.wrap_i64]; omega
        have hw2 : IntKind.i64.wrap (H1 : Int) = (H1 : Int) := by rw [IntKind.wrap_i64]; omega
        have hnb0 : (0 : Int) ≤ (nb : Int) := by omega
        have hnb64 : (nb : Int) ≤ 64 := by omega
        have HSS := Lib.hid hS
        have HFd := Lib.hid (HF.out.drew.drew)
        have HOd := Lib.hid ((HO.out.fr ((Fr.refl (M := NoB) (w := wr)).drew) (fun _ _ _ _ h => h)).fr ((Fr.refl (M := NoB) (w := wr.drew)).drew) (fun _ _ _ _ h => h))
        have hkn : ¬ ((k : Int) < 0) := by omega
        clear hS hib hk hpn hBe hHe hB3 hQ64
        by_cases h8 : 8 ≤ H1
        · have hS := HSS.out
          rw [if_pos h8] at hS
          obtain ⟨H2, rfl⟩ : ∃ H2, H1 = H2 + 8 := ⟨H1 - 8, by omega⟩
          rw [show H2 + 8 - 8 = H2 by omega] at hS
          have hP1 : 1 ≤ 2 ^ H2 := Nat.one_le_two_pow
          have hP13 := pow_le13 (h := H2) (by omega)
          have hM := Nat.mod_lt B1 (show 0 < 2 ^ H2 by omega)
          have hpp : 2 ^ (H2 + 8) = 2 ^ H2 * 256 := Nat.pow_add 2 H2 8
          have hX : B1 / 2 ^ H2 < 256 := Nat.div_lt_of_lt_mul (by omega)
          have hand : Go.bits .and .i64 (B1 : Int) ((2 ^ H2 : Nat) - 1 : Int) = ((B1 % 2 ^ H2 : Nat) : Int) := by
            have h := i64_and_nat B1 (2 ^ H2 - 1) (by omega) (by omega)
            rw [Nat.and_two_pow_sub_one_eq_mod] at h
            rw [← h]
            congr 1
            omega
          have hpow2 : (2 : Int) ^ H2 = ((2 ^ H2 : Nat) : Int) := by simp
          generalize hPe : 2 ^ H2 = P at *
          have hcv : IntKind.u8.wrap ((B1 : Int) / (P : Int)) = ((UInt8.ofNat (B1 / P)).toNat : Int) := by
            rw [← Int.natCast_ediv, UInt8.toNat_ofNat', Nat.mod_eq_of_lt hX]
            rw [IntKind.wrap_u8]
            generalize B1 / P = X at hX ⊢
            omega
          have HS2 := Lib.hid hS
          have HM := Lib.hid hM
          have Hpe := Lib.hid hPe
          obtain ⟨x, hx⟩ : ∃ x, UInt8.ofNat (B1 / P) = x := ⟨_, rfl⟩
          rw [hx] at hcv HS2
          clear hS hM hpp hPe hx HSS hX
          go_wp2_with fail
          go_region_held3 (fun W => W.cell? ⟨w.heap.size, 0, none⟩ = some (.string ⟨signs.toArray⟩) ∧ W.cell? ⟨w.heap.size, 1, none⟩ = some (.int .i64 (nb : Int))) (go_keep) ((go_at_call 205; refine (Hib.out _).mono ?_; rintro e w5 ⟨rfl, rfl⟩))
          go_wp2_with fail
          go_region_held3 (fun W => W.cell? ⟨w.heap.size, 0, none⟩ = some (.string ⟨signs.toArray⟩) ∧ W.cell? ⟨w.heap.size, 1, none⟩ = some (.int .i64 (nb : Int))) (go_keep) (fail)
          go_wp2_with (at_builtin; refine wpList_append_own _ rfl _ _ 36 rfl (w.heap.size + 1) 5 i0 (.int .u8 0) 1 1 Tryz.underlying36 hi0 hz0 hz1 hz2 rfl (by decide) (.slice oa out.length oc) out.length (Lib.byteCells out) (by rfl) (HOd.out.alloc _) ⟨_, 0, none⟩ 1 1 [.int .u8 (x.toNat : Int)] (by rfl) (by rfl) ?c1 ?c2 ?c3 ?c4 ?c5 ?_)
          case c1 => exact cells_at wr.drew.drew _ _ _ (by simp)
          case c2 => simp [Value.oneCell']
          case c3 => unfold maxLen; omega
          case c4 => omega
          case c5 => have := HF.out.size; have := get_lt HA.out; simp; omega
          intro v' w6 hown6 hgr6 _
          obtain ⟨ho6, hF6⟩ := OB.push (news := [x]) HOd.out ((Fr.refl (M := NoB)).alloc (w := wr.drew.drew) (.cells #[.int .u8 (x.toNat : Int)] 5)) hown6 hgr6
          have hA6 := hF6.block _ _ HA.out (by omega)
          have HO6 := Lib.hid ho6
          have HF6 := Lib.hid (HFd.out.trans hF6 (fun k o hm => .inr (by omega)))
          obtain ⟨va, vc, rfl⟩ := ho6.form
          clear hown6 hgr6 ho6 hF6
          go_wp2_with fail
          go_roundg (s.length + 1 - (i + 1))
          case measure => omega
          case rel =>
            refine ⟨i + 1, B1 % P, H2, out ++ [x], by rw [Int.natCast_emod], rfl, by push_cast; rfl, by omega, by omega, by omega, by rw [Hpe.out]; exact HM.out, by rw [List.length_append]; simp only [List.length_cons, List.length_nil]; omega, hA6, HO6, HF6, HS2⟩
        · have hS := HSS.out
          rw [if_neg h8] at hS
          have HS2 := Lib.hid hS
          have h8' : ¬ (8 : Int) ≤ (H1 : Int) := by omega
          clear hS HSS h8
          go_wp2_with fail
          go_region_held3 (fun W => W.cell? ⟨w.heap.size, 0, none⟩ = some (.string ⟨signs.toArray⟩) ∧ W.cell? ⟨w.heap.size, 1, none⟩ = some (.int .i64 (nb : Int))) (go_keep) ((go_at_call 205; refine (Hib.out _).mono ?_; rintro e w5 ⟨rfl, rfl⟩))
          go_wp2_with fail
          go_region_held3 (fun W => W.cell? ⟨w.heap.size, 0, none⟩ = some (.string ⟨signs.toArray⟩) ∧ W.cell? ⟨w.heap.size, 1, none⟩ = some (.int .i64 (nb : Int))) (go_keep) (fail)
          go_wp2_with fail
          go_roundg (s.length + 1 - (i + 1))
          case measure => omega
          case rel =>
            exact ⟨i + 1, B1, H1, out, rfl, rfl, by push_cast; rfl, by omega, by omega, by omega, hB2, by omega, HA.out, HOd, HFd, HS2⟩
    · obtain rfl : i = s.length := by omega
      have hS := HS.out
      rw [List.drop_length, dLoop] at hS
      have hsb := HO.out.sb
      have HSb := Lib.hid hsb
      clear hsb
      rcases Nat.lt_or_ge h nb with hlt2 | hge2
      · have hh2 : ¬ (nb : Int) ≤ (h : Int) := by omega
        by_cases hb0 : bt = 0
        · rw [if_neg (by omega)] at hS
          have hq : ((bt : Int) == 0) = true := by rw [beq_iff_eq]; omega
          have hq2 : ((bt : Int) != 0) = false := by rw [bne, hq]; rfl
          have HR := Lib.hid hS
          clear hS HS hb0
          go_wp2_with fail
          go_ret2
          exact ⟨by rw [← HR.out]; exact ⟨_, _, rfl, HSb.out.kp (fun b o hb ho _ => ⟨by omega, ho⟩)⟩, HF.out⟩
        · rw [if_pos (.inr hb0)] at hS
          have hq : ((bt : Int) == 0) = false := by rw [beq_eq_false_iff_ne]; omega
          have hq2 : ((bt : Int) != 0) = true := by rw [bne, hq]; rfl
          have HR := Lib.hid hS
          clear hS HS hb0
          go_wp2_with fail
          go_ret2
          exact ⟨by rw [← HR.out]; rfl, HF.out⟩
      · rw [if_pos (.inl hge2)] at hS
        have hh2 : (nb : Int) ≤ (h : Int) := by omega
        have HR := Lib.hid hS
        clear hS HS
        go_wp2_with fail
        go_ret2
        exact ⟨by rw [← HR.out]; rfl, HF.out⟩
end Go.Proofs.YtcddlemkimbkcaaGreatDoor
