/-
  The reference's reader of texts: a value.
-/
import Derived.Test.YtbfmpbhikipipaaGreatDoorKTxt14
namespace Go.Proofs.YtbfmpbhikipipaaGreatDoor
set_option linter.unusedVariables false
set_option linter.unusedSimpArgs false
set_option linter.unusedSectionVars false
open Go.RowKit
variable [OldK]
attribute [local irreducible] wpStill
/-- how things lie while a value is read -/
structure US (b : Nat) (L : Bs) (v : Value) (w : World) (c : Nat) (bd : Bool) (wr : World) : Prop where
  tx : TX b L v c bd wr
  sb : SB (fun k => k < w.heap.size) L v wr
  fr : Fr (MT b) w wr
  lt : b < w.heap.size
  old : OldK.k ≤ b
section
variable {b : Nat} {L : Bs} {v : Value} {w wr w1 : World} {c c' : Nat} {bd bd' : Bool}
theorem US.start (h : TX b L v c bd w) : US b L v w c bd w := ⟨h, h.2.1.below, Fr.refl, h.lt, h.1.2⟩
theorem US.call (h : US b L v w c bd wr) (hT : TX b L v c' bd' w1) (hF : Fr (MT b) wr w1) : US b L v w c' bd' w1 :=
  ⟨hT, SBlow h.sb h.old hF, h.fr.trans' hF, h.lt, h.old⟩
theorem US.callN (h : US b L v w c bd wr) (hF : Fr NoB wr w1) : US b L v w c bd w1 := h.call (h.tx.frN hF) (hF.mono (fun _ _ h => h.elim))
theorem US.set (h : US b L v w c bd wr) {B : Nat} (hB : w.heap.size ≤ B) (v0 v1 v2 v3 v4 : Value) : US b L v w c bd (setV B v0 v1 v2 v3 v4 wr) := by
  obtain ⟨g1, g2⟩ := h.tx.grow h.sb h.lt ((setV_fr B v0 v1 v2 v3 v4 wr).mono (M' := fun k _ => w.heap.size ≤ k) (fun k _ hm => by omega))
  exact ⟨g1, g2, h.fr.setV hB _ _ _ _ _, h.lt, h.old⟩
theorem must_rs {p : Bs} (h : if Lib.hasPrefix (L.drop c) p = true then TX b L v (c + p.length) false wr ∧ c + p.length ≤ L.length else TX b L v c true wr) (hc : c ≤ L.length) :
    ∃ c' bd', TX b L v c' bd' wr ∧ bd' = (sMust p ⟨L.drop c, false⟩).bad ∧ (bd' = false → L.drop c' = (sMust p ⟨L.drop c, false⟩).s ∧ c' ≤ L.length) ∧ c' ≤ L.length := by
  unfold sMust
  by_cases hp : Lib.hasPrefix (L.drop c) p = true
  · rw [if_pos hp] at h
    rw [if_pos hp]
    refine ⟨_, _, h.1, rfl, fun _ => ⟨?_, h.2⟩, h.2⟩
    simp only [Lib.trimPrefix]
    rw [if_pos hp, List.drop_drop]
  · rw [if_neg hp] at h
    rw [if_neg hp]
    exact ⟨_, _, h, rfl, fun h => by simp at h, hc⟩
end
section
variable {val : St → J × St} {d : Int} {st : St}
theorem sread_n : sRead val d 110 st = (J.zero, sMust sNull st) := by unfold sRead; rw [if_pos rfl]
theorem sread_t : sRead val d 116 st = (.mk 1 1 [] [] [], sMust sTrue st) := by unfold sRead; rw [if_neg (by decide), if_pos rfl]
theorem sread_f : sRead val d 102 st = (.mk 1 0 [] [] [], sMust sFalse st) := by unfold sRead; rw [if_neg (by decide), if_neg (by decide), if_pos rfl]
theorem sread_q : sRead val d 34 st = (.mk 3 0 (sText st).1 [] [], (sText st).2) := by unfold sRead; rw [if_neg (by decide), if_neg (by decide), if_neg (by decide), if_pos rfl]
theorem sread_l : sRead val d 91 st = (.mk 4 0 [] (sEach (sItem val) 91 93 (d + 1) st []).2 [], (sEach (sItem val) 91 93 (d + 1) st []).1) := by
  unfold sRead; rw [if_neg (by decide), if_neg (by decide), if_neg (by decide), if_neg (by decide), if_pos rfl]
theorem sread_o : sRead val d 123 st = (.mk 5 0 [] [] (sEach (sPair val) 123 125 (d + 1) st []).2, (sEach (sPair val) 123 125 (d + 1) st []).1) := by
  unfold sRead; rw [if_neg (by decide), if_neg (by decide), if_neg (by decide), if_neg (by decide), if_neg (by decide), if_pos rfl]
/-- a value from its first sign on -/
def tRead (val : St → J × St) (d : Int) : Bs → J × St
  | [] => (J.zero, ⟨[], true⟩)
  | c :: l => sRead val d c ⟨c :: l, false⟩
theorem sread_num {s : Bs} (h : ¬ nx s = 110 ∧ ¬ nx s = 116 ∧ ¬ nx s = 102 ∧ ¬ nx s = 34 ∧ ¬ nx s = 91 ∧ ¬ nx s = 123) :
    tRead val d s = numS s := by
  obtain ⟨h1, h2, h3, h4, h5, h6⟩ := h
  cases s with
  | nil => rfl
  | cons c l =>
    simp only [tRead]
    have hc : ∀ x : UInt8, ¬ nx (c :: l) = (x.toNat : Int) → ¬ c = x := by
      rintro x hx rfl
      exact hx rfl
    unfold sRead
    rw [if_neg (hc 110 h1), if_neg (hc 116 h2), if_neg (hc 102 h3), if_neg (hc 34 h4), if_neg (hc 91 h5), if_neg (hc 123 h6)]
    unfold sNumber numS
    simp only
    by_cases h45 : c = 45
    · rw [if_pos h45, if_pos (by rw [h45]; rfl)]; rfl
    · rw [if_neg h45, if_neg (fun h => h45 (UInt8.toNat_inj.1 (by simp only [nx] at h; show c.toNat = 45; omega)))]
end
set_option maxRecDepth 100000 in
set_option maxHeartbeats 8000000 in
theorem tvalue_c (b : Nat) (L : Bs) (v : Value) (hL : L.length ≤ 4096) : ∀ f, TValOk b L v f := by
  intro f
  induction f with
  | zero => intro d a w h ha h0 h1 h2; exfalso; simp at h2; omega
  | succ f ih =>
    intro d a w h ha hd0 hd8 hdf
    have hdf' : d + 1 + (f : Int) = 10 := by simp at hdf; omega
    have hbk := blk_le L a
    have hdb := drop_blk L a
    have hbl := fun W hW => tblanks_c b L v a false W hW hL (by omega)
    obtain ⟨p1, hp1⟩ : ∃ p1, blk L a = p1 := ⟨_, rfl⟩
    rw [hp1] at hbk hdb hbl
    have hp1L : p1 ≤ L.length := by omega
    have hnx := fun W hW => next_c b L v p1 false W hW hL (by omega)
    have hG : sValue (f + 1) d ⟨L.drop a, false⟩ = tRead (sValue f (d + 1)) d (L.drop p1) := by
      simp only [sValue]
      rw [hdb]
      cases sBlanks (L.drop a) <;> simp [tRead]
    obtain ⟨G, hGG⟩ : ∃ G, sValue (f + 1) d ⟨L.drop a, false⟩ = G := ⟨_, rfl⟩
    rw [hGG] at hG ⊢
    have HG := Lib.hid hG
    have Hbl := Lib.hid hbl
    have Hnx := Lib.hid hnx
    have HU0 := Lib.hid ((US.start h).callN ((Fr.refl (M := NoB)).alloc (.cells #[.int .i64 0, .int .i64 0, .string ⟨#[]⟩, .slice none 0 0, .slice none 0 0] 25)))
    have hR0 := heap_alloc_new w (.cells #[.int .i64 0, .int .i64 0, .string ⟨#[]⟩, .slice none 0 0, .slice none 0 0] 25)
    have HR0 := Lib.hid hR0
    have wd : IntKind.i64.wrap (d + 1) = d + 1 := by rw [IntKind.wrap_i64]; omega
    obtain ⟨m, hm⟩ : ∃ m, nx (L.drop p1) = m := ⟨_, rfl⟩
    rw [hm] at Hnx
    have HM := Lib.hid hm
    clear hG hGG hbl hnx hR0 hm h hdb hbk hp1
    by_cases mx : m = 110
    · have Hw := Lib.hid (fun W hW => word_c sNull b L v p1 false W hW hL (by omega) (by decide) (by decide))
      obtain ⟨l, hl⟩ := nx_cons (x := 110) (by decide) (HM.out.trans mx)
      have hG := HG.out
      rw [hl] at hG
      simp only [tRead, sread_n] at hG
      rw [← hl] at hG
      subst hG
      have qx : (m == 110) = true := by rw [beq_iff_eq]; exact mx
      clear HG HM mx
      clear ih hl
      go_enter Tryz.func45, Tryz.ntmps45
      go_wp2_with fail
      refine (Hbl.out _ HU0.out.tx).mono ?_
      rintro e w2 ⟨rfl, h2, hF2⟩
      have HU2 := Lib.hid (HU0.out.call h2 hF2)
      have HR2 := Lib.hid (hF2.block _ _ HR0.out MT_val)
      clear h2 hF2
      go_wp2_with fail
      refine (Hnx.out _ HU2.out.tx).mono ?_
      rintro e w3 ⟨rfl, h3, hF3⟩
      have HU3 := Lib.hid ((HU2.out.call h3 (hF3.mono (fun _ _ h => h.elim))).callN ((Fr.refl (M := NoB)).alloc (.cells #[.int .i64 0, .int .i64 0, .string ⟨#[]⟩, .slice none 0 0, .slice none 0 0] 25)))
      have hR3 := hF3.block _ _ HR2.out (fun h => h)
      have hN3 : w.heap.size < w3.heap.size := get_lt hR3
      have HR3 := Lib.hid (alloc_keep (.cells #[.int .i64 0, .int .i64 0, .string ⟨#[]⟩, .slice none 0 0, .slice none 0 0] 25) hR3)
      have HV3 := Lib.hid (heap_alloc_new w3 (.cells #[.int .i64 0, .int .i64 0, .string ⟨#[]⟩, .slice none 0 0, .slice none 0 0] 25))
      clear h3 hF3 HU0 HR0 HU2 HR2 Hbl Hnx hR3
      go_wp2_with fail
      refine (Hw.out _ HU3.out.tx).mono ?_
      rintro e w5 ⟨rfl, hT, hF⟩
      obtain ⟨c', bd', hT2, hb, hp, hc⟩ := must_rs hT hp1L
      have HT2 := Lib.hid hT2
      have Hp := Lib.hid hp
      have Hb := Lib.hid hb
      have HF := Lib.hid hF
      clear hT hF hT2 hp hb
      have HU5 := Lib.hid (HU3.out.call HT2.out HF.out)
      have HR5 := Lib.hid ((HF.out).block _ _ HR3.out MT_val)
      have HV5 := Lib.hid ((HF.out).block _ _ HV3.out MT_val)
      have HS5 := Lib.hid (Fr.size HF.out)
      clear HU3 HR3 HV3
      obtain ⟨r0, r1, r2, r3, r4, rz, rlt⟩ := VB.at HR5.out
      obtain ⟨v0, v1, v2, v3, v4, vz, vlt⟩ := VB.at HV5.out
      go_wp2_with fail
      refine bodyPost_ret (v := .agg #[.int .i64 0, .int .i64 0, .string ⟨#[]⟩, .slice none 0 0, .slice none 0 0]) (by simp [results, Tryz.results45, go_sem, r0, r1, r2, r3, r4]) rfl ?_
      have h6 := HU5.out.set (Nat.le_refl _) (.int .i64 0) (.int .i64 0) (.string ⟨#[]⟩) (.slice none 0 0) (.slice none 0 0)
      exact ⟨J.zero, _, rfl, RJ.zero _ _, fun _ => rfl, ⟨c', by rw [← Hb.out]; exact h6.tx, fun h => Hp.out (by rw [Hb.out]; exact h), by omega⟩, h6.fr⟩
    have m1 : (m == 110) = false := by rw [beq_eq_false_iff_ne]; exact mx
    have n1 := mx
    clear mx
    by_cases mx : m = 116
    · have Hw := Lib.hid (fun W hW => word_c sTrue b L v p1 false W hW hL (by omega) (by decide) (by decide))
      obtain ⟨l, hl⟩ := nx_cons (x := 116) (by decide) (HM.out.trans mx)
      have hG := HG.out
      rw [hl] at hG
      simp only [tRead, sread_t] at hG
      rw [← hl] at hG
      subst hG
      have qx : (m == 116) = true := by rw [beq_iff_eq]; exact mx
      clear HG HM mx
      clear ih n1 hl
      go_enter Tryz.func45, Tryz.ntmps45
      go_wp2_with fail
      refine (Hbl.out _ HU0.out.tx).mono ?_
      rintro e w2 ⟨rfl, h2, hF2⟩
      have HU2 := Lib.hid (HU0.out.call h2 hF2)
      have HR2 := Lib.hid (hF2.block _ _ HR0.out MT_val)
      clear h2 hF2
      go_wp2_with fail
      refine (Hnx.out _ HU2.out.tx).mono ?_
      rintro e w3 ⟨rfl, h3, hF3⟩
      have HU3 := Lib.hid ((HU2.out.call h3 (hF3.mono (fun _ _ h => h.elim))).callN ((Fr.refl (M := NoB)).alloc (.cells #[.int .i64 0, .int .i64 0, .string ⟨#[]⟩, .slice none 0 0, .slice none 0 0] 25)))
      have hR3 := hF3.block _ _ HR2.out (fun h => h)
      have hN3 : w.heap.size < w3.heap.size := get_lt hR3
      have HR3 := Lib.hid (alloc_keep (.cells #[.int .i64 0, .int .i64 0, .string ⟨#[]⟩, .slice none 0 0, .slice none 0 0] 25) hR3)
      have HV3 := Lib.hid (heap_alloc_new w3 (.cells #[.int .i64 0, .int .i64 0, .string ⟨#[]⟩, .slice none 0 0, .slice none 0 0] 25))
      clear h3 hF3 HU0 HR0 HU2 HR2 Hbl Hnx hR3
      go_wp2_with fail
      refine (Hw.out _ HU3.out.tx).mono ?_
      rintro e w5 ⟨rfl, hT, hF⟩
      obtain ⟨c', bd', hT2, hb, hp, hc⟩ := must_rs hT hp1L
      have HT2 := Lib.hid hT2
      have Hp := Lib.hid hp
      have Hb := Lib.hid hb
      have HF := Lib.hid hF
      clear hT hF hT2 hp hb
      have HU5 := Lib.hid (HU3.out.call HT2.out HF.out)
      have HR5 := Lib.hid ((HF.out).block _ _ HR3.out MT_val)
      have HV5 := Lib.hid ((HF.out).block _ _ HV3.out MT_val)
      have HS5 := Lib.hid (Fr.size HF.out)
      clear HU3 HR3 HV3
      obtain ⟨r0, r1, r2, r3, r4, rz, rlt⟩ := VB.at HR5.out
      obtain ⟨v0, v1, v2, v3, v4, vz, vlt⟩ := VB.at HV5.out
      go_wp2_with fail
      refine bodyPost_ret (v := .agg #[.int .i64 1, .int .i64 1, .string ⟨#[]⟩, .slice none 0 0, .slice none 0 0]) (by simp [results, Tryz.results45, go_sem, r0, r1, r2, r3, r4]) rfl ?_
      have h6 := (HU5.out.set (B := w3.heap.size) (by omega) (.int .i64 1) (.int .i64 1) (.string ⟨#[]⟩) (.slice none 0 0) (.slice none 0 0)).set (Nat.le_refl _) (.int .i64 1) (.int .i64 1) (.string ⟨#[]⟩) (.slice none 0 0) (.slice none 0 0)
      exact ⟨.mk 1 1 [] [] [], _, rfl, RJ.flat _ _ 1 1 [], fun _ => rfl, ⟨c', by rw [← Hb.out]; exact h6.tx, fun h => Hp.out (by rw [Hb.out]; exact h), by omega⟩, h6.fr⟩
    have m2 : (m == 116) = false := by rw [beq_eq_false_iff_ne]; exact mx
    have n2 := mx
    clear mx
    by_cases mx : m = 102
    · have Hw := Lib.hid (fun W hW => word_c sFalse b L v p1 false W hW hL (by omega) (by decide) (by decide))
      obtain ⟨l, hl⟩ := nx_cons (x := 102) (by decide) (HM.out.trans mx)
      have hG := HG.out
      rw [hl] at hG
      simp only [tRead, sread_f] at hG
      rw [← hl] at hG
      subst hG
      have qx : (m == 102) = true := by rw [beq_iff_eq]; exact mx
      clear HG HM mx
      clear ih n1 n2 hl
      go_enter Tryz.func45, Tryz.ntmps45
      go_wp2_with fail
      refine (Hbl.out _ HU0.out.tx).mono ?_
      rintro e w2 ⟨rfl, h2, hF2⟩
      have HU2 := Lib.hid (HU0.out.call h2 hF2)
      have HR2 := Lib.hid (hF2.block _ _ HR0.out MT_val)
      clear h2 hF2
      go_wp2_with fail
      refine (Hnx.out _ HU2.out.tx).mono ?_
      rintro e w3 ⟨rfl, h3, hF3⟩
      have HU3 := Lib.hid ((HU2.out.call h3 (hF3.mono (fun _ _ h => h.elim))).callN ((Fr.refl (M := NoB)).alloc (.cells #[.int .i64 0, .int .i64 0, .string ⟨#[]⟩, .slice none 0 0, .slice none 0 0] 25)))
      have hR3 := hF3.block _ _ HR2.out (fun h => h)
      have hN3 : w.heap.size < w3.heap.size := get_lt hR3
      have HR3 := Lib.hid (alloc_keep (.cells #[.int .i64 0, .int .i64 0, .string ⟨#[]⟩, .slice none 0 0, .slice none 0 0] 25) hR3)
      have HV3 := Lib.hid (heap_alloc_new w3 (.cells #[.int .i64 0, .int .i64 0, .string ⟨#[]⟩, .slice none 0 0, .slice none 0 0] 25))
      clear h3 hF3 HU0 HR0 HU2 HR2 Hbl Hnx hR3
      go_wp2_with fail
      refine (Hw.out _ HU3.out.tx).mono ?_
      rintro e w5 ⟨rfl, hT, hF⟩
      obtain ⟨c', bd', hT2, hb, hp, hc⟩ := must_rs hT hp1L
      have HT2 := Lib.hid hT2
      have Hp := Lib.hid hp
      have Hb := Lib.hid hb
      have HF := Lib.hid hF
      clear hT hF hT2 hp hb
      have HU5 := Lib.hid (HU3.out.call HT2.out HF.out)
      have HR5 := Lib.hid ((HF.out).block _ _ HR3.out MT_val)
      have HV5 := Lib.hid ((HF.out).block _ _ HV3.out MT_val)
      have HS5 := Lib.hid (Fr.size HF.out)
      clear HU3 HR3 HV3
      obtain ⟨r0, r1, r2, r3, r4, rz, rlt⟩ := VB.at HR5.out
      obtain ⟨v0, v1, v2, v3, v4, vz, vlt⟩ := VB.at HV5.out
      go_wp2_with fail
      refine bodyPost_ret (v := .agg #[.int .i64 1, .int .i64 0, .string ⟨#[]⟩, .slice none 0 0, .slice none 0 0]) (by simp [results, Tryz.results45, go_sem, r0, r1, r2, r3, r4]) rfl ?_
      have h6 := (HU5.out.set (B := w3.heap.size) (by omega) (.int .i64 1) (.int .i64 0) (.string ⟨#[]⟩) (.slice none 0 0) (.slice none 0 0)).set (Nat.le_refl _) (.int .i64 1) (.int .i64 0) (.string ⟨#[]⟩) (.slice none 0 0) (.slice none 0 0)
      exact ⟨.mk 1 0 [] [] [], _, rfl, RJ.flat _ _ 1 0 [], fun _ => rfl, ⟨c', by rw [← Hb.out]; exact h6.tx, fun h => Hp.out (by rw [Hb.out]; exact h), by omega⟩, h6.fr⟩
    have m3 : (m == 102) = false := by rw [beq_eq_false_iff_ne]; exact mx
    have n3 := mx
    clear mx
    by_cases mx : m = 34
    · have hw := fun W hW => tquoted_c b L v p1 W hW hL hp1L
      obtain ⟨l, hl⟩ := nx_cons (x := 34) (by decide) (HM.out.trans mx)
      have hG := HG.out
      rw [hl] at hG
      simp only [tRead, sread_q] at hG
      rw [← hl] at hG
      subst hG
      have qx : (m == 34) = true := by rw [beq_iff_eq]; exact mx
      clear HG HM mx
      clear ih n1 n2 n3 hl
      obtain ⟨⟨tx, st⟩, hQ⟩ : ∃ Q, sText ⟨L.drop p1, false⟩ = Q := ⟨_, rfl⟩
      simp only [hQ] at hw ⊢
      have Hw := Lib.hid hw
      clear hw hQ
      go_enter Tryz.func45, Tryz.ntmps45
      go_wp2_with fail
      refine (Hbl.out _ HU0.out.tx).mono ?_
      rintro e w2 ⟨rfl, h2, hF2⟩
      have HU2 := Lib.hid (HU0.out.call h2 hF2)
      have HR2 := Lib.hid (hF2.block _ _ HR0.out MT_val)
      clear h2 hF2
      go_wp2_with fail
      refine (Hnx.out _ HU2.out.tx).mono ?_
      rintro e w3 ⟨rfl, h3, hF3⟩
      have HU3 := Lib.hid ((HU2.out.call h3 (hF3.mono (fun _ _ h => h.elim))).callN ((Fr.refl (M := NoB)).alloc (.cells #[.int .i64 0, .int .i64 0, .string ⟨#[]⟩, .slice none 0 0, .slice none 0 0] 25)))
      have hR3 := hF3.block _ _ HR2.out (fun h => h)
      have hN3 : w.heap.size < w3.heap.size := get_lt hR3
      have HR3 := Lib.hid (alloc_keep (.cells #[.int .i64 0, .int .i64 0, .string ⟨#[]⟩, .slice none 0 0, .slice none 0 0] 25) hR3)
      have HV3 := Lib.hid (heap_alloc_new w3 (.cells #[.int .i64 0, .int .i64 0, .string ⟨#[]⟩, .slice none 0 0, .slice none 0 0] 25))
      clear h3 hF3 HU0 HR0 HU2 HR2 Hbl Hnx hR3
      go_wp2_with fail
      refine (Hw.out _ HU3.out.tx).mono ?_
      rintro e w5 ⟨rfl, ⟨c', hT, hp, hK⟩, hF⟩
      have HT2 := Lib.hid hT
      have Hp := Lib.hid hp
      have HF := Lib.hid hF
      clear hT hF hp Hw
      have HU5 := Lib.hid (HU3.out.call HT2.out HF.out)
      have HR5 := Lib.hid ((HF.out).block _ _ HR3.out MT_val)
      have HV5 := Lib.hid ((HF.out).block _ _ HV3.out MT_val)
      have HS5 := Lib.hid (Fr.size HF.out)
      clear HU3 HR3 HV3
      obtain ⟨r0, r1, r2, r3, r4, rz, rlt⟩ := VB.at HR5.out
      obtain ⟨v0, v1, v2, v3, v4, vz, vlt⟩ := VB.at HV5.out
      go_wp2_with fail
      refine bodyPost_ret (v := .agg #[.int .i64 3, .int .i64 0, .string ⟨tx.toArray⟩, .slice none 0 0, .slice none 0 0]) (by simp [results, Tryz.results45, go_sem, r0, r1, r2, r3, r4]) rfl ?_
      have h6 := (HU5.out.set (B := w3.heap.size) (by omega) (.int .i64 3) (.int .i64 0) (.string ⟨tx.toArray⟩) (.slice none 0 0) (.slice none 0 0)).set (Nat.le_refl _) (.int .i64 3) (.int .i64 0) (.string ⟨tx.toArray⟩) (.slice none 0 0) (.slice none 0 0)
      exact ⟨.mk 3 0 tx [] [], _, rfl, RJ.flat _ _ 3 0 tx, fun _ => rfl, ⟨c', h6.tx, Hp.out, by omega⟩, h6.fr⟩
    have m4 : (m == 34) = false := by rw [beq_eq_false_iff_ne]; exact mx
    have n4 := mx
    clear mx
    by_cases mx : m = 91
    · obtain ⟨l, hl⟩ := nx_cons (x := 91) (by decide) (HM.out.trans mx)
      have hG := HG.out
      rw [hl] at hG
      simp only [tRead, sread_l] at hG
      rw [← hl] at hG
      subst hG
      have qx : (m == 91) = true := by rw [beq_iff_eq]; exact mx
      clear HG HM mx
      have hw := fun W hW => tlist_c f b L v ih hL (d + 1) (by omega) hdf' p1 W hW l hl
      rw [hl]
      clear ih n1 n2 n3 n4 hl
      generalize sEach (sItem (sValue f (d + 1))) 91 93 (d + 1) ⟨91 :: l, false⟩ [] = E at *
      have Hw := Lib.hid hw
      clear hw
      go_enter Tryz.func45, Tryz.ntmps45
      go_wp2_with fail
      refine (Hbl.out _ HU0.out.tx).mono ?_
      rintro e w2 ⟨rfl, h2, hF2⟩
      have HU2 := Lib.hid (HU0.out.call h2 hF2)
      have HR2 := Lib.hid (hF2.block _ _ HR0.out MT_val)
      clear h2 hF2
      go_wp2_with fail
      refine (Hnx.out _ HU2.out.tx).mono ?_
      rintro e w3 ⟨rfl, h3, hF3⟩
      have HU3 := Lib.hid ((HU2.out.call h3 (hF3.mono (fun _ _ h => h.elim))).callN ((Fr.refl (M := NoB)).alloc (.cells #[.int .i64 0, .int .i64 0, .string ⟨#[]⟩, .slice none 0 0, .slice none 0 0] 25)))
      have hR3 := hF3.block _ _ HR2.out (fun h => h)
      have hN3 : w.heap.size < w3.heap.size := get_lt hR3
      have HR3 := Lib.hid (alloc_keep (.cells #[.int .i64 0, .int .i64 0, .string ⟨#[]⟩, .slice none 0 0, .slice none 0 0] 25) hR3)
      have HV3 := Lib.hid (heap_alloc_new w3 (.cells #[.int .i64 0, .int .i64 0, .string ⟨#[]⟩, .slice none 0 0, .slice none 0 0] 25))
      clear h3 hF3 HU0 HR0 HU2 HR2 Hbl Hnx hR3
      go_wp2_with fail
      refine (Hw.out _ HU3.out.tx).mono ?_
      rintro e w5 ⟨⟨jk, jn, jt, jl, jp⟩, x, rfl, hj, hjs, ⟨c', hT, hp, hK⟩, hF⟩
      obtain ⟨y1, n1, y2, n2, rfl, _, _⟩ := hj.open
      have HT2 := Lib.hid hT
      have Hp := Lib.hid hp
      have HF := Lib.hid hF
      have Hj := Lib.hid hj
      have Hjs := Lib.hid hjs
      clear hT hF hp hj hjs Hw
      have HU5 := Lib.hid (HU3.out.call HT2.out HF.out)
      have HR5 := Lib.hid ((HF.out).block _ _ HR3.out MT_val)
      have HV5 := Lib.hid ((HF.out).block _ _ HV3.out MT_val)
      have HS5 := Lib.hid (Fr.size HF.out)
      clear HU3 HR3 HV3
      obtain ⟨r0, r1, r2, r3, r4, rz, rlt⟩ := VB.at HR5.out
      obtain ⟨v0, v1, v2, v3, v4, vz, vlt⟩ := VB.at HV5.out
      go_wp2_with fail
      refine bodyPost_ret (v := .agg #[.int .i64 jk, .int .i64 jn, .string ⟨jt.toArray⟩, .slice y1 jl.length n1, .slice y2 jp.length n2]) (by simp [results, Tryz.results45, go_sem, r0, r1, r2, r3, r4]) rfl ?_
      have h6 := (HU5.out.set (B := w3.heap.size) (by omega) (.int .i64 jk) (.int .i64 jn) (.string ⟨jt.toArray⟩) (.slice y1 jl.length n1) (.slice y2 jp.length n2)).set (Nat.le_refl _) (.int .i64 jk) (.int .i64 jn) (.string ⟨jt.toArray⟩) (.slice y1 jl.length n1) (.slice y2 jp.length n2)
      have hs3 : (w3.alloc (.cells #[.int .i64 0, .int .i64 0, .string ⟨#[]⟩, .slice none 0 0, .slice none 0 0] 25)).heap.size = w3.heap.size + 1 := World.size_alloc _ _
      exact ⟨J.mk jk jn jt jl jp, _, rfl, RJ.kp (fun q o hq ho _ => ⟨by omega, (setV_fr _ _ _ _ _ _ _).block q o ((setV_fr _ _ _ _ _ _ _).block q o ho (by omega)) (by omega)⟩) _ _ Hj.out, Hjs.out, ⟨c', h6.tx, Hp.out, by omega⟩, h6.fr⟩
    have m5 : (m == 91) = false := by rw [beq_eq_false_iff_ne]; exact mx
    have n5 := mx
    clear mx
    by_cases mx : m = 123
    · obtain ⟨l, hl⟩ := nx_cons (x := 123) (by decide) (HM.out.trans mx)
      have hG := HG.out
      rw [hl] at hG
      simp only [tRead, sread_o] at hG
      rw [← hl] at hG
      subst hG
      have qx : (m == 123) = true := by rw [beq_iff_eq]; exact mx
      clear HG HM mx
      have hw := fun W hW => tobject_c f b L v ih hL (d + 1) (by omega) hdf' p1 W hW l hl
      rw [hl]
      clear ih n1 n2 n3 n4 n5 hl
      generalize sEach (sPair (sValue f (d + 1))) 123 125 (d + 1) ⟨123 :: l, false⟩ [] = E at *
      have Hw := Lib.hid hw
      clear hw
      go_enter Tryz.func45, Tryz.ntmps45
      go_wp2_with fail
      refine (Hbl.out _ HU0.out.tx).mono ?_
      rintro e w2 ⟨rfl, h2, hF2⟩
      have HU2 := Lib.hid (HU0.out.call h2 hF2)
      have HR2 := Lib.hid (hF2.block _ _ HR0.out MT_val)
      clear h2 hF2
      go_wp2_with fail
      refine (Hnx.out _ HU2.out.tx).mono ?_
      rintro e w3 ⟨rfl, h3, hF3⟩
      have HU3 := Lib.hid ((HU2.out.call h3 (hF3.mono (fun _ _ h => h.elim))).callN ((Fr.refl (M := NoB)).alloc (.cells #[.int .i64 0, .int .i64 0, .string ⟨#[]⟩, .slice none 0 0, .slice none 0 0] 25)))
      have hR3 := hF3.block _ _ HR2.out (fun h => h)
      have hN3 : w.heap.size < w3.heap.size := get_lt hR3
      have HR3 := Lib.hid (alloc_keep (.cells #[.int .i64 0, .int .i64 0, .string ⟨#[]⟩, .slice none 0 0, .slice none 0 0] 25) hR3)
      have HV3 := Lib.hid (heap_alloc_new w3 (.cells #[.int .i64 0, .int .i64 0, .string ⟨#[]⟩, .slice none 0 0, .slice none 0 0] 25))
      clear h3 hF3 HU0 HR0 HU2 HR2 Hbl Hnx hR3
      go_wp2_with fail
      refine (Hw.out _ HU3.out.tx).mono ?_
      rintro e w5 ⟨⟨jk, jn, jt, jl, jp⟩, x, rfl, hj, hjs, ⟨c', hT, hp, hK⟩, hF⟩
      obtain ⟨y1, n1, y2, n2, rfl, _, _⟩ := hj.open
      have HT2 := Lib.hid hT
      have Hp := Lib.hid hp
      have HF := Lib.hid hF
      have Hj := Lib.hid hj
      have Hjs := Lib.hid hjs
      clear hT hF hp hj hjs Hw
      have HU5 := Lib.hid (HU3.out.call HT2.out HF.out)
      have HR5 := Lib.hid ((HF.out).block _ _ HR3.out MT_val)
      have HV5 := Lib.hid ((HF.out).block _ _ HV3.out MT_val)
      have HS5 := Lib.hid (Fr.size HF.out)
      clear HU3 HR3 HV3
      obtain ⟨r0, r1, r2, r3, r4, rz, rlt⟩ := VB.at HR5.out
      obtain ⟨v0, v1, v2, v3, v4, vz, vlt⟩ := VB.at HV5.out
      go_wp2_with fail
      refine bodyPost_ret (v := .agg #[.int .i64 jk, .int .i64 jn, .string ⟨jt.toArray⟩, .slice y1 jl.length n1, .slice y2 jp.length n2]) (by simp [results, Tryz.results45, go_sem, r0, r1, r2, r3, r4]) rfl ?_
      have h6 := (HU5.out.set (B := w3.heap.size) (by omega) (.int .i64 jk) (.int .i64 jn) (.string ⟨jt.toArray⟩) (.slice y1 jl.length n1) (.slice y2 jp.length n2)).set (Nat.le_refl _) (.int .i64 jk) (.int .i64 jn) (.string ⟨jt.toArray⟩) (.slice y1 jl.length n1) (.slice y2 jp.length n2)
      have hs3 : (w3.alloc (.cells #[.int .i64 0, .int .i64 0, .string ⟨#[]⟩, .slice none 0 0, .slice none 0 0] 25)).heap.size = w3.heap.size + 1 := World.size_alloc _ _
      exact ⟨J.mk jk jn jt jl jp, _, rfl, RJ.kp (fun q o hq ho _ => ⟨by omega, (setV_fr _ _ _ _ _ _ _).block q o ((setV_fr _ _ _ _ _ _ _).block q o ho (by omega)) (by omega)⟩) _ _ Hj.out, Hjs.out, ⟨c', h6.tx, Hp.out, by omega⟩, h6.fr⟩
    have m6 : (m == 123) = false := by rw [beq_eq_false_iff_ne]; exact mx
    have hG := HG.out
    rw [sread_num (by rw [HM.out]; exact ⟨n1, n2, n3, n4, n5, mx⟩)] at hG
    subst hG
    have hw := fun W hW => tnumber_c b L v p1 W hW hL hp1L
    generalize numS (L.drop p1) = E at *
    have Hw := Lib.hid hw
    clear ih n1 n2 n3 n4 n5 mx HG HM hw
    go_enter Tryz.func45, Tryz.ntmps45
    go_wp2_with fail
    refine (Hbl.out _ HU0.out.tx).mono ?_
    rintro e w2 ⟨rfl, h2, hF2⟩
    have HU2 := Lib.hid (HU0.out.call h2 hF2)
    have HR2 := Lib.hid (hF2.block _ _ HR0.out MT_val)
    clear h2 hF2
    go_wp2_with fail
    refine (Hnx.out _ HU2.out.tx).mono ?_
    rintro e w3 ⟨rfl, h3, hF3⟩
    have HU3 := Lib.hid ((HU2.out.call h3 (hF3.mono (fun _ _ h => h.elim))).callN ((Fr.refl (M := NoB)).alloc (.cells #[.int .i64 0, .int .i64 0, .string ⟨#[]⟩, .slice none 0 0, .slice none 0 0] 25)))
    have hR3 := hF3.block _ _ HR2.out (fun h => h)
    have hN3 : w.heap.size < w3.heap.size := get_lt hR3
    have HR3 := Lib.hid (alloc_keep (.cells #[.int .i64 0, .int .i64 0, .string ⟨#[]⟩, .slice none 0 0, .slice none 0 0] 25) hR3)
    have HV3 := Lib.hid (heap_alloc_new w3 (.cells #[.int .i64 0, .int .i64 0, .string ⟨#[]⟩, .slice none 0 0, .slice none 0 0] 25))
    clear h3 hF3 HU0 HR0 HU2 HR2 Hbl Hnx hR3
    go_wp2_with fail
    refine (Hw.out _ HU3.out.tx).mono ?_
    rintro e w5 ⟨x, rfl, ⟨hjs, ⟨c', hT, hp, hK⟩⟩, hF⟩
    have HT2 := Lib.hid hT
    have Hp := Lib.hid hp
    have HF := Lib.hid hF
    have Hjs := Lib.hid hjs
    clear hT hF hp hjs Hw
    have HU5 := Lib.hid (HU3.out.call HT2.out HF.out)
    have HR5 := Lib.hid ((HF.out).block _ _ HR3.out MT_val)
    have HV5 := Lib.hid ((HF.out).block _ _ HV3.out MT_val)
    have HS5 := Lib.hid (Fr.size HF.out)
    clear HU3 HR3 HV3
    obtain ⟨r0, r1, r2, r3, r4, rz, rlt⟩ := VB.at HR5.out
    obtain ⟨v0, v1, v2, v3, v4, vz, vlt⟩ := VB.at HV5.out
    go_wp2_with fail
    refine bodyPost_ret (v := .agg #[.int .i64 2, .int .i64 x, .string ⟨#[]⟩, .slice none 0 0, .slice none 0 0]) (by simp [results, Tryz.results45, go_sem, r0, r1, r2, r3, r4]) rfl ?_
    have h6 := (HU5.out.set (B := w3.heap.size) (by omega) (.int .i64 2) (.int .i64 x) (.string ⟨#[]⟩) (.slice none 0 0) (.slice none 0 0)).set (Nat.le_refl _) (.int .i64 2) (.int .i64 x) (.string ⟨#[]⟩) (.slice none 0 0) (.slice none 0 0)
    exact ⟨.mk 2 x [] [] [], _, rfl, RJ.flat _ _ 2 x [], fun h => (Hjs.out h).symm, ⟨c', h6.tx, Hp.out, by omega⟩, h6.fr⟩
end Go.Proofs.YtbfmpbhikipipaaGreatDoor
namespace Go.Proofs.YtbfmpbhikipipaaGreatDoor
set_option linter.unusedVariables false
set_option linter.unusedSimpArgs false
set_option linter.unusedSectionVars false
open Go.RowKit
variable [OldK]
attribute [local irreducible] wpStill
theorem parse_cases {l : Bs} {a' : Nat} {st : St} {j : J} (hl : ¬ 4096 < l.length) (hV : sValue 10 0 ⟨l, false⟩ = (j, st)) (hp : st.bad = false → l.drop a' = st.s ∧ a' ≤ l.length) :
    (st.bad = true → pParse l = (J.zero, 1)) ∧ (st.bad = false → (blk l a' = l.length → pParse l = (j, 0)) ∧ (¬ blk l a' = l.length → pParse l = (J.zero, 1))) := by
  have hd := drop_blk l a'
  have hb := blk_le l a'
  unfold pParse sParse
  rw [if_neg hl, hV]
  simp only
  refine ⟨fun h => by rw [if_pos (.inl h)], fun h => ⟨fun h2 => ?_, fun h2 => ?_⟩⟩
  · rw [h2, List.drop_length, (hp h).1] at hd
    rw [if_neg]
    rintro (h3 | h3)
    · rw [h] at h3; simp at h3
    · exact h3 hd.symm
  · rw [(hp h).1] at hd
    have h3 := (hp h).2
    rw [if_pos]
    right
    rw [← hd]
    intro h4
    have := List.drop_eq_nil_iff.1 h4
    omega
theorem MT_NoB {b : Nat} {w w' : World} (h : Fr (MT b) w w') (hb : w.heap.size ≤ b) : Fr NoB w w' :=
  (Fr.refl (M := NoB)).trans h (fun k _ hm => .inr (by rw [hm.1]; exact hb))
set_option maxRecDepth 100000 in
set_option maxHeartbeats 8000000 in
theorem refParse_c (S : Nat → Prop) (l : Bs) (v : Value) (w : World) (hv : SB S l v w) (hg : Gl w) (hlen : l.length ≤ maxLen) :
    Calls Tryz.prog 29 #[v] w fun e w' => ∃ x, e = .returned (.tuple #[x, .int .i64 (pParse l).2]) ∧ RJ (fun k => w.heap.size ≤ k) w' (pParse l).1 x ∧ Fr NoB w w' := by
  obtain ⟨q, cap, rfl⟩ := hv.form
  have hgs := hg.size
  by_cases hl : 4096 < l.length
  · have hG : pParse l = (J.zero, 10) := by unfold pParse; rw [if_pos hl]
    rw [hG]
    unfold maxLen at hlen
    clear hG hv
    obtain ⟨a0, a1, a2, a3, a4, fz, hlt1⟩ := VB.at (heap_alloc_new w (.cells #[.int .i64 0, .int .i64 0, .string ⟨#[]⟩, .slice none 0 0, .slice none 0 0] 25))
    go_enter Tryz.func29, Tryz.ntmps29
    go_wp2_with fail
    refine bodyPost_ret (v := .tuple #[.agg #[.int .i64 0, .int .i64 0, .string ⟨#[]⟩, .slice none 0 0, .slice none 0 0], .int .i64 10]) (by simp [results, Tryz.results29, go_sem, a0, a1, a2, a3, a4]) rfl ?_
    exact ⟨_, rfl, RJ.zero _ _, Fr.refl.alloc _⟩
  · have hl2 : decide ((4096 : Int) < (l.length : Int)) = false := by rw [decide_eq_false_iff_not]; omega
    obtain ⟨hA, hB⟩ := two_new w (.cells #[.int .i64 0, .int .i64 0, .string ⟨#[]⟩, .slice none 0 0, .slice none 0 0] 25) (.cells #[.slice q l.length cap, .int .i64 0, .bool false] 76)
    have hF2 : Fr NoB w ((w.alloc (.cells #[.int .i64 0, .int .i64 0, .string ⟨#[]⟩, .slice none 0 0, .slice none 0 0] 25)).alloc (.cells #[.slice q l.length cap, .int .i64 0, .bool false] 76)) := (Fr.refl.alloc _).alloc _
    have hT : TX (w.heap.size + 1) l (.slice q l.length cap) 0 false _ := ⟨⟨by omega, by have := hg.old; omega⟩, (hv.fr hF2 (fun _ _ _ _ h => h)).kp (fun k o _ hk _ => ⟨trivial, hk⟩), hB⟩
    have hval := tvalue_c (w.heap.size + 1) l (.slice q l.length cap) (by omega) 10 0 0 _ hT (Nat.zero_le _) (by omega) (by omega) (by decide)
    simp only [List.drop_zero] at hval
    obtain ⟨⟨j, st⟩, hV⟩ : ∃ V, sValue 10 0 ⟨l, false⟩ = V := ⟨_, rfl⟩
    rw [hV] at hval
    have hcs := fun a' hp => parse_cases (a' := a') hl hV hp
    obtain ⟨G, hG⟩ : ∃ G, pParse l = G := ⟨_, rfl⟩
    rw [hG] at hcs ⊢
    have Hcs := Lib.hid hcs
    have Hval := Lib.hid hval
    have HA := Lib.hid hA
    have HF2 := Lib.hid hF2
    have hl4 : l.length ≤ 4096 := by omega
    clear hA hB hF2 hT hval hV hcs hG hv hl
    go_enter Tryz.func29, Tryz.ntmps29
    go_wp2_with fail
    refine Hval.out.mono ?_
    rintro e w3 ⟨⟨jk, jn, jt, jl, jp⟩, x, rfl, hj, hjs, ⟨a', hT3, hp, hK⟩, hF3⟩
    obtain ⟨y1, n1, y2, n2, rfl, _, _⟩ := hj.open
    have ha9 : a' ≤ 900000 := by simp at hK; omega
    obtain ⟨f1, f2⟩ := Hcs.out a' hp
    have hbp := blk_le l a'
    have hbl := tblanks_c (w.heap.size + 1) l (.slice q l.length cap) a' st.bad _ (hT3.frN ((Fr.refl (M := NoB)).alloc (.cells #[.int .i64 jk, .int .i64 jn, .string ⟨jt.toArray⟩, .slice y1 jl.length n1, .slice y2 jp.length n2] 25))) hl4 ha9
    obtain ⟨p, hpe⟩ : ∃ p, blk l a' = p := ⟨_, rfl⟩
    rw [hpe] at f2 hbl
    have Hbl := Lib.hid hbl
    have HF1 := Lib.hid f1
    have HF2' := Lib.hid f2
    have HA3 := Lib.hid (alloc_keep (.cells #[.int .i64 jk, .int .i64 jn, .string ⟨jt.toArray⟩, .slice y1 jl.length n1, .slice y2 jp.length n2] 25) (hF3.block _ _ HA.out MT_val))
    have HV3 := Lib.hid (heap_alloc_new w3 (.cells #[.int .i64 jk, .int .i64 jn, .string ⟨jt.toArray⟩, .slice y1 jl.length n1, .slice y2 jp.length n2] 25))
    have hs3 := hF3.size
    simp only [World.size_alloc] at hs3
    have HF3 := Lib.hid (((HF2.out.mono (M' := MT (w.heap.size + 1)) (fun _ _ h => h.elim)).trans' hF3).alloc (.cells #[.int .i64 jk, .int .i64 jn, .string ⟨jt.toArray⟩, .slice y1 jl.length n1, .slice y2 jp.length n2] 25))
    have Hj := Lib.hid hj
    have Hjs := Lib.hid hjs
    clear hj hjs hT3 hp hF3 hbl f1 f2 hpe HA Hval HF2 hbp hK
    go_wp2_with fail
    refine Hbl.out.mono ?_
    rintro e w5 ⟨rfl, hT5, hF5⟩
    obtain ⟨c0, c1, c2, fz, hlt1⟩ := hT5.cells
    obtain ⟨r0, r1, r2, r3, r4, rz, rlt⟩ := VB.at (hF5.block _ _ HA3.out MT_val)
    obtain ⟨v0, v1, v2, v3, v4, vz, vlt⟩ := VB.at (hF5.block _ _ HV3.out MT_val)
    have HF5 := Lib.hid (MT_NoB (HF3.out.trans' hF5) (by omega))
    have hfin := fun (v0 v1 v2 v3 v4 : Value) => RJ.kp (S' := fun k => w.heap.size ≤ k) (w' := setV w.heap.size v0 v1 v2 v3 v4 w5) (fun q o hq ho _ => ⟨by simp only [World.size_alloc] at hq; omega, (setV_fr _ _ _ _ _ _ _).block q o (hF5.block q o (alloc_keep _ ho) (fun hm => by have := hm.1; simp only [World.size_alloc] at hq; omega)) (by simp only [World.size_alloc] at hq; omega)⟩) _ _ Hj.out
    have Hfin := Lib.hid hfin
    clear hF5 hT5 hfin Hj HV3 HA3 HF3 Hbl
    cases hb : st.bad with
    | true =>
      have hG := HF1.out hb
      subst hG
      rw [hb] at c2
      clear HF1 HF2' hb Hjs Hcs
      go_wp2_with fail
      refine bodyPost_ret (v := .tuple #[.agg #[.int .i64 0, .int .i64 0, .string ⟨#[]⟩, .slice none 0 0, .slice none 0 0], .int .i64 1]) (by simp [results, Tryz.results29, go_sem, r0, r1, r2, r3, r4]) rfl ?_
      exact ⟨_, rfl, RJ.zero _ _, HF5.out.setV (Nat.le_refl _) _ _ _ _ _⟩
    | false =>
      obtain ⟨g1, g2⟩ := HF2'.out hb
      have hj := Hjs.out hb
      rw [hb] at c2
      clear HF1 HF2' hb Hcs Hjs
      by_cases hpl : p = l.length
      · have hG := g1 hpl
        subst hG
        subst hj
        rw [hpl] at c1
        clear g1 g2 hpl
        go_wp2_with fail
        refine bodyPost_ret (v := .tuple #[.agg #[.int .i64 jk, .int .i64 jn, .string ⟨jt.toArray⟩, .slice y1 jl.length n1, .slice y2 jp.length n2], .int .i64 0]) (by simp [results, Tryz.results29, go_sem, r0, r1, r2, r3, r4]) rfl ?_
        exact ⟨_, rfl, Hfin.out _ _ _ _ _, HF5.out.setV (Nat.le_refl _) _ _ _ _ _⟩
      · have hG := g2 hpl
        subst hG
        have q1 : ((p : Int) == (l.length : Int)) = false := by rw [beq_eq_false_iff_ne]; omega
        have q2 : (p == l.length) = false := by rw [beq_eq_false_iff_ne]; omega
        have q3 : (p != l.length) = true := by rw [bne, q2]; rfl
        have q4 : ((p : Int) != (l.length : Int)) = true := by rw [bne, q1]; rfl
        clear g1 g2
        go_wp2_with fail
        refine bodyPost_ret (v := .tuple #[.agg #[.int .i64 0, .int .i64 0, .string ⟨#[]⟩, .slice none 0 0, .slice none 0 0], .int .i64 1]) (by simp [results, Tryz.results29, go_sem, r0, r1, r2, r3, r4]) rfl ?_
        exact ⟨_, rfl, RJ.zero _ _, HF5.out.setV (Nat.le_refl _) _ _ _ _ _⟩
end Go.Proofs.YtbfmpbhikipipaaGreatDoor
