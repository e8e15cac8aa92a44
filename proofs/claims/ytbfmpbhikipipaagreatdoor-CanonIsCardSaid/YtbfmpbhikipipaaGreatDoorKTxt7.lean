/-
  The reference's reader of texts: texts in quotation marks, walked.
-/
import Derived.Test.YtbfmpbhikipipaaGreatDoorKTxt10
import Derived.StillTailTactics
import Derived.Deep.RegionHeld3
import Derived.Laws.AppendOwn
namespace Go.Proofs.YtbfmpbhikipipaaGreatDoor
set_option linter.unusedVariables false
set_option linter.unusedSimpArgs false
set_option linter.unusedSectionVars false
open Go.RowKit
variable [OldK]
attribute [local irreducible] wpStill
theorem encode_pos (r : Int) : Lib.encodeRune r ≠ [] := by
  unfold Lib.encodeRune Lib.encodeRuneZ
  repeat' split
  all_goals simp
set_option maxRecDepth 100000 in
set_option maxHeartbeats 8000000 in
theorem tquoted_c (b : Nat) (L : Bs) (v : Value) (a : Nat) (w : World) (h : TX b L v a false w) (hL : L.length ≤ 4096) (ha : a ≤ L.length) :
    Calls Tryz.prog 62 #[.pointer (some ⟨b, 0, none⟩)] w fun e w' => e = .returned (.string ⟨(sText ⟨L.drop a, false⟩).1.toArray⟩) ∧ RS b L v (L.length + 1) (sText ⟨L.drop a, false⟩).2 w' ∧ Fr (MT b) w w' := by
  have Hc := Lib.hid (fun W hW => next_c b L v a false W hW hL (by omega))
  have H := Lib.hid h
  obtain ⟨q, cap, rfl⟩ := h.2.1.form
  clear h
  unfold sText
  by_cases hm : nx (L.drop a) = 34
  · have hq : (nx (L.drop a) == 34) = true := by rw [beq_iff_eq]; exact hm
    have hq2 : (nx (L.drop a) != 34) = false := by rw [bne, hq]; rfl
    obtain ⟨l, hr⟩ : ∃ l, L.drop a = 34 :: l := by
      cases hr : L.drop a with
      | nil => rw [hr] at hm; simp [nx] at hm
      | cons x l =>
        rw [hr] at hm
        simp only [nx] at hm
        exact ⟨l, by rw [show x = 34 from UInt8.toNat_inj.1 (by show x.toNat = 34; omega)]⟩
    obtain ⟨ha1, -, hd, hlen⟩ := dropAt hr
    have hmu : sMust [34] ⟨L.drop a, false⟩ = ⟨L.drop (a + 1), false⟩ := by rw [hr, hd]; rfl
    rw [hmu]
    generalize hG : sTextLoop ((⟨L.drop a, false⟩ : St).s.length + 2) [] ⟨L.drop (a + 1), false⟩ = G
    have hfu : (L.drop (a + 1)).length + 1 ≤ (⟨L.drop a, false⟩ : St).s.length + 2 := by simp only [List.length_drop]; omega
    generalize (⟨L.drop a, false⟩ : St).s.length + 2 = fu at hG hfu
    have HG := Lib.hid hG
    have wa : IntKind.i64.wrap ((a : Int) + 1) = (a : Int) + 1 := by rw [IntKind.wrap_i64]; omega
    clear hG hm hmu hr hd hlen
    generalize nx (L.drop a) = m0 at *
    obtain ⟨i0, hi0, hz0, hz1, hz2⟩ := info_parts Tryz.infoByte
    go_enter Tryz.func62, Tryz.ntmps62
    go_wp2_with fail
    refine (Hc.out _ H.out).mono ?_
    rintro e w1 ⟨rfl, h2, hF⟩
    obtain ⟨c0, c1, c2, fz, hlt1⟩ := h2.cells
    have HF2 := Lib.hid ((hF.mono (M' := MT b) (fun _ _ h => h.elim)).setCell ⟨b, 1, none⟩ (.int .i64 ((a : Int) + 1)) (fun o ho => H.out.one o ho))
    have H2 := Lib.hid (h2.put1 ((a : Int) + 1) (a + 1) rfl)
    clear h2 hF
    go_wp2_with fail
    clear c0 c1 c2 fz hlt1 Hc hq hq2 wa
    generalize w1.setCell ⟨b, 1, none⟩ (.int .i64 ((a : Int) + 1)) = w2 at *
    have hb := H.out.lt
    have hobk := H.out.1.2
    have HS2 := Lib.hid (SBlow (H.out.2.1.below) hobk HF2.out)
    obtain ⟨x0, hx0⟩ : ∃ x0, L[a]? = some x0 := ⟨_, List.getElem?_eq_getElem ha1⟩
    obtain ⟨g0, o0, cap', e9, -⟩ := H.out.2.1.at hx0
    obtain ⟨rfl, rfl⟩ : q = some ⟨g0, o0, none⟩ ∧ cap = cap' := by simpa using e9
    obtain ⟨_, _, cap', e8, hcp, -⟩ := H.out.2.1.cellsAt (by intro e; rw [e] at ha1; simp at ha1)
    obtain rfl : cap = cap' := by simp at e8; exact e8.2
    clear e9 e8 hx0
    go_loopg [3] (L.length + 2 - (a + 1)) (fun g vo wr => ∃ (out : Bs) (c k : Nat) (bd : Bool), Hid (TX b L (.slice (some ⟨g0, o0, none⟩) L.length cap) c bd wr) ∧ Hid (SB (fun k => k < w.heap.size) L (.slice (some ⟨g0, o0, none⟩) L.length cap) wr) ∧ Hid (OB w.heap.size out vo wr) ∧ Hid (Fr (MT b) w wr) ∧ c ≤ L.length + 1 ∧ (bd = false → a + 1 ≤ c ∧ out.length ≤ 4 * c) ∧ g = (if bd = true then 0 else L.length + 2 - c) ∧
      Hid (bd = false → c ≤ L.length ∧ (L.drop c).length + 1 ≤ k ∧ sTextLoop k out ⟨L.drop c, false⟩ = G) ∧ Hid (bd = true → G.1 = [] ∧ G.2.bad = true))
    case atStart => exact ⟨[], a + 1, fu, false, H2, HS2, Lib.hid (OB.nil _ _), HF2, by omega, fun _ => ⟨by omega, by simp⟩, rfl, Lib.hid (fun _ => ⟨by omega, hfu, HG.out⟩), Lib.hid (fun h => by simp at h)⟩
    case round =>
      obtain ⟨out, c, k, bd, H3, HS3, HO3, HF3, hc1, hc2o, hg, HA, HB⟩ := hrel
      cases bd with
      | true =>
        obtain ⟨c0, c1, c2, fz, hlt1⟩ := H3.out.cells
        obtain ⟨k1, k2⟩ := HB.out rfl
        clear HA HB
        go_wp2_with fail
        go_ret
        exact ⟨ret_str rfl, ⟨c, by rw [k2]; exact H3.out, fun h => by rw [k2] at h; simp at h, hc1⟩, HF3.out⟩
      | false =>
        obtain ⟨k0, k1, k2⟩ := HA.out rfl
        obtain ⟨c0, c1, c2, fz, hlt1⟩ := H3.out.cells
        clear HA HB
        obtain ⟨hc2, hol⟩ := hc2o rfl
        have hgk : gk = L.length + 2 - c := by simpa using hg
        clear hc2o hg
        have Hf := Lib.hid (fun W vf hW => refFirst_c (L.drop c) vf W (fun _ => True) hW (by rw [List.length_drop]; omega))
        have hk2 : (c : Int) ≤ (L.length : Int) := by omega
        have hk3 : (L.length : Int) ≤ (cap : Int) := by omega
        have hsf := step_first (s := L.drop c) (out := out) (C := (dFirst (L.drop c)).1) (k := (dFirst (L.drop c)).2) rfl
        have hbd := dFirst_bytes (s := L.drop c) (c := (dFirst (L.drop c)).1) (k := (dFirst (L.drop c)).2) rfl
        have hsc := fun hz => (dFirst_inv (s := L.drop c) (c := (dFirst (L.drop c)).1) (k := (dFirst (L.drop c)).2) rfl hz).1
        obtain ⟨k, rfl⟩ : ∃ k', k = k' + 1 := ⟨k - 1, by omega⟩
        rw [sTextLoop, if_neg (by simp)] at k2
        generalize dFirst (L.drop c) = D at *
        obtain ⟨C, z⟩ := D
        simp only at hsf hbd hsc Hf
        obtain ⟨hz4, hzl, hC0, hC1, -⟩ := hbd
        rw [List.length_drop] at hzl
        have HSB := Lib.hid ((H3.out.2.1.fr ((Fr.refl (M := NoB)).drew) (fun _ _ _ _ h => h)).drop c k0)
        have HD3 := Lib.hid (H3.out.frN Fr.refl.drew)
        have HDS := Lib.hid (HS3.out.fr ((Fr.refl (M := NoB)).drew) (fun _ _ _ _ h => h))
        have HDO := Lib.hid (HO3.out.fr ((Fr.refl (M := NoB)).drew) (fun _ _ _ _ h => h))
        have HDF := Lib.hid (HF3.out.drew)
        obtain ⟨oa, oc, rfl⟩ := HO3.out.form
        by_cases hbad : z = 0 ∨ C < 32
        · obtain ⟨st, hst, hsb⟩ := hsf.1 hbad
          rw [hst] at k2
          simp only at k2
          rw [tloop_bad k out st hsb] at k2
          subst k2
          have hq : ((z : Int) == 0) = true ∨ (((z : Int) == 0) = false ∧ decide (C < 32) = true) := by
            rcases (by omega : z = 0 ∨ ¬ z = 0) with h | h
            · left; rw [beq_iff_eq]; omega
            · right; refine ⟨by rw [beq_eq_false_iff_ne]; omega, by rw [decide_eq_true_iff]; omega⟩
          clear hst hsf hbad hsc
          by_cases hcc : cap = c
          · subst hcc
            have e1 : L.drop cap = [] := List.drop_eq_nil_of_le hcp
            have HSB : Hid (SB (fun _ => True) (L.drop cap) (.slice (some ⟨g0, o0, none⟩) 0 0) wr.drew) := by
              rw [e1]
              exact Lib.hid (H3.out.2.1.none' 0)
            clear e1
            rcases hq with hq | ⟨hq, hq2⟩
            all_goals
              go_wp2_with fail
              go_region_held3 (fun W => W.cell? ⟨b, 0, none⟩ = some (.slice (some ⟨g0, o0, none⟩) L.length cap) ∧ W.cell? ⟨b, 1, none⟩ = some (.int .i64 (cap : Int)) ∧ W.cell? ⟨b, 2, none⟩ = some (.bool false)) (go_keep) ((go_at_call 59; refine (Hf.out _ _ HSB.out).mono ?_; rintro e w5 ⟨rfl, hF5⟩; obtain ⟨c0, c1, c2, fz, hlt1⟩ := (HD3.out.frN hF5).cells))
              have H5 := Lib.hid (HD3.out.frN hF5)
              have HS5 := Lib.hid (HDS.out.fr hF5 (fun _ _ _ _ h => h))
              have HO5 := Lib.hid (HDO.out.fr hF5 (fun _ _ _ _ h => h))
              have HF5 := Lib.hid (HDF.out.trans' (hF5.mono (M' := MT b) (fun _ _ h => h.elim)))
              clear c0 c1 c2 fz hlt1 hF5
              obtain ⟨c0, c1, c2, fz, hlt1⟩ := H5.out.cells
              go_wp2_with fail
              go_ret
              exact ⟨ret_str rfl, ⟨cap, by rw [hsb]; exact H5.out.set2 true, fun h => by rw [hsb] at h; simp at h, hc1⟩, HF5.out.setCell _ _ (fun o ho => H.out.one o ho)⟩
          · have hcc2 : (c : Int) < cap := by omega
            rcases hq with hq | ⟨hq, hq2⟩
            all_goals
              go_wp2_with fail
              go_region_held3 (fun W => W.cell? ⟨b, 0, none⟩ = some (.slice (some ⟨g0, o0, none⟩) L.length cap) ∧ W.cell? ⟨b, 1, none⟩ = some (.int .i64 (c : Int)) ∧ W.cell? ⟨b, 2, none⟩ = some (.bool false)) (go_keep) ((go_at_call 59; refine (Hf.out _ _ HSB.out).mono ?_; rintro e w5 ⟨rfl, hF5⟩; obtain ⟨c0, c1, c2, fz, hlt1⟩ := (HD3.out.frN hF5).cells))
              have H5 := Lib.hid (HD3.out.frN hF5)
              have HS5 := Lib.hid (HDS.out.fr hF5 (fun _ _ _ _ h => h))
              have HO5 := Lib.hid (HDO.out.fr hF5 (fun _ _ _ _ h => h))
              have HF5 := Lib.hid (HDF.out.trans' (hF5.mono (M' := MT b) (fun _ _ h => h.elim)))
              clear c0 c1 c2 fz hlt1 hF5
              obtain ⟨c0, c1, c2, fz, hlt1⟩ := H5.out.cells
              go_wp2_with fail
              go_ret
              exact ⟨ret_str rfl, ⟨c, by rw [hsb]; exact H5.out.set2 true, fun h => by rw [hsb] at h; simp at h, hc1⟩, HF5.out.setCell _ _ (fun o ho => H.out.one o ho)⟩
        · obtain ⟨s1, s2, s3⟩ := hsf.2 (by omega) (by omega)
          have hsc := hsc (by omega)
          have hq : ((z : Int) == 0) = false := by rw [beq_eq_false_iff_ne]; omega
          have hq2 : decide (C < 32) = false := by rw [decide_eq_false_iff_not]; omega
          have wz : IntKind.i64.wrap ((c : Int) + (z : Int)) = (c : Int) + z := by rw [IntKind.wrap_i64]; omega
          have hcc : ¬ cap = c := by omega
          have hcc2 : (c : Int) < cap := by omega
          have hzp : 1 ≤ z := by omega
          have hcz : c + z ≤ L.length := by omega
          have hdz : (L.drop c).drop z = L.drop (c + z) := List.drop_drop
          clear hbad hsf
          by_cases h34 : C = 34
          · have hs1 := s1 h34
            rw [hs1] at k2
            simp only at k2
            subst k2
            have hq3 : (C == 34) = true := by rw [beq_iff_eq]; exact h34
            have Hdz := Lib.hid hdz
            have htx := fun W (hW : OB w.heap.size out (.slice oa out.length oc) W) => hW.sb.text
            have Htx := Lib.hid htx
            clear hs1 s1 s2 s3 h34 hsc hdz htx
            go_wp2_with fail
            go_region_held3 (fun W => W.cell? ⟨b, 0, none⟩ = some (.slice (some ⟨g0, o0, none⟩) L.length cap) ∧ W.cell? ⟨b, 1, none⟩ = some (.int .i64 (c : Int)) ∧ W.cell? ⟨b, 2, none⟩ = some (.bool false)) (go_keep) ((go_at_call 59; refine (Hf.out _ _ HSB.out).mono ?_; rintro e w5 ⟨rfl, hF5⟩; obtain ⟨c0, c1, c2, fz, hlt1⟩ := (HD3.out.frN hF5).cells))
            have H5 := Lib.hid (HD3.out.frN hF5)
            have HS5 := Lib.hid (HDS.out.fr hF5 (fun _ _ _ _ h => h))
            have HO5 := Lib.hid (HDO.out.fr hF5 (fun _ _ _ _ h => h))
            have HF5 := Lib.hid (HDF.out.trans' (hF5.mono (M' := MT b) (fun _ _ h => h.elim)))
            clear c0 c1 c2 fz hlt1 hF5
            obtain ⟨c0, c1, c2, fz, hlt1⟩ := H5.out.cells
            have HO6 := Lib.hid (HO5.out.mt (b := b) (H5.out.setF 1 (.int .i64 ((c : Int) + z))))
            have htx := Htx.out _ HO6.out
            go_wp2_with fail
            go_ret
            exact ⟨rfl, ⟨c + z, H5.out.put1 _ (c + z) (by push_cast; rfl), fun _ => ⟨rfl, hcz⟩, by omega⟩, HF5.out.setCell _ _ (fun o ho => H.out.one o ho)⟩
          · have hq3 : (C == 34) = false := by rw [beq_eq_false_iff_ne]; exact h34
            by_cases h92 : C = 92
            · have hs2 := s2 h92
              rw [hdz] at hs2
              rw [hs2] at k2
              simp only at k2
              have hq4 : (C == 92) = true := by rw [beq_iff_eq]; exact h92
              have Hes := Lib.hid (fun W hW => tescaped_c b L (.slice (some ⟨g0, o0, none⟩) L.length cap) (c + z) W hW hL hcz)
              have hesc := esc_sc ⟨L.drop (c + z), false⟩
              have hel := escape_len ⟨L.drop (c + z), false⟩
              generalize sEscape ⟨L.drop (c + z), false⟩ = E at *
              obtain ⟨C2, st2⟩ := E
              simp only at k2 hesc hel Hes
              rw [List.length_drop] at hel
              have K2 := Lib.hid k2
              have Hsg := Lib.hid (fun W => refSign_c (C2 : Int) hesc W)
              have hne := encode_len (C2 : Int)
              have Hpos := Lib.hid (encode_pos (C2 : Int))
              clear hs2 s1 s2 s3 h34 h92 hsc hdz k2 hesc
              go_wp2_with fail
              go_region_held3 (fun W => W.cell? ⟨b, 0, none⟩ = some (.slice (some ⟨g0, o0, none⟩) L.length cap) ∧ W.cell? ⟨b, 1, none⟩ = some (.int .i64 (c : Int)) ∧ W.cell? ⟨b, 2, none⟩ = some (.bool false)) (go_keep) ((go_at_call 59; refine (Hf.out _ _ HSB.out).mono ?_; rintro e w5 ⟨rfl, hF5⟩; obtain ⟨c0, c1, c2, fz, hlt1⟩ := (HD3.out.frN hF5).cells))
              have H5 := Lib.hid (HD3.out.frN hF5)
              have HS5 := Lib.hid (HDS.out.fr hF5 (fun _ _ _ _ h => h))
              have HO5 := Lib.hid (HDO.out.fr hF5 (fun _ _ _ _ h => h))
              have HF5 := Lib.hid (HDF.out.trans' (hF5.mono (M' := MT b) (fun _ _ h => h.elim)))
              clear c0 c1 c2 fz hlt1 hF5
              obtain ⟨c0, c1, c2, fz, hlt1⟩ := H5.out.cells
              have H6 := Lib.hid (H5.out.put1 ((c : Int) + (z : Int)) (c + z) (by push_cast; rfl))
              have HF6 := Lib.hid (HF5.out.setCell ⟨b, 1, none⟩ (.int .i64 ((c : Int) + (z : Int))) (fun o ho => H.out.one o ho))
              have HO6 := Lib.hid (HO5.out.mt (b := b) (H5.out.setF 1 (.int .i64 ((c : Int) + (z : Int)))))
              have HS6 := Lib.hid (SBlow HS5.out hobk (H5.out.setF 1 (.int .i64 ((c : Int) + (z : Int)))))
              go_wp2_with fail
              refine (Hes.out _ H6.out).mono ?_
              rintro e w6 ⟨rfl, ⟨c7, hT7, hp7, hK7⟩, hF7⟩
              have HT7 := Lib.hid hT7
              have HF7 := Lib.hid (HF6.out.trans' hF7)
              have HO7 := Lib.hid (HO6.out.mt hF7)
              have HS7 := Lib.hid (SBlow HS6.out hobk hF7)
              have Hp7 := Lib.hid hp7
              clear hT7 hF7 hp7
              go_wp2_with fail
              refine (Hsg.out _).mono ?_
              rintro e w8 ⟨vs, rfl, hsb8, hF8⟩
              obtain ⟨g8, o8, cap8, rfl, hcp8, hS8, hlt8, hcell8⟩ := hsb8.cellsAt Hpos.out
              have HO8 := Lib.hid (HO7.out.fr hF8 (fun _ _ _ _ h => h))
              have HT8 := Lib.hid (HT7.out.frN hF8)
              have HS8 := Lib.hid (HS7.out.fr hF8 (fun _ _ _ _ h => h))
              have HF8 := Lib.hid (HF7.out.trans' (hF8.mono (M' := MT b) (fun _ _ h => h.elim)))
              have HC8 := Lib.hid hcell8
              have HN8 := Lib.hid (Fr.size HF8.out)
              clear hsb8 hF8 hcell8 hS8
              go_wp2_with (at_builtin; refine wpList_append_own _ rfl _ _ 28 rfl w.heap.size 5 i0 (.int .u8 0) 1 1 Tryz.underlying28 hi0 hz0 hz1 hz2 rfl (by decide) (.slice oa out.length oc) out.length (Lib.byteCells out) (by rfl) HO8.out ⟨g8, o8, none⟩ (Lib.encodeRune C2).length cap8 (Lib.byteCells (Lib.encodeRune C2)) (by rfl) ?c1 ?c2 ?c3 ?c4 ?c5 ?c6 ?_)
              case c1 => simp [Lib.byteCells]
              case c2 =>
                intro j u hu
                obtain ⟨x, hx, rfl⟩ : ∃ x, (Lib.encodeRune C2)[j]? = some x ∧ u = .int .u8 x.toNat := by
                  unfold Lib.byteCells at hu
                  rw [List.getElem?_map] at hu
                  cases hx : (Lib.encodeRune C2)[j]? with
                  | none => rw [hx] at hu; simp at hu
                  | some x => rw [hx] at hu; exact ⟨x, rfl, by simpa using hu.symm⟩
                rw [Addr.add_lit]
                exact HC8.out j x hx
              case c3 =>
                intro u hu
                unfold Lib.byteCells at hu
                rw [List.mem_map] at hu
                obtain ⟨x, _, rfl⟩ := hu
                rfl
              case c4 => unfold maxLen; omega
              case c5 => omega
              case c6 => exact HN8.out
              intro v' w9 hown9 hgr9 _
              obtain ⟨ho9, hF9⟩ := OB.push HO8.out Fr.refl hown9 hgr9
              obtain ⟨hT9, hS9⟩ := HT8.out.grow HS8.out hb hF9
              have HO9 := Lib.hid ho9
              have HT9 := Lib.hid hT9
              have HS9 := Lib.hid hS9
              have HF9 := Lib.hid (HF8.out.trans hF9 (fun _ _ h => .inr h))
              clear hown9 hgr9 ho9 hF9 hT9 hS9
              go_wp2_with fail
              go_roundg (if st2.bad = true then 0 else L.length + 2 - c7)
              case measure =>
                cases hb2 : st2.bad with
                | true => simp; omega
                | false =>
                  obtain ⟨q1, q2⟩ := Hp7.out hb2
                  have := congrArg List.length q1
                  rw [List.length_drop] at this
                  simp; omega
              case rel =>
                refine ⟨out ++ Lib.encodeRune (C2 : Int), c7, k, st2.bad, HT9, HS9, HO9, HF9, hK7, fun hb2 => ?_, rfl, Lib.hid (fun hb2 => ?_), Lib.hid (fun hb2 => ?_)⟩
                · obtain ⟨q1, q2⟩ := Hp7.out hb2
                  have := congrArg List.length q1
                  rw [List.length_drop] at this
                  rw [List.length_append]
                  omega
                · obtain ⟨q1, q2⟩ := Hp7.out hb2
                  have := congrArg List.length q1
                  rw [List.length_drop] at this
                  refine ⟨q2, by rw [List.length_drop] at k1 ⊢; omega, ?_⟩
                  rw [q1]
                  have hst : (⟨st2.s, false⟩ : St) = st2 := by rw [← hb2]
                  rw [hst]
                  exact K2.out
                · have := K2.out
                  rw [tloop_bad _ _ _ hb2] at this
                  rw [← this]
                  exact ⟨rfl, hb2⟩
            · have hs3 := s3 h34 h92
              rw [hdz] at hs3
              rw [hs3] at k2
              simp only at k2
              have hq4 : (C == 92) = false := by rw [beq_eq_false_iff_ne]; exact h92
              have hesc := hsc
              have K2 := Lib.hid k2
              have Hsg := Lib.hid (fun W => refSign_c C hesc W)
              have hne := encode_len C
              have Hpos := Lib.hid (encode_pos C)
              clear hs3 s1 s2 s3 h34 h92 hsc hdz k2 hesc
              go_wp2_with fail
              go_region_held3 (fun W => W.cell? ⟨b, 0, none⟩ = some (.slice (some ⟨g0, o0, none⟩) L.length cap) ∧ W.cell? ⟨b, 1, none⟩ = some (.int .i64 (c : Int)) ∧ W.cell? ⟨b, 2, none⟩ = some (.bool false)) (go_keep) ((go_at_call 59; refine (Hf.out _ _ HSB.out).mono ?_; rintro e w5 ⟨rfl, hF5⟩; obtain ⟨c0, c1, c2, fz, hlt1⟩ := (HD3.out.frN hF5).cells))
              have H5 := Lib.hid (HD3.out.frN hF5)
              have HS5 := Lib.hid (HDS.out.fr hF5 (fun _ _ _ _ h => h))
              have HO5 := Lib.hid (HDO.out.fr hF5 (fun _ _ _ _ h => h))
              have HF5 := Lib.hid (HDF.out.trans' (hF5.mono (M' := MT b) (fun _ _ h => h.elim)))
              clear c0 c1 c2 fz hlt1 hF5
              obtain ⟨c0, c1, c2, fz, hlt1⟩ := H5.out.cells
              have HT7 := Lib.hid (H5.out.put1 ((c : Int) + (z : Int)) (c + z) (by push_cast; rfl))
              have HF7 := Lib.hid (HF5.out.setCell ⟨b, 1, none⟩ (.int .i64 ((c : Int) + (z : Int))) (fun o ho => H.out.one o ho))
              have HO7 := Lib.hid (HO5.out.mt (b := b) (H5.out.setF 1 (.int .i64 ((c : Int) + (z : Int)))))
              have HS7 := Lib.hid (SBlow HS5.out hobk (H5.out.setF 1 (.int .i64 ((c : Int) + (z : Int)))))
              go_wp2_with fail
              refine (Hsg.out _).mono ?_
              rintro e w8 ⟨vs, rfl, hsb8, hF8⟩
              obtain ⟨g8, o8, cap8, rfl, hcp8, hS8, hlt8, hcell8⟩ := hsb8.cellsAt Hpos.out
              have HO8 := Lib.hid (HO7.out.fr hF8 (fun _ _ _ _ h => h))
              have HT8 := Lib.hid (HT7.out.frN hF8)
              have HS8 := Lib.hid (HS7.out.fr hF8 (fun _ _ _ _ h => h))
              have HF8 := Lib.hid (HF7.out.trans' (hF8.mono (M' := MT b) (fun _ _ h => h.elim)))
              have HC8 := Lib.hid hcell8
              have HN8 := Lib.hid (Fr.size HF8.out)
              clear hsb8 hF8 hcell8 hS8
              go_wp2_with (at_builtin; refine wpList_append_own _ rfl _ _ 28 rfl w.heap.size 5 i0 (.int .u8 0) 1 1 Tryz.underlying28 hi0 hz0 hz1 hz2 rfl (by decide) (.slice oa out.length oc) out.length (Lib.byteCells out) (by rfl) HO8.out ⟨g8, o8, none⟩ (Lib.encodeRune C).length cap8 (Lib.byteCells (Lib.encodeRune C)) (by rfl) ?c1 ?c2 ?c3 ?c4 ?c5 ?c6 ?_)
              case c1 => simp [Lib.byteCells]
              case c2 =>
                intro j u hu
                obtain ⟨x, hx, rfl⟩ : ∃ x, (Lib.encodeRune C)[j]? = some x ∧ u = .int .u8 x.toNat := by
                  unfold Lib.byteCells at hu
                  rw [List.getElem?_map] at hu
                  cases hx : (Lib.encodeRune C)[j]? with
                  | none => rw [hx] at hu; simp at hu
                  | some x => rw [hx] at hu; exact ⟨x, rfl, by simpa using hu.symm⟩
                rw [Addr.add_lit]
                exact HC8.out j x hx
              case c3 =>
                intro u hu
                unfold Lib.byteCells at hu
                rw [List.mem_map] at hu
                obtain ⟨x, _, rfl⟩ := hu
                rfl
              case c4 => unfold maxLen; omega
              case c5 => omega
              case c6 => exact HN8.out
              intro v' w9 hown9 hgr9 _
              obtain ⟨ho9, hF9⟩ := OB.push HO8.out Fr.refl hown9 hgr9
              obtain ⟨hT9, hS9⟩ := HT8.out.grow HS8.out hb hF9
              have HO9 := Lib.hid ho9
              have HT9 := Lib.hid hT9
              have HS9 := Lib.hid hS9
              have HF9 := Lib.hid (HF8.out.trans hF9 (fun _ _ h => .inr h))
              clear hown9 hgr9 ho9 hF9 hT9 hS9
              go_wp2_with fail
              go_roundg (L.length + 2 - (c + z))
              case measure => omega
              case rel =>
                refine ⟨out ++ Lib.encodeRune C, c + z, k, false, HT9, HS9, HO9, HF9, by omega, fun _ => ⟨by omega, by rw [List.length_append]; omega⟩, rfl, Lib.hid (fun _ => ⟨hcz, by rw [List.length_drop] at k1 ⊢; omega, K2.out⟩), Lib.hid (fun h => by simp at h)⟩
  · have hq : (nx (L.drop a) == 34) = false := by rw [beq_eq_false_iff_ne]; exact hm
    have hq2 : (nx (L.drop a) != 34) = true := by rw [bne, hq]; rfl
    have hmu : sMust [34] ⟨L.drop a, false⟩ = ⟨L.drop a, true⟩ := by
      unfold sMust
      rw [if_neg]
      intro h
      cases hr : L.drop a with
      | nil => rw [hr] at h; simp [Lib.hasPrefix] at h
      | cons x l =>
        rw [hr] at h hm
        have : x = 34 := by
          simp [Lib.hasPrefix] at h
          first | exact h.symm | exact h
        subst this
        exact hm rfl
    rw [hmu]
    have hbd : sTextLoop ((⟨L.drop a, false⟩ : St).s.length + 2) [] ⟨L.drop a, true⟩ = ([], ⟨L.drop a, true⟩) := tloop_bad _ _ _ rfl
    rw [hbd]
    clear hbd hmu hm
    generalize nx (L.drop a) = m0 at *
    go_enter Tryz.func62, Tryz.ntmps62
    go_wp2_with fail
    refine (Hc.out _ H.out).mono ?_
    rintro e w1 ⟨rfl, h2, hF⟩
    obtain ⟨c0, c1, c2, fz, hlt1⟩ := h2.cells
    have HF2 := Lib.hid ((hF.mono (M' := MT b) (fun _ _ h => h.elim)).setCell ⟨b, 2, none⟩ (.bool true) (fun o ho => H.out.one o ho))
    have H2 := Lib.hid (h2.set2 true)
    clear h2 hF
    go_wp2_with fail
    go_ret
    exact ⟨rfl, ⟨a, H2.out, fun h => by simp at h, by omega⟩, HF2.out⟩
end Go.Proofs.YtbfmpbhikipipaaGreatDoor
