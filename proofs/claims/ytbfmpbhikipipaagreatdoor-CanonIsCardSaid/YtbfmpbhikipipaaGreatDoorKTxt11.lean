/-
  The reference's reader of texts: a list, walked.
-/
import Derived.Test.YtbfmpbhikipipaaGreatDoorKTxt10
namespace Go.Proofs.YtbfmpbhikipipaaGreatDoor
set_option linter.unusedVariables false
set_option linter.unusedSimpArgs false
set_option linter.unusedSectionVars false
open Go.RowKit
variable [OldK]
attribute [local irreducible] wpStill
set_option maxRecDepth 100000 in
set_option maxHeartbeats 8000000 in
theorem tlist_c (f b : Nat) (L : Bs) (v : Value) (hv : TValOk b L v f) (hL : L.length ≤ 4096) (d : Int) (hd0 : 1 ≤ d) (hdf : d + f = 10) (a : Nat) (w : World) (h : TX b L v a false w) (l : Bs) (hl : L.drop a = 91 :: l) :
    Calls Tryz.prog 63 #[.pointer (some ⟨b, 0, none⟩), .int .i64 d] w fun e w' => ∃ j x, e = .returned x ∧ RJ (fun k => w.heap.size ≤ k) w' j x ∧
      ((sEach (sItem (sValue f d)) 91 93 d ⟨91 :: l, false⟩ []).1.bad = false → j = .mk 4 0 [] (sEach (sItem (sValue f d)) 91 93 d ⟨91 :: l, false⟩ []).2 []) ∧
      RS b L v (L.length + 11 - d.toNat) (sEach (sItem (sValue f d)) 91 93 d ⟨91 :: l, false⟩ []).1 w' ∧ Fr (MT b) w w' := by
  obtain ⟨d1, d2, d3, d4⟩ := dropAt hl
  have HL0 := Lib.hid (LS.start h #[.int .i64 4, .int .i64 0, .string ⟨#[]⟩, .slice none 0 0, .slice none 0 0])
  obtain ⟨q, cap, rfl⟩ := h.2.1.form
  by_cases hd : 8 < d
  · have hb := each_deep (one := sItem (sValue f d)) (shut := 93) (op := 91) (d := d) (l := l) (a := []) (by decide) hd
    generalize sEach (sItem (sValue f d)) 91 93 d ⟨91 :: l, false⟩ [] = G at *
    have hdd : decide (8 < d) = true := decide_eq_true hd
    have Hb := Lib.hid hb
    obtain ⟨c0, c1, c2, fz, hlt1⟩ := h.cells
    have HH := Lib.hid h
    clear hv h hl d3 hb
    go_enter Tryz.func63, Tryz.ntmps63
    go_wp2_with fail
    refine bodyPost_ret (v := .agg #[.int .i64 4, .int .i64 0, .string ⟨#[]⟩, .slice none 0 0, .slice none 0 0]) (by simp [results, Tryz.results63, go_sem]) rfl ?_
    exact ⟨.mk 4 0 [] [] [], _, rfl, RJ.flat _ _ 4 0 [], fun h => by rw [Hb.out] at h; simp at h, ⟨a, by rw [Hb.out]; exact (HH.out.set2 true).frN ((Fr.refl.alloc _).alloc _), fun h => by rw [Hb.out] at h; simp at h, by omega⟩, ((HH.out.setF _ _).alloc _).alloc _⟩
  · have hdd : decide (8 < d) = false := decide_eq_false hd
    obtain ⟨e1, e2⟩ := each_start (one := sItem (sValue f d)) (shut := 93) (op := 91) (d := d) (l := l) (a := []) (by decide) (by omega)
    obtain ⟨G, hG⟩ : ∃ G, sEach (sItem (sValue f d)) 91 93 d ⟨91 :: l, false⟩ [] = G := ⟨_, rfl⟩
    rw [hG] at e1 e2 ⊢
    have hbk := blk_le L (a + 1)
    have hdb := drop_blk L (a + 1)
    rw [d3] at hdb
    obtain ⟨p1, hc1⟩ : ∃ p1, blk L (a + 1) = p1 := ⟨_, rfl⟩
    have hbl := fun W hW => tblanks_c b L (.slice q L.length cap) (a + 1) false W hW hL (by omega)
    rw [hc1] at hbk hdb hbl
    have Hbl := Lib.hid hbl
    have hnx := fun W hW => next_c b L (.slice q L.length cap) p1 false W hW hL (by omega)
    rw [hdb] at hnx
    have Hnx := Lib.hid hnx
    have hc1L : p1 ≤ L.length := by omega
    have hac : a + 1 ≤ p1 := hbk.1
    have Hdb := Lib.hid hdb
    have wa : IntKind.i64.wrap ((a : Int) + 1) = (a : Int) + 1 := by rw [IntKind.wrap_i64]; omega
    have wc1 : IntKind.i64.wrap ((p1 : Int) + 1) = (p1 : Int) + 1 := by rw [IntKind.wrap_i64]; omega
    clear hG hbk hbl hc1 h hl hnx
    by_cases hm : nx (sBlanks l) = 93
    · obtain ⟨m, hm2⟩ := nx_cons (t := sBlanks l) (x := 93) (by decide) hm
      have hGm := e1 m hm2
      rw [hm2] at hdb
      obtain ⟨f1, f2, f3, f4⟩ := dropAt hdb
      have hq : (nx (sBlanks l) == 93) = true := by rw [beq_iff_eq]; exact hm
      generalize nx (sBlanks l) = m0 at *
      subst hGm
      have F3 := Lib.hid f3
      clear hv e1 e2 hm2 hdb f2 f3 hm d3 Hdb
      obtain ⟨c0, c1, c2, fz, hlt1⟩ := HL0.out.tx.cells
      obtain ⟨r0, r1, r2, r3, r4, rz, rlt⟩ := VB.at HL0.out.ra
      obtain ⟨v0, v1, v2, v3, v4, vz, vlt⟩ := VB.at HL0.out.rb
      go_enter Tryz.func63, Tryz.ntmps63
      go_wp2_with fail
      clear c0 c1 c2 fz hlt1 r0 r1 r2 r3 r4 rz rlt v0 v1 v2 v3 v4 vz vlt
      have HL1 := Lib.hid (HL0.out.put1 ((a : Int) + 1) (a + 1) rfl)
      refine (Hbl.out _ HL1.out.tx).mono ?_
      rintro e w2 ⟨rfl, h2, hF2⟩
      have HL2 := Lib.hid (HL1.out.call h2 hF2)
      clear h2 hF2
      go_wp2_with fail
      refine (Hnx.out _ HL2.out.tx).mono ?_
      rintro e w3 ⟨rfl, h2, hF2⟩
      have HL3 := Lib.hid (HL2.out.call h2 (hF2.mono (fun _ _ h => h.elim)))
      have HFc := Lib.hid (hF2.mono (M' := MT b) (fun _ _ h => h.elim))
      clear h2 hF2
      obtain ⟨c0, c1, c2, fz, hlt1⟩ := HL3.out.tx.cells
      obtain ⟨r0, r1, r2, r3, r4, rz, rlt⟩ := VB.at HL3.out.ra
      obtain ⟨v0, v1, v2, v3, v4, vz, vlt⟩ := VB.at HL3.out.rb
      have hltw := HL3.out.lt
      go_wp2_with fail
      refine bodyPost_ret (v := .agg #[.int .i64 4, .int .i64 0, .string ⟨#[]⟩, .slice none 0 0, .slice none 0 0]) (by simp [results, Tryz.results63, go_sem, r0, r1, r2, r3, r4]) rfl ?_
      obtain ⟨t1, t2⟩ := (HL3.out.put1 ((p1 : Int) + 1) (p1 + 1) rfl).tset (.int .i64 4) (.int .i64 0) (.string ⟨#[]⟩) (.slice none 0 0) (.slice none 0 0)
      exact ⟨.mk 4 0 [] [] [], _, rfl, RJ.flat _ _ 4 0 [], fun _ => rfl, ⟨p1 + 1, t1, fun _ => ⟨F3.out, by omega⟩, by omega⟩, t2⟩
    · have hq : (nx (sBlanks l) == 93) = false := by rw [beq_eq_false_iff_ne]; exact hm
      have hGm := e2 (nx_ne (x := 93) hm)
      rw [← Hdb.out] at hGm
      have hk0 : (L.drop p1).length + 1 ≤ l.length + 2 := by rw [List.length_drop]; omega
      generalize l.length + 2 = k0 at hGm hk0
      have HGm := Lib.hid hGm.symm
      generalize nx (sBlanks l) = m0 at *
      obtain ⟨i0, hi, hz0, hz1, hz2⟩ := info_parts Tryz.infoV
      clear e1 e2 hdb hm d3 Hdb hGm
      obtain ⟨c0, c1, c2, fz, hlt1⟩ := HL0.out.tx.cells
      obtain ⟨r0, r1, r2, r3, r4, rz, rlt⟩ := VB.at HL0.out.ra
      obtain ⟨v0, v1, v2, v3, v4, vz, vlt⟩ := VB.at HL0.out.rb
      go_enter Tryz.func63, Tryz.ntmps63
      go_wp2_with fail
      clear c0 c1 c2 fz hlt1 r0 r1 r2 r3 r4 rz rlt v0 v1 v2 v3 v4 vz vlt
      have HL1 := Lib.hid (HL0.out.put1 ((a : Int) + 1) (a + 1) rfl)
      refine (Hbl.out _ HL1.out.tx).mono ?_
      rintro e w2 ⟨rfl, h2, hF2⟩
      have HL2 := Lib.hid (HL1.out.call h2 hF2)
      clear h2 hF2
      go_wp2_with fail
      refine (Hnx.out _ HL2.out.tx).mono ?_
      rintro e w3 ⟨rfl, h2, hF2⟩
      have HL3 := Lib.hid (HL2.out.call h2 (hF2.mono (fun _ _ h => h.elim)))
      have HFc := Lib.hid (hF2.mono (M' := MT b) (fun _ _ h => h.elim))
      clear h2 hF2
      go_wp2_with fail
      clear HL0 HL1 HL2 Hbl Hnx wa wc1 hq
      go_loopg [] (k0 + 1) (fun g wr => ∃ (acc : List J) (lv : Value) (c k : Nat) (bd : Bool), Hid (LS b L (.slice q L.length cap) w c bd #[.int .i64 4, .int .i64 0, .string ⟨#[]⟩, lv, .slice none 0 0] wr) ∧ Hid (LRow (fun _ => False) (w.heap.size + 2) acc lv wr) ∧
        c ≤ L.length + 11 - d.toNat ∧ (bd = false → acc.length ≤ c) ∧ k + 1 = g ∧
        Hid (bd = false → c ≤ L.length ∧ (L.drop c).length + 1 ≤ k ∧ sLoop (sItem (sValue f d)) 93 k ⟨L.drop c, false⟩ acc = G) ∧ Hid (bd = true → G.1.bad = true))
      case atStart => exact ⟨[], .slice none 0 0, p1, k0, false, HL3, Lib.hid (LRow.nil _ _ _), by omega, fun _ => by simp, rfl, Lib.hid (fun _ => ⟨hc1L, hk0, HGm.out⟩), Lib.hid (fun h => by simp at h)⟩
      case round =>
        clear HL3 HGm
        obtain ⟨acc, lv, c, k, bd, H, HR, hcK, hacc, hkg, HA, HB⟩ := hrel
        cases bd with
        | true =>
          have HG := Lib.hid (HB.out rfl)
          obtain ⟨al, cl, rfl⟩ := own_form HR.out.choose_spec.1
          clear HA HB hacc
          obtain ⟨c0, c1, c2, fz, hlt1⟩ := H.out.tx.cells
          obtain ⟨r0, r1, r2, r3, r4, rz, rlt⟩ := VB.at H.out.ra
          obtain ⟨v0, v1, v2, v3, v4, vz, vlt⟩ := VB.at H.out.rb
          go_wp2_with fail
          refine bodyPost_ret (v := .agg #[.int .i64 4, .int .i64 0, .string ⟨#[]⟩, .slice al acc.length cl, .slice none 0 0]) (by simp [results, Tryz.results63, go_sem, r0, r1, r2, r3, r4]) rfl ?_
          obtain ⟨t1, t2⟩ := H.out.tset (.int .i64 4) (.int .i64 0) (.string ⟨#[]⟩) (.slice al acc.length cl) (.slice none 0 0)
          exact ⟨.mk 4 0 [] acc [], _, rfl, HR.out.val _ _ _ _ _, fun h => by rw [HG.out] at h; simp at h, ⟨c, by rw [HG.out]; exact t1, fun h => by rw [HG.out] at h; simp at h, hcK⟩, t2⟩
        | false =>
          have hacc := hacc rfl
          obtain ⟨k0', k1, k2⟩ := HA.out rfl
          obtain ⟨k, rfl⟩ : ∃ k', k = k' + 1 := ⟨k - 1, by omega⟩
          have hval := fun W hW => hv d c W hW k0' (by omega) (by omega) hdf
          have hle := value_le f d ⟨L.drop c, false⟩
          obtain ⟨⟨jv, st1⟩, hV⟩ : ∃ V, sValue f d ⟨L.drop c, false⟩ = V := ⟨_, rfl⟩
          have hone : sItem (sValue f d) ⟨L.drop c, false⟩ acc = (st1, acc ++ [jv]) := by simp only [sItem, hV]
          simp only [hV] at hval hle
          have Hround := Lib.hid (fun a' hpos hK => round_facts (K := L.length + 11 - d.toNat) (a' := a') (shut := 93) (by decide) (by decide) hone hle k0' k1 k2 hpos hK (by omega))
          have Hval := Lib.hid hval
          obtain ⟨xs, hown, hrc⟩ := HR.out
          obtain ⟨ao, co, rfl⟩ := own_form hown
          have Hown := Lib.hid hown
          have Hrc := Lib.hid hrc
          have HD := Lib.hid (H.out.callN (Fr.refl.drew))
          have hacc2 : acc.length ≤ 4096 := by omega
          have hlen1 : (acc.length + 1) * 80 ≤ 140737488355328 := by omega
          have hlen2 : acc.length + 1 ≤ maxLen := by unfold maxLen; omega
          have hwN : w.heap.size + 1 < wr.heap.size := get_lt H.out.rb
          have HO0 := Lib.hid (fun k hk => (own_ty hown k hk).1)
          clear HA HB hval hle hV hone k2 hown hrc HR k1
          obtain ⟨c0, c1, c2, fz, hlt1⟩ := H.out.tx.cells
          obtain ⟨r0, r1, r2, r3, r4, rz, rlt⟩ := VB.at H.out.ra
          obtain ⟨v0, v1, v2, v3, v4, vz, vlt⟩ := VB.at H.out.rb
          go_wp2_with fail
          go_region_law (first
            | (go_simp; go_at_call 45; refine (Hval.out _ HD.out.tx).mono ?_; rintro e w1 ⟨⟨jk', jn', jt', jl', jp'⟩, y, rfl, hy, hjs, ⟨a', hT1, hpos, hK⟩, hF1⟩; obtain ⟨z1, m1, z2, m2, rfl, _, _⟩ := hy.open; have Hy := Lib.hid hy; have HF1 := Lib.hid hF1; have H1 := Lib.hid (HD.out.call hT1 hF1); have Hjs := Lib.hid hjs; have Hpos := Lib.hid hpos; have B31 := (VB.at H1.out.rb).2.2.2.1; have BZ1 := (VB.at H1.out.rb).2.2.2.2.2.1 3; have BL1 := (VB.at H1.out.rb).2.2.2.2.2.2; clear hy hF1 hjs hpos hT1)
            | (refine step_append_own rfl (.tmp 40) (.tmp 44) 22 rfl (w.heap.size + 2) 25 i0 (.agg #[.int .i64 0, .int .i64 0, .string ⟨#[]⟩, .slice none 0 0, .slice none 0 0]) 5 80 Tryz.underlying22 hi hz0 hz1 hz2 rfl (by decide) (.slice ao acc.length co) acc.length xs rfl (by exact ((own_mtV (wr := wr.drew) Hown.out HF1.out).alloc _)) ⟨w1.heap.size, 0, none⟩ 1 [.int .i64 jk', .int .i64 jn', .string ⟨jt'.toArray⟩, .slice z1 jl'.length m1, .slice z2 jp'.length m2] rfl rfl (by exact cells_at w1 _ _ _ rfl) (by simp [Value.oneCell']) hlen2 hlen1 (by simp; omega) ?_; intro g cp w2 hown2 hgr2 hg2 hc2 hf2; have Hown2 := Lib.hid hown2; have Hgr2 := Lib.hid hgr2; have Hg2 := Lib.hid hg2; have Hb2 := Lib.hid (grown_keep hgr2 (alloc_keep _ H1.out.rb) (fun e => by have := HO0.out _ e; omega)); have B32 := (VB.at Hb2.out).2.2.2.1; have BZ2 := (VB.at Hb2.out).2.2.2.2.2.1 3; clear hown2 hgr2 hg2 hc2 hf2))
          all_goals
            have H3 : Hid (LS b L (.slice q L.length cap) w a' st1.bad #[.int .i64 4, .int .i64 0, .string ⟨#[]⟩, .slice (some ⟨g, 0, none⟩) (acc.length + 1) cp, .slice none 0 0] (w2.setCell ⟨w.heap.size + 1, 3, none⟩ (.slice (some ⟨g, 0, none⟩) (acc.length + 1) cp))) :=
              Lib.hid (H1.out.push (lv := .slice ao acc.length co) (o := 3) Hgr2.out (fun k hk => HO0.out k hk))
            have HR3 : Hid (LRow (fun _ => False) (w.heap.size + 2) (acc ++ [J.mk jk' jn' jt' jl' jp']) (.slice (some ⟨g, 0, none⟩) (acc.length + 1) cp) (w2.setCell ⟨w.heap.size + 1, 3, none⟩ (.slice (some ⟨g, 0, none⟩) (acc.length + 1) cp))) := by
              have hg2 : (Value.slice ao acc.length co).ownBlock = some g ∨ w1.heap.size + 1 ≤ g := by have := Hg2.out; simp only [World.size_alloc] at this; exact this
              have hs1 := HF1.out.size
              simp only [World.size_drew] at hs1
              refine Lib.hid (LRow.push (S := fun _ => False) (N := w.heap.size + 2) (M := wr.heap.size) (bv := w.heap.size + 1) (own_mtV (wr := wr.drew) Hown.out HF1.out) (RC.mt (wr := wr.drew) (RC.kp (Kp.ofFr Fr.refl.drew) _ _ Hrc.out) H.out.old HF1.out) (fun _ h => h.elim) (RJ.kp (fun b o hs hb _ => ⟨.inr (by simpa using hs), hb⟩) _ _ Hy.out) (by omega) (fun k hk => ?_) Hgr2.out hg2 Hown2.out (by omega) (fun h => h) ?_ 3)
              · obtain ⟨_, o', ho, _⟩ := own_ty Hown.out k hk
                exact get_lt ho
              · rcases hg2 with h | h
                · exact HO0.out _ h
                · omega
            have ha9 : a' ≤ 5000 := by omega
            have hbl := fun W hW => tblanks_c b L (.slice q L.length cap) a' st1.bad W hW hL (by omega)
            obtain ⟨ra, rb', rc, rd⟩ := Hround.out a' Hpos.out (by omega)
            obtain ⟨a2, ha2⟩ : ∃ a2, blk L a' = a2 := ⟨_, rfl⟩
            rw [ha2] at ra rb' rc rd hbl
            have hnx := fun W hW => next_c b L (.slice q L.length cap) a2 st1.bad W hW hL (by omega)
            obtain ⟨m0, hm0⟩ : ∃ m0, nx (L.drop a2) = m0 := ⟨_, rfl⟩
            rw [hm0] at hnx rb' rc rd
            have Hbl := Lib.hid hbl
            have Hnx := Lib.hid hnx
            have Hrb := Lib.hid rb'
            have Hrc2 := Lib.hid rc
            have Hrd := Lib.hid rd
            have wa2 : IntKind.i64.wrap ((a2 : Int) + 1) = (a2 : Int) + 1 := by rw [IntKind.wrap_i64]; omega
            clear hbl hnx rb' rc rd ha2 hm0 Hown2 Hgr2 Hg2 Hb2 B32 BZ2 B31 BZ1 BL1 H1 HF1 Hy HD Hown Hrc HO0 H hv Hval Hround Hpos
            obtain ⟨w3, hw3⟩ : ∃ w3, w2.setCell ⟨w.heap.size + 1, 3, none⟩ (.slice (some ⟨g, 0, none⟩) (acc.length + 1) cp) = w3 := ⟨_, rfl⟩
            rw [hw3] at H3 HR3 ⊢
            clear hw3
            clear c0 c1 c2 fz hlt1 r0 r1 r2 r3 r4 rz rlt v0 v1 v2 v3 v4 vz vlt
            have hltw := H3.out.lt
            by_cases h93 : m0 = 93
            · obtain ⟨g1, g2⟩ := Hrb.out h93
              have hq : (m0 == 93) = true := by rw [beq_iff_eq]; exact h93
              have Hg1 := Lib.hid g1
              have Hg2' := Lib.hid g2
              clear h93 g1 g2 Hrb Hrc2 Hrd
              go_wp2_with fail
              refine (Hbl.out _ H3.out.tx).mono ?_
              rintro e w4 ⟨rfl, h2, hF2⟩
              have H4 := Lib.hid (H3.out.call h2 hF2)
              have HFc := Lib.hid hF2
              clear h2 hF2
              have HR4 := Lib.hid (HR3.out.mt H3.out.old HFc.out)
              go_wp2_with fail
              refine (Hnx.out _ H4.out.tx).mono ?_
              rintro e w5 ⟨rfl, h2, hF2⟩
              have H5 := Lib.hid (H4.out.call h2 (hF2.mono (fun _ _ h => h.elim)))
              have HFc := Lib.hid (hF2.mono (M' := MT b) (fun _ _ h => h.elim))
              clear h2 hF2
              have HR5 := Lib.hid (HR4.out.mt H3.out.old HFc.out)
              have H6 := Lib.hid (H5.out.put1 ((a2 : Int) + 1) (a2 + 1) rfl)
              have HR6 := Lib.hid (HR5.out.mt H3.out.old (H5.out.tx.setF 1 (.int .i64 ((a2 : Int) + 1))))
              obtain ⟨c0, c1, c2, fz, hlt1⟩ := H5.out.tx.cells
              obtain ⟨r0, r1, r2, r3, r4, rz, rlt⟩ := VB.at H5.out.ra
              obtain ⟨v0, v1, v2, v3, v4, vz, vlt⟩ := VB.at H5.out.rb
              go_wp2_with fail
              refine bodyPost_ret (v := .agg #[.int .i64 4, .int .i64 0, .string ⟨#[]⟩, .slice (some ⟨g, 0, none⟩) (acc.length + 1) cp, .slice none 0 0]) (by simp [results, Tryz.results63, go_sem, r0, r1, r2, r3, r4]) rfl ?_
              obtain ⟨t1, t2⟩ := H6.out.tset (.int .i64 4) (.int .i64 0) (.string ⟨#[]⟩) (.slice (some ⟨g, 0, none⟩) (acc.length + 1) cp) (.slice none 0 0)
              exact ⟨.mk 4 0 [] (acc ++ [J.mk jk' jn' jt' jl' jp']) [], _, rfl, HR6.out.val (.int .i64 4) (.int .i64 0) (.string ⟨#[]⟩) (.slice (some ⟨g, 0, none⟩) (acc.length + 1) cp) (.slice none 0 0), fun h => by obtain ⟨q1, q2⟩ := Hg1.out h; rw [q2, Hjs.out q1], Hg2'.out _ _ _ t1, t2⟩
            · have hq : (m0 == 93) = false := by rw [beq_eq_false_iff_ne]; exact h93
              by_cases h44 : m0 = 44
              · obtain ⟨g1, g2⟩ := Hrc2.out h44
                have hq2 : (m0 == 44) = true := by rw [beq_iff_eq]; exact h44
                have hq3 : (m0 != 44) = false := by rw [bne, hq2]; rfl
                have Hg1 := Lib.hid g1
                have Hg2' := Lib.hid g2
                clear h93 h44 g1 g2 Hrb Hrc2 Hrd
                go_wp2_with fail
                refine (Hbl.out _ H3.out.tx).mono ?_
                rintro e w4 ⟨rfl, h2, hF2⟩
                have H4 := Lib.hid (H3.out.call h2 hF2)
                have HFc := Lib.hid hF2
                clear h2 hF2
                have HR4 := Lib.hid (HR3.out.mt H3.out.old HFc.out)
                go_wp2_with fail
                refine (Hnx.out _ H4.out.tx).mono ?_
                rintro e w5 ⟨rfl, h2, hF2⟩
                have H5 := Lib.hid (H4.out.call h2 (hF2.mono (fun _ _ h => h.elim)))
                have HFc := Lib.hid (hF2.mono (M' := MT b) (fun _ _ h => h.elim))
                clear h2 hF2
                have HR5 := Lib.hid (HR4.out.mt H3.out.old HFc.out)
                have H6 := Lib.hid (H5.out.put1 ((a2 : Int) + 1) (a2 + 1) rfl)
                have HR6 := Lib.hid (HR5.out.mt H3.out.old (H5.out.tx.setF 1 (.int .i64 ((a2 : Int) + 1))))
                obtain ⟨c0, c1, c2, fz, hlt1⟩ := H5.out.tx.cells
                obtain ⟨r0, r1, r2, r3, r4, rz, rlt⟩ := VB.at H5.out.ra
                obtain ⟨v0, v1, v2, v3, v4, vz, vlt⟩ := VB.at H5.out.rb
                go_wp2_with fail
                go_roundg (gk - 1)
                case measure => omega
                case rel =>
                  refine ⟨acc ++ [J.mk jk' jn' jt' jl' jp'], _, a2 + 1, k, st1.bad, H6, HR6, ra, fun hb => ?_, by omega, Lib.hid (fun hb => ?_), Hg1⟩
                  · have := (Hg2'.out hb).1
                    rw [List.length_append]
                    simp only [List.length_cons, List.length_nil]
                    omega
                  · obtain ⟨-, x2, x3, x4⟩ := Hg2'.out hb
                    exact ⟨x2, x3, by rw [Hjs.out hb]; exact x4⟩
              · have hq2 : (m0 == 44) = false := by rw [beq_eq_false_iff_ne]; exact h44
                have hq3 : (m0 != 44) = true := by rw [bne, hq2]; rfl
                have Hg1 := Lib.hid (Hrd.out h93 h44)
                clear h93 h44 Hrb Hrc2 Hrd
                go_wp2_with fail
                refine (Hbl.out _ H3.out.tx).mono ?_
                rintro e w4 ⟨rfl, h2, hF2⟩
                have H4 := Lib.hid (H3.out.call h2 hF2)
                have HFc := Lib.hid hF2
                clear h2 hF2
                have HR4 := Lib.hid (HR3.out.mt H3.out.old HFc.out)
                go_wp2_with fail
                refine (Hnx.out _ H4.out.tx).mono ?_
                rintro e w5 ⟨rfl, h2, hF2⟩
                have H5 := Lib.hid (H4.out.call h2 (hF2.mono (fun _ _ h => h.elim)))
                have HFc := Lib.hid (hF2.mono (M' := MT b) (fun _ _ h => h.elim))
                clear h2 hF2
                have HR5 := Lib.hid (HR4.out.mt H3.out.old HFc.out)
                have H6 := Lib.hid (H5.out.put1 ((a2 : Int) + 1) (a2 + 1) rfl)
                have HR6 := Lib.hid (HR5.out.mt H3.out.old (H5.out.tx.setF 1 (.int .i64 ((a2 : Int) + 1))))
                have H7 := Lib.hid (H6.out.set2 true)
                have HR7 := Lib.hid (HR6.out.mt H3.out.old (H6.out.tx.setF 2 (.bool true)))
                obtain ⟨c0, c1, c2, fz, hlt1⟩ := H5.out.tx.cells
                obtain ⟨r0, r1, r2, r3, r4, rz, rlt⟩ := VB.at H5.out.ra
                obtain ⟨v0, v1, v2, v3, v4, vz, vlt⟩ := VB.at H5.out.rb
                go_wp2_with fail
                go_roundg (gk - 1)
                case measure => omega
                case rel =>
                  exact ⟨acc ++ [J.mk jk' jn' jt' jl' jp'], _, a2 + 1, k, true, H7, HR7, ra, fun hb => by simp at hb, by omega, Lib.hid (fun hb => by simp at hb), Lib.hid (fun _ => Hg1.out)⟩
end Go.Proofs.YtbfmpbhikipipaaGreatDoor
