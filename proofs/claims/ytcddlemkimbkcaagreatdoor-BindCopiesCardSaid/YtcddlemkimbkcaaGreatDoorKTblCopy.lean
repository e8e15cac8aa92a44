/-
 The walk of bind's Copy: another table like it.
-/
import Derived.Test.YtcddlemkimbkcaaGreatDoorKMapsClone
import Derived.Test.YtcddlemkimbkcaaGreatDoorKNum
import Derived.Test.YtcddlemkimbkcaaGreatDoorKCpS
namespace Go.Proofs.YtcddlemkimbkcaaGreatDoor
set_option linter.unusedVariables false
set_option linter.unusedSimpArgs false
set_option linter.unusedSectionVars false
open Go.RowKit Go.Shelf
variable [OldK]
theorem RangeB.few {k : TypeId} {K : KeyB Tryz.prog k} {w : World} {b r n cnt : Nat} {M : Bs → Option Value} {left : Bs → Bool} (h : RangeB K w b r n M left cnt) : cnt ≤ n := by
 obtain ⟨D, lf, ⟨es, clock, since, seen, c0, h0, h1, h2, h3, h4, h5, h6, -⟩, -⟩ := h
 rw [← h6]
 refine Nat.le_trans ?_ h2
 unfold leftOf
 exact Array.size_filter_le
/-- the copies made so far: 'left' is still to come -/
structure CopyI (b0 : Nat) (hist : Bs → List Chg) (gout : Bs → Option Value) (left : Bs → Bool) (w : World) : Prop where
 yet : ∀ x : Bs, x.length ≤ maxLen → left x = true → gout x = none
 rows : ∀ x : Bs, x.length ≤ maxLen → left x = false → w.ownsRow b0 117 34 (atOr gout x) (hist x).length ((hist x).flatMap Chg.cells)
 apart : ∀ x y : Bs, x.length ≤ maxLen → y.length ≤ maxLen → x ≠ y → (atOr gout x).ownBlock = none ∨ (atOr gout x).ownBlock ≠ (atOr gout y).ownBlock
theorem CopyI.start {base tb n bc bl : Nat} {t : Tb} {g lv : Bs → Option Value} {w w' : World} (h : TBL base tb n bc bl t g lv w) (b0 : Nat) : CopyI b0 t.hist (fun _ => none) (fun x => (g x).isSome) w' where
 yet _ _ _ := rfl
 rows x hx hl := by
  have hg : g x = none := by cases hq : g x with | none => rfl | some v => rw [hq] at hl; cases hl
  have h1 := h.rows x hx
  unfold atOr at h1
  rw [hg] at h1
  have h0 : (t.hist x).length = 0 := by
   rcases h1.2 with ⟨-, h2⟩ | ⟨g', cap, cur, e, -⟩
   ·exact h2
   ·cases e
  rw [List.length_eq_zero_iff.1 h0]
  exact ⟨rfl, .inl ⟨rfl, rfl⟩⟩
 apart _ _ _ _ _ := .inl rfl
theorem row_base {w : World} {b b' e s n : Nat} {v : Value} {xs : List Value} (h : w.ownsRow b e s v n xs) (hb : b' ≤ b) : w.ownsRow b' e s v n xs := by
 refine ⟨h.1, h.2.imp id ?_⟩
 rintro ⟨g, cap, cur, h1, h2, h3⟩
 exact ⟨g, cap, cur, h1, Nat.le_trans hb h2, h3⟩
theorem CopyI.blk {b0 : Nat} {hist : Bs → List Chg} {gout : Bs → Option Value} {left : Bs → Bool} {w : World} (h : CopyI b0 hist gout left w) {x : Bs} (hx : x.length ≤ maxLen) : (atOr gout x).ownBlock = none ∨ ∃ k, (atOr gout x).ownBlock = some k ∧ k < w.heap.size := by
 cases hl : left x with
 | true => unfold atOr; rw [h.yet x hx hl]; exact .inl rfl
 | false =>
   rcases (h.rows x hx hl).2 with ⟨h2, -⟩ | ⟨g', cap, cur, e, -, h3, -⟩
   ·rw [h2]; exact .inl rfl
   ·rw [e]; exact .inr ⟨g', rfl, get_lt h3⟩
theorem CopyI.step {b0 bc : Nat} {hist : Bs → List Chg} {gout : Bs → Option Value} {left : Bs → Bool} {w w1 w2 : World} (h : CopyI b0 hist gout left w) {x : Bs} (hx : x.length ≤ maxLen) {v : Value} (hb : b0 ≤ w.heap.size) (hF : Fr NoB w w1)
 (hv : w1.ownsRow w.heap.size 117 34 v (hist x).length ((hist x).flatMap Chg.cells)) {m : Nat} {M : Bs → Option Value} (hm : MapB strK w1 bc m M) (hg : w1.grownBy w2 (some bc)) : CopyI b0 hist (upd gout x (some v)) (upd left x false) w2 := by
 have gx : atOr (upd gout x (some v)) x = v := by unfold atOr; rw [upd_same]; rfl
 have gy : ∀ y, y ≠ x → atOr (upd gout x (some v)) y = atOr gout y := fun y hy => by unfold atOr; rw [upd_other _ _ hy]
 have keep : ∀ {b : Nat} {v : Value} {m : Nat} {xs : List Value}, w1.ownsRow b 117 34 v m xs → w2.ownsRow b 117 34 v m xs := fun {b v m xs} ho => by
  refine ⟨ho.1, ho.2.imp id ?_⟩
  rintro ⟨g', cap, cur, e1, e2, e3, e4⟩
  refine ⟨g', cap, cur, e1, e2, (hg.block _ (get_lt e3) (fun e => ?_)).trans e3, e4⟩
  obtain rfl := Option.some.inj e
  exact map_not_ty hm e3 ⟨_, _, rfl⟩
 have hvb : v.ownBlock = none ∨ ∃ k, v.ownBlock = some k ∧ w.heap.size ≤ k := by
  rcases hv.2 with ⟨h2, -⟩ | ⟨g', cap, cur, e, h3, -⟩
  ·rw [h2]; exact .inl rfl
  ·rw [e]; exact .inr ⟨g', rfl, h3⟩
 refine ⟨fun y hy hl => ?_, fun y hy hl => ?_, fun y z hy hz hne => ?_⟩
 ·by_cases he : y = x
  ·subst he
   rw [upd_same] at hl
   cases hl
  ·rw [upd_other _ _ he] at hl ⊢
   exact h.yet y hy hl
 ·by_cases he : y = x
  ·subst he
   rw [gx]
   exact keep (row_base hv hb)
  ·rw [upd_other _ _ he] at hl
   rw [gy y he]
   exact keep (ownsRow_fr (h.rows y hy hl) hF (fun _ _ _ _ h => h))
 ·by_cases hyx : y = x
  ·subst hyx
   rw [gx, gy z (fun e => hne e.symm)]
   rcases hvb with h1 | ⟨k, h1, h2⟩
   ·exact .inl h1
   ·right
    rw [h1]
    rcases h.blk hz with h3 | ⟨k', h3, h4⟩
    ·rw [h3]; simp
    ·rw [h3]
     intro e
     injection e with e
     omega
  ·rw [gy y hyx]
   by_cases hzx : z = x
   ·subst hzx
    rw [gx]
    rcases h.blk hy with h3 | ⟨k', h3, h4⟩
    ·exact .inl h3
    ·right
     rw [h3]
     rcases hvb with h1 | ⟨k, h1, h2⟩
     ·rw [h1]; simp
     ·rw [h1]
      intro e
      injection e with e
      omega
   ·rw [gy z hzx]
    exact h.apart y z hy hz hne
theorem CopyI.keep {b0 : Nat} {hist : Bs → List Chg} {gout : Bs → Option Value} {left : Bs → Bool} {w w' : World} (h : CopyI b0 hist gout left w) (hF : Fr NoB w w') : CopyI b0 hist gout left w' :=
 ⟨h.yet, fun x hx hl => ownsRow_fr (h.rows x hx hl) hF (fun _ _ _ _ h => h), h.apart⟩
theorem CopyI.iter {b0 : Nat} {hist : Bs → List Chg} {g gout : Bs → Option Value} {left left' : Bs → Bool} {w w' : World} {bc rr n cnt : Nat} (h : CopyI b0 hist gout left w) (hr : RangeB strK w bc rr n g left' cnt) (hg : w.grownBy w' (some rr)) : CopyI b0 hist gout left w' := by
 obtain ⟨D, lf, ⟨es, clock, since, seen, c0, -, -, -, -, hr, -⟩, -⟩ := hr
 refine ⟨h.yet, fun x hx hl => ?_, h.apart⟩
 have ho := h.rows x hx hl
 refine ⟨ho.1, ho.2.imp id ?_⟩
 rintro ⟨g', cap, cur, e1, e2, e3, e4⟩
 refine ⟨g', cap, cur, e1, e2, (hg.block _ (get_lt e3) (fun e => ?_)).trans e3, e4⟩
 obtain rfl := Option.some.inj e
 rw [hr] at e3
 cases e3
theorem RangeB.keep {k : TypeId} {K : KeyB Tryz.prog k} {w w' : World} {b r n cnt : Nat} {M : Bs → Option Value} {left : Bs → Bool} (h : RangeB K w b r n M left cnt) (hF : Fr NoB w w') : RangeB K w' b r n M left cnt := by
 obtain ⟨ob, hob⟩ := get_some h.map.lt
 obtain ⟨obr, hobr⟩ := get_some h.lt
 exact h.same ((hF.block _ _ hob (fun h => h)).trans hob.symm) ((hF.block _ _ hobr (fun h => h)).trans hobr.symm)
set_option maxRecDepth 100000 in
set_option maxHeartbeats 4000000 in
theorem tblCopy_c {base tb n bc bl : Nat} {t : Tb} {g lv : Bs → Option Value} (w : World) (h : TBL base tb n bc bl t g lv w) (hn : n ≤ 1000000) :
 Calls Tryz.prog 37 #[.pointer (some ⟨tb, 0, none⟩)] w fun e w' => ∃ g', e = .returned (.pointer (some ⟨w.heap.size + 2, 0, none⟩)) ∧ TBL w.heap.size (w.heap.size + 2) n w.heap.size (w.heap.size + 1) t g' lv w' ∧ Fr NoB w w' := by
 obtain ⟨t0, t1⟩ := h.at
 have hold : OldK.k ≤ w.heap.size := Nat.le_trans h.old (Nat.le_of_lt (Nat.lt_of_le_of_lt h.low.1 (get_lt h.cells)))
 have hFa : Fr NoB w (w.alloc (.map #[] 0)) := Fr.refl.alloc _
 obtain ⟨es, clock, hes, hli⟩ := (h.keep hFa).li.copied
 have hcl := mapsClone_c bl es clock _ hes
 have t1a := Fr.cell hFa t1
 have hA1 := heap_alloc_new w (.map #[] 0)
 have hT := Lib.hid h
 have hs1 : (w.alloc (.map #[] 0)).heap.size = w.heap.size + 1 := World.size_alloc _ _
 have hs2 : ((w.alloc (.map #[] 0)).alloc (.map es clock)).heap.size = w.heap.size + 2 := by rw [World.size_alloc, hs1]
 rw [hs1] at hcl hli
 have hF2 : Fr NoB (w.alloc (.map #[] 0)) (((w.alloc (.map #[] 0)).alloc (.map es clock)).alloc (.cells #[.map (some w.heap.size), .map (some (w.heap.size + 1))] 115)) := (Fr.refl.alloc _).alloc _
 have hF3 : Fr NoB ((w.alloc (.map #[] 0)).alloc (.map es clock)) (((w.alloc (.map #[] 0)).alloc (.map es clock)).alloc (.cells #[.map (some w.heap.size), .map (some (w.heap.size + 1))] 115)) := Fr.refl.alloc _
 have hB1 := hF2.block _ _ hA1 (fun h => h)
 have hB2 := hli.fr hF3 (fun _ h => h)
 have hB3 := heap_alloc_new ((w.alloc (.map #[] 0)).alloc (.map es clock)) (.cells #[.map (some w.heap.size), .map (some (w.heap.size + 1))] 115)
 rw [hs2] at hB3
 have hFW : Fr NoB w (((w.alloc (.map #[] 0)).alloc (.map es clock)).alloc (.cells #[.map (some w.heap.size), .map (some (w.heap.size + 1))] 115)) := hFa.trans' hF2
 have Hcl := Lib.hid hcl
 have HB1 := Lib.hid hB1
 have HB2 := Lib.hid hB2
 have HB3 := Lib.hid hB3
 have HFW := Lib.hid hFW
 clear hA1 hcl hB1 hB2 hB3 hFW hF2 hF3 hli hes hFa h
 have hm : ∀ (t : TypeId) (W : World), (Instr.makeMap t none).run Tryz.prog W = .ok (.map (some W.heap.size)) (W.alloc (.map #[] 0)) := fun t W => run_makeMap t W
 have hb : ∀ (a b : Option Nat) (W : World), (Instr.build 115 #[(0, .map a), (1, .map b)]).run Tryz.prog W = .ok (.agg #[.map a, .map b]) W := fun a b W => run_build W 115 _ _ (by kernel_rfl)
 go_enter Tryz.func37, Tryz.ntmps37
 go_wp2_with fail
 refine Hcl.out.mono ?_
 rintro r w1 ⟨rfl, rfl⟩
 go_upto_region 4 with (fail)
 change Code.wp _ _ _ _ (((w.alloc (.map #[] 0)).alloc (.map es clock)).alloc (.cells #[.map (some w.heap.size), .map (some (w.heap.size + 1))] 115))
 obtain ⟨W, hW⟩ : ∃ V, ((w.alloc (.map #[] 0)).alloc (.map es clock)).alloc (.cells #[.map (some w.heap.size), .map (some (w.heap.size + 1))] 115) = V := ⟨_, rfl⟩
 have hWs : W.heap.size = w.heap.size + 3 := by rw [← hW, World.size_alloc, hs2]
 rw [hW] at HB1 HB2 HB3 HFW ⊢
 obtain ⟨B0, hB0⟩ : ∃ x, w.heap.size = x := ⟨_, rfl⟩
 rw [hB0] at HB1 HB2 HB3 hold hWs ⊢
 have hTW := hT.out.keep HFW.out
 obtain ⟨t0, t1⟩ := hTW.at
 have hlo : bc < B0 := by rw [← hB0]; exact hT.out.ch.lt
 have htlt : tb < B0 := by rw [← hB0]; exact get_lt hT.out.cells
 obtain ⟨w10, hrun, ⟨cnt, hrb⟩, hg10, -⟩ := hTW.ch.range (K := strK) (w := W) Tryz.underlying112
 have hcnt := hrb.few
 have hF10 : Fr (fun k _ => k = B0) W w10 := (Fr.ofGrown hg10).mono (fun _ _ h => by cases h)
 have HR10 := Lib.hid hrb
 have HF10 := Lib.hid hF10
 have HM10 : Hid (MapB strK w10 B0 0 (fun _ => none)) := Lib.hid ((MapB.new HB1.out).fr ((Fr.ofGrown hg10).mono (M' := NoB) (fun _ _ h => by cases h)) (fun _ h => h))
 have HI10 : Hid (CopyI B0 t.hist (fun _ => none) (fun x => (g x).isSome) w10) := Lib.hid (CopyI.start hTW B0)
 have Hold := Lib.hid hold
 have Hlo := Lib.hid hlo
 have HW3 := Lib.hid hWs
 have HB0e := Lib.hid hB0
 have Hcnt := Lib.hid hcnt
 have Hn := Lib.hid hn
 clear hrb hF10 hg10 hTW hW hold hcnt hn hlo htlt hWs hs1 hs2
 go_wp2_with fail
 obtain ⟨rr, hrr⟩ : ∃ x, W.heap.size = x := ⟨_, rfl⟩
 rw [hrr] at HR10 ⊢
 have Hrr := Lib.hid hrr
 clear hrun hrr t0 t1 hB0 Hcl
 go_loopg [] (cnt + 1) (fun gf wr => ∃ (cn m : Nat) (left : Bs → Bool) (gout : Bs → Option Value), cn + 1 ≤ gf ∧ m + cn ≤ n ∧ Hid (RangeB strK wr bc rr n g left cn) ∧ Hid (MapB strK wr B0 m gout) ∧ Hid (CopyI B0 t.hist gout left wr) ∧ Hid (Fr (fun k _ => k = B0) W wr))
 case atStart => exact ⟨cnt, 0, _, _, Nat.le_refl _, by have := Hcnt.out; omega, HR10, HM10, HI10, HF10⟩
 case round =>
  obtain ⟨cn, m, left, gout, hcn, hmn, HRg, HM, HI, HFr⟩ := hrel
  have HFw : Hid (Fr NoB w wr) := Lib.hid (HFW.out.trans HFr.out (fun k _ h => .inr (by have h2 : k = B0 := h; have := HB0e.out; omega)))
  rcases HRg.out.next 0 with ⟨h0, hl, hrun⟩ | ⟨x, v, w11, cn', hx, hlx, hMx, hrun, hrb, hlt', hgr, hsz, hen⟩
  ·have HL := Lib.hid hl
   clear hl
   go_wp2_with fail
   go_ret
   have hlow := hT.out.low
   simp only [HB0e.out]
   refine ⟨gout, rfl, ⟨Hold.out, HFr.out.block _ _ HB3.out (by omega), ⟨by omega, by omega, by omega, by omega⟩, HM.out.mono (by omega), HB2.out.fr HFr.out (fun _ h => by have h2 : B0 + 1 = B0 := h; omega), hT.out.life, fun y hy => HI.out.rows y hy (HL.out y hy), HI.out.apart, hT.out.few, hT.out.keys⟩, HFw.out⟩
  ·have hF11 : Fr NoB w w11 := HFw.out.trans (Fr.ofGrown hgr) (fun k _ hm => .inr (by
    have h2 : some k = some rr := hm
    injection h2 with h2
    have := Hrr.out
    have := HW3.out
    have := HB0e.out
    omega))
   have hF11W : Fr (fun k _ => k = B0) W w11 := HFr.out.trans (Fr.ofGrown hgr) (fun k _ hm => .inr (by
    have h2 : some k = some rr := hm
    injection h2 with h2
    have := Hrr.out
    omega))
   have hI11 := HI.out.iter HRg.out hgr
   have hM11 : MapB strK w11 B0 m gout := HM.out.same (hgr.block _ HM.out.lt (fun e => by
    injection e with e
    have := Hrr.out
    have := HW3.out
    omega))
   have hv : atOr g x = v := by unfold atOr; rw [hMx]; rfl
   have hcl := fun V (hV : Fr (fun k _ => k = B0) w11 V) => clone_c (t.hist x) v V (by
    have h := (hT.out.keep (hF11.trans hV (fun k _ h => .inr (by have h2 : k = B0 := h; have := HB0e.out; omega)))).rows x hx
    rw [hv] at h
    exact h) (by have := hT.out.few x; have := Hn.out; omega) (hT.out.keys x)
   have hc0 := (Fr.cell hF11W (show W.cell? ⟨B0 + 2, 0, none⟩ = some (.map (some B0)) by simp [World.cell?, HB3.out]) (fun _ h => by have h2 : B0 + 2 = B0 := h; omega))
   have HM11 := Lib.hid hM11
   have HI11 := Lib.hid hI11
   have Hcl := Lib.hid hcl
   have Hrb := Lib.hid hrb
   have HF11 := Lib.hid hF11
   have HF11W := Lib.hid hF11W
   have Hx := Lib.hid hx
   have Hlx := Lib.hid hlx
   have hkx : strK.kv x = .string ⟨x.toArray⟩ := rfl
   rw [hkx] at hrun hen
   have Hsz := Lib.hid hsz
   clear hM11 hI11 hcl hrb hF11 hF11W hx hlx hkx hMx hgr hv hsz HFr HFw HI HM HRg
   go_upto_region 7 with (fail)
   change Code.wp _ _ _ _ w11
   clear hrun hen
   refine wp_region_held_drew (S := fun V => Hid (Fr (fun k _ => k = B0) w11 V)) (by kernel_rfl) (Lib.hid Fr.refl.drew) (fun hHeld => ?_)
   simp only [qL, qL1, qL0, qR, qR1, qR0]
   iterate 6
    refine qt (v := ?_) rfl (Or.inl ⟨by rfl, ?_⟩) hHeld ?_
    rotate_left
    ·intro W hSw
     have h0 := Fr.cell hSw.out hc0 (fun _ h => by have h2 : B0 + 2 = B0 := h; omega)
     try simp only [qG, qG0, qG1]
     go_simp
     try rw [if_neg (by omega)]
     try with_reducible rfl
    try simp only [Act.put, qS, qS0, qS1, qG, qG0, qG1, qM0, qM1]
   refine qr (i := 6) (by kernel_rfl) rfl (fun K hK => ?_)
   try simp only [qG, qG0, qG1]
   go_simp
   refine (Hcl.out _ hHeld.out).mono ?_; rintro r w12 ⟨v', rfl, hv', hF12⟩
   refine hK.out _ _ (Lib.hid (hHeld.out.trans' (hF12.mono (fun _ _ h => h.elim)))) (fun hHeld => ?_)
   clear hK K
   try simp only [Act.put, qS, qS0, qS1, qG, qG0, qG1, qM0, qM1]
   have hM12 := HM11.out.fr (Fr.refl.drew.trans' hF12) (fun _ h => h)
   obtain ⟨w13, hup, hm13, hg13⟩ := hM12.store (K := strK) Tryz.underlying112 (by have := Hn.out; unfold maxLen; omega) Hx.out v'
   replace hup : (Instr.mapUpdate 112 (.map (some B0)) (.string ⟨x.toArray⟩) v').run Tryz.prog w12 = .ok () w13 := hup
   refine qr (i := 7) (by kernel_rfl) rfl (fun K hK => ?_)
   try simp only [qG, qG0, qG1]
   go_simp
   refine hK.out _ _ (Lib.hid (hHeld.out.trans' ((Fr.ofGrown hg13).mono (fun _ _ h => Option.some.inj h)))) (fun hHeld => ?_)
   clear hK K
   try simp only [Act.put, qS, qS0, qS1, qG, qG0, qG1, qM0, qM1]
   refine wpAnyH_done (by kernel_rfl) ?_ _
   have hd12 : Fr NoB w11 w12 := Fr.refl.drew.trans' hF12
   have HR13 : Hid (RangeB strK w13 bc rr n g (upd left x false) cn') := Lib.hid ((Hrb.out.keep hd12).same (hg13.block _ (Hrb.out.keep hd12).map.lt (fun e => by
    injection e with e
    have := Hlo.out
    omega)) (hg13.block _ (Hrb.out.keep hd12).lt (fun e => by
    injection e with e
    have := Hrr.out
    have := HW3.out
    omega)))
   have HI13 : Hid (CopyI B0 t.hist (upd gout x (some v')) (upd left x false) w13) := Lib.hid ((HI11.out.keep (Fr.refl (M := NoB)).drew).step Hx.out (by
    have h1 := HF11W.out.size
    have := HW3.out
    show B0 ≤ w11.heap.size
    omega) hF12 hv' hM12 hg13)
   have HM13 := Lib.hid hm13
   have HF13 : Hid (Fr (fun k _ => k = B0) W w13) := Lib.hid (HF11W.out.trans' hHeld.out)
   clear hHeld hup hm13 hg13 hM12 hv' hF12 hd12 hc0
   go_wp2_with fail
   go_roundg (gk - 1)
   case measure => omega
   case rel => exact ⟨cn', m + 1, _, _, by omega, by omega, HR13, HM13, HI13, HF13⟩
end Go.Proofs.YtcddlemkimbkcaaGreatDoor
