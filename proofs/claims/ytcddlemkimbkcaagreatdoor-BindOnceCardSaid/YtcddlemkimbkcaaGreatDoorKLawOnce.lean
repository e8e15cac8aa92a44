/-
  The walk of cachetlaw17's BindOnce.
-/
import Derived.Test.YtcddlemkimbkcaaGreatDoorKAlive17
import Derived.Test.YtcddlemkimbkcaaGreatDoorKNum
import Derived.Test.YtcddlemkimbkcaaGreatDoorKTable2
import Derived.Test.YtcddlemkimbkcaaGreatDoorKReadCame
namespace Go.Proofs.YtcddlemkimbkcaaGreatDoor
set_option linter.unusedVariables false
set_option linter.unusedSimpArgs false
set_option linter.unusedSectionVars false
open Go.RowKit Go.Shelf
variable [OldK]
theorem Tryz.rowCame : ∃ d, Tryz.prog.underlying 41 = some d ∧ d.isRow = true := ⟨_, Tryz.underlying41, rfl⟩
theorem Tryz.sizeCame : (Tryz.prog.info? 41).map (·.size) = some 71 := by kernel_rfl
theorem CameV.size {c : CameV} (h : c.e.ok) : c.cells.length = 71 := by simp [CameV.cells, En.size h]
theorem CameV.one {c : CameV} (hp : c.pv.oneCell' = true) (hs : c.sv.oneCell' = true) : c.cells.toArray.all (·.oneCell') = true := by
  refine all_oneCell_toArray (fun v hv => ?_)
  unfold CameV.cells at hv
  rcases List.mem_append.1 hv with h | h
  · have := En.one (e := c.e) hp hs
    rw [List.all_toArray, List.all_eq_true] at this
    exact this v h
  · obtain rfl : v = .int .i64 c.pos := by simpa using h
    rfl
/-- how things lie behind n rounds -/
structure OnceW (base tb bc bl bt bg n : Nat) (st : OnceSt) (g lv tm gm : Bs → Option Value) (w wr : World) : Prop where
  ok : st.ok
  t : TBL base tb n bc bl st.t g lv wr
  ti : MapB keyK wr bt n tm
  tiv : ∀ k : Bs, k.length = 32 → (tm k).getD (.int .i64 0) = .int .i64 (st.times k)
  go : MapB keyK wr bg n gm
  gov : ∀ k : Bs, k.length = 32 → gm k = if st.gone k then some (.bool true) else none
  fr : Fr NoB w wr
  gl : Gl wr
/-- what lies apart -/
structure OnceN (base tb bc bl bt bg : Nat) (w : World) : Prop where
  ng : 3 ≤ base
  old : w.heap.size ≤ base
  lo : base ≤ tb ∧ base ≤ bc ∧ base ≤ bl ∧ base ≤ bt ∧ base ≤ bg
  ap : bt ≠ bc ∧ bt ≠ bl ∧ bg ≠ bc ∧ bg ≠ bl ∧ bt ≠ bg ∧ tb ≠ bt ∧ tb ≠ bg
theorem key_not_chg {w : World} {b m : Nat} {M : Bs → Option Value} (h : MapB keyK w b m M) {o : Obj} (hk : w.heap[b]? = some o) : ¬ OfTy 117 o := fun ho => by
  obtain ⟨D, ⟨es, clock, h0, -⟩, -⟩ := h
  obtain ⟨c, f, rfl⟩ := ho
  rw [h0] at hk
  cases hk
theorem MapB.took {w w' : World} {base bc bl b m : Nat} {M : Bs → Option Value} (h : MapB keyK w b m M) (hF : Fr (TM base bc bl) w w') (h1 : b ≠ bc) (h2 : b ≠ bl) : MapB keyK w' b m M := by
  have h' := h
  obtain ⟨D, ⟨es, clock, h0, h3⟩, h4⟩ := h
  exact ⟨D, ⟨es, clock, hF.block _ _ h0 (fun hm => by
    rcases hm with hm | hm | ⟨-, hm⟩
    · exact h1 hm
    · exact h2 hm
    · exact key_not_chg h' h0 hm), h3⟩, h4⟩
theorem TBL.mapfr {base tb n bc bl b m : Nat} {t : Tb} {g lv M : Bs → Option Value} {w w' : World} (h : TBL base tb n bc bl t g lv w) (hm : MapB keyK w b m M) (hF : Fr (fun k _ => k = b) w w') (h1 : b ≠ bc) (h2 : b ≠ bl) (h3 : tb ≠ b) : TBL base tb n bc bl t g lv w' := by
  refine ⟨h.old, hF.block _ _ h.cells h3, h.low, h.ch.fr hF (fun _ h => h1 h.symm), h.li.fr hF (fun _ h => h2 h.symm), h.life, fun x hx => ?_, h.apart, h.few, h.keys⟩
  have hr := h.rows x hx
  refine ⟨hr.1, hr.2.imp id ?_⟩
  rintro ⟨g', cap, cur, e1, e2, e3, e4⟩
  exact ⟨g', cap, cur, e1, e2, hF.block _ _ e3 (fun hb => by subst hb; exact key_not_chg hm e3 ⟨_, _, rfl⟩), e4⟩
theorem Tryz.zeroI (u : World) : (zeroValue 3).run Tryz.prog u = .ok (.int .i64 0) u := by kernel_rfl
theorem z32_all : (#[.int .u8 0, .int .u8 0, .int .u8 0, .int .u8 0, .int .u8 0, .int .u8 0, .int .u8 0, .int .u8 0, .int .u8 0, .int .u8 0, .int .u8 0, .int .u8 0, .int .u8 0, .int .u8 0, .int .u8 0, .int .u8 0, .int .u8 0, .int .u8 0, .int .u8 0, .int .u8 0, .int .u8 0, .int .u8 0, .int .u8 0, .int .u8 0, .int .u8 0, .int .u8 0, .int .u8 0, .int .u8 0, .int .u8 0, .int .u8 0, .int .u8 0, .int .u8 0] : Array Value).all (·.oneCell') = true := by kernel_rfl
theorem z32_size : (Tryz.prog.info? 24).map (·.size) = some (#[.int .u8 0, .int .u8 0, .int .u8 0, .int .u8 0, .int .u8 0, .int .u8 0, .int .u8 0, .int .u8 0, .int .u8 0, .int .u8 0, .int .u8 0, .int .u8 0, .int .u8 0, .int .u8 0, .int .u8 0, .int .u8 0, .int .u8 0, .int .u8 0, .int .u8 0, .int .u8 0, .int .u8 0, .int .u8 0, .int .u8 0, .int .u8 0, .int .u8 0, .int .u8 0, .int .u8 0, .int .u8 0, .int .u8 0, .int .u8 0, .int .u8 0, .int .u8 0] : Array Value).size := by kernel_rfl
theorem z32_eq : (#[.int .u8 0, .int .u8 0, .int .u8 0, .int .u8 0, .int .u8 0, .int .u8 0, .int .u8 0, .int .u8 0, .int .u8 0, .int .u8 0, .int .u8 0, .int .u8 0, .int .u8 0, .int .u8 0, .int .u8 0, .int .u8 0, .int .u8 0, .int .u8 0, .int .u8 0, .int .u8 0, .int .u8 0, .int .u8 0, .int .u8 0, .int .u8 0, .int .u8 0, .int .u8 0, .int .u8 0, .int .u8 0, .int .u8 0, .int .u8 0, .int .u8 0, .int .u8 0] : Array Value).size = (#[.int .u8 0, .int .u8 0, .int .u8 0, .int .u8 0, .int .u8 0, .int .u8 0, .int .u8 0, .int .u8 0, .int .u8 0, .int .u8 0, .int .u8 0, .int .u8 0, .int .u8 0, .int .u8 0, .int .u8 0, .int .u8 0, .int .u8 0, .int .u8 0, .int .u8 0, .int .u8 0, .int .u8 0, .int .u8 0, .int .u8 0, .int .u8 0, .int .u8 0, .int .u8 0, .int .u8 0, .int .u8 0, .int .u8 0, .int .u8 0, .int .u8 0, .int .u8 0] : Array Value).size := rfl
theorem Fr.keepB {M : Nat → Obj → Prop} {w w' : World} (hF : Fr M w w') {b : Nat} {o : Obj} (h : w.heap[b]? = some o) (hM : ¬ M b o) : Fr (fun k o => M k o ∧ k ≠ b) w w' :=
  hF.mono2 (fun k o' hk hm => ⟨hm, fun e => hM (by subst e; rw [h] at hk; cases hk; exact hm)⟩)
theorem RangeB.fr {k : TypeId} {K : KeyB Tryz.prog k} {w w' : World} {b r n cnt : Nat} {M : Bs → Option Value} {left : Bs → Bool} (h : RangeB K w b r n M left cnt) (hF : Fr NoB w w') : RangeB K w' b r n M left cnt := by
  obtain ⟨ob, hob⟩ := get_some h.map.lt
  obtain ⟨obr, hobr⟩ := get_some h.lt
  exact h.same ((hF.block _ _ hob (fun h => h)).trans hob.symm) ((hF.block _ _ hobr (fun h => h)).trans hobr.symm)
set_option maxRecDepth 100000 in
theorem built_key (k : Bs) (h : k.length = 32) : Tryz.prog.built 54 [(1, .agg (Lib.byteCells k).toArray)] = some (Sg.cells ⟨[], k, zero64⟩) := by
  obtain ⟨x0, x1, x2, x3, x4, x5, x6, x7, x8, x9, x10, x11, x12, x13, x14, x15, x16, x17, x18, x19, x20, x21, x22, x23, x24, x25, x26, x27, x28, x29, x30, x31, rfl⟩ := list32 k h
  kernel_rfl
theorem key_spent {t : Tb} {k : Bs} (h : t.life k = 2) : pKeyOf t ⟨[], k, zero64⟩ = (zero32, 8) := by
  unfold pKeyOf
  rw [if_neg (by simp), if_pos h]
set_option maxRecDepth 100000 in
set_option maxHeartbeats 16000000 in
theorem once_c (l : List CameV) (v : Value) (w : World) (hg : Gl w) (hs : CameS l v w) :
    Calls Tryz.prog 4 #[v] w fun e w' => e = .returned (.bool true) ∧ Fr NoB w w' := by
  obtain ⟨a, cap, rfl, hcap, hel⟩ := hs
  have Halive := Lib.hid (alive17_c w hg)
  have hrow : ∀ i (hi : i < l.length), ∃ b o, a = some ⟨b, o, none⟩ ∧ b < w.heap.size ∧ w.rangeAt b (o + i * 71) l[i].cells ∧ EnIn w l[i].e l[i].pv l[i].sv := fun i hi => by
    rcases hel with h | ⟨b, o, h1, -, h2, h3⟩
    · subst h; cases hi
    · exact ⟨b, o, h1, h2, h3 i hi⟩
  have Hrow := Lib.hid hrow
  have Hg := Lib.hid hg
  clear hel hrow hg hcap
  by_cases h60 : 60 < l.length
  · have h60' : decide ((60 : Int) < (l.length : Int)) = true := decide_eq_true (by omega)
    go_enter Tryz.func4, Tryz.ntmps4
    go_wp2_with fail
    refine Halive.out.mono ?_
    rintro r w1 ⟨rfl, hF1⟩
    have HF1 := Lib.hid hF1
    clear hF1
    go_wp2_with fail
    go_ret
    exact ⟨rfl, HF1.out⟩
  have h60' : decide ((60 : Int) < (l.length : Int)) = false := decide_eq_false (by omega)
  have hmk : ∀ (t : TypeId) (W : World), (Instr.makeMap t none).run Tryz.prog W = .ok (.map (some W.heap.size)) (W.alloc (.map #[] 0)) := fun t W => run_makeMap t W
  go_enter Tryz.func4, Tryz.ntmps4
  go_wp2_with fail
  refine Halive.out.mono ?_
  rintro r w1 ⟨rfl, hF1⟩
  have HF1 := Lib.hid hF1
  have hg1 := Hg.out.fr hF1 (fun _ _ _ h => h.elim)
  have hnew := new_c w1 hg1.old
  have hng := hg1.size
  have hsz1 := hF1.size
  have Hg1 := Lib.hid hg1
  have Hnew := Lib.hid hnew
  have Hng := Lib.hid hng
  have Hsz1 := Lib.hid hsz1
  clear hF1 hg1 hnew Halive hng hsz1
  go_wp2_with fail
  refine Hnew.out.mono ?_
  rintro r w2 ⟨rfl, hT, hF2⟩
  have hA1 := heap_alloc_new w2 (.map #[] 0)
  have hA2 := heap_alloc_new (w2.alloc (.map #[] 0)) (.map #[] 0)
  rw [World.size_alloc] at hA2
  have hFa : Fr NoB (w2.alloc (.map #[] 0)) ((w2.alloc (.map #[] 0)).alloc (.map #[] 0)) := Fr.refl.alloc _
  have hFb : Fr NoB w2 ((w2.alloc (.map #[] 0)).alloc (.map #[] 0)) := (Fr.refl.alloc _).alloc _
  have hti := (MapB.new (K := keyK) hA1).fr hFa (fun _ h => h)
  have hgo := MapB.new (K := keyK) hA2
  have hT2 := hT.keep hFb
  have hF := HF1.out.trans' (hF2.trans' hFb)
  have hgl := Hg1.out.fr (hF2.trans' hFb) (fun _ _ _ h => h.elim)
  have hb1 := hT.ch.lt
  have hb2 := hT.li.lt
  have hb3 := get_lt hT.cells
  clear hA1 hA2 hFa hFb hT hF2 Hnew
  go_wp2_with fail
  have hN : OnceN w1.heap.size (w1.heap.size + 2) w1.heap.size (w1.heap.size + 1) w2.heap.size (w2.heap.size + 1) w := ⟨Hng.out, Hsz1.out, ⟨by omega, by omega, by omega, by omega, by omega⟩, by omega, by omega, by omega, by omega, by omega, by omega, by omega⟩
  have hO : OnceW w1.heap.size (w1.heap.size + 2) w1.heap.size (w1.heap.size + 1) w2.heap.size (w2.heap.size + 1) 0 OnceSt.new (fun _ => none) (fun _ => none) (fun _ => none) (fun _ => none) w ((w2.alloc (.map #[] 0)).alloc (.map #[] 0)) := ⟨OnceSt.new_ok, hT2, hti, fun _ _ => rfl, hgo, fun _ _ => rfl, hF, hgl⟩
  obtain ⟨W0, hW0⟩ : ∃ V, (w2.alloc (.map #[] 0)).alloc (.map #[] 0) = V := ⟨_, rfl⟩
  rw [hW0] at hO ⊢
  obtain ⟨base, hba⟩ : ∃ x, w1.heap.size = x := ⟨_, rfl⟩
  obtain ⟨bt, hbt⟩ : ∃ x, w2.heap.size = x := ⟨_, rfl⟩
  rw [hba, hbt] at hN hO ⊢
  obtain ⟨tb, htb⟩ : ∃ x, base + 2 = x := ⟨_, rfl⟩
  obtain ⟨bl, hbl⟩ : ∃ x, base + 1 = x := ⟨_, rfl⟩
  obtain ⟨bg, hbg⟩ : ∃ x, bt + 1 = x := ⟨_, rfl⟩
  rw [htb, hbl, hbg] at hN hO
  rw [htb, hbg]
  have HN := Lib.hid hN
  have HO0 := Lib.hid hO
  obtain ⟨d, hu, hd⟩ := Tryz.rowEntry
  have Hu := Lib.hid hu
  have Hd := Lib.hid hd
  obtain ⟨d1, hu1, hd1⟩ := Tryz.rowCame
  have Hu1 := Lib.hid hu1
  have Hd1 := Lib.hid hd1
  have Hl60 := Lib.hid h60
  clear hN hO hW0 hba hbt htb hbl hbg hT2 hti hgo hF hgl hb1 hb2 hb3 hmk HF1 Hg1 Hng Hsz1 w1 w2 hu hd hu1 hd1 h60 h60'
  go_loopg [23] (l.length + 1) (fun gf vi wr => ∃ i : Nat, vi = .int .i64 i ∧ i ≤ l.length ∧ i + gf = l.length + 1 ∧ ∃ (st : OnceSt) (g lv tm gm : Bs → Option Value), Hid (OnceW base tb base bl bt bg i st g lv tm gm w wr))
  case atStart => exact ⟨0, rfl, by omega, by omega, _, _, _, _, _, HO0⟩
  case round =>
    obtain ⟨i, rfl, hi, hig, st, g, lv, tm, gm, HO⟩ := hrel
    obtain ⟨gko, hgko⟩ : ∃ x, x = gk := ⟨_, rfl⟩
    subst hgko
    obtain ⟨wo, rfl⟩ : ∃ wo : World, wo = wr := ⟨_, rfl⟩
    by_cases hlt : i < l.length
    · have hlti : decide ((i : Int) < l.length) = true := decide_eq_true (by omega)
      obtain ⟨b, o, rfl, hb, hR, hE⟩ := Hrow.out i hlt
      have hR1 := range_fr hR HO.out.fr hb (fun _ h => h)
      have hE1 := hE.fr HO.out.fr (fun _ _ _ h => h)
      obtain ⟨c, hc⟩ : ∃ c, l[i] = c := ⟨_, rfl⟩
      rw [hc] at hR1 hE1
      clear hR hE hc
      obtain ⟨e, pv, sv, pos⟩ := c
      simp only at hE1
      obtain ⟨hok, hpay, hsgs⟩ := hE1
      obtain ⟨a1, c1, ea⟩ := hpay.form
      obtain ⟨a3, c3, es, -⟩ := id hsgs
      have hp1 : pv.oneCell' = true := by rw [ea]; rfl
      have hs1 : sv.oneCell' = true := by rw [es]; rfl
      have hcz : (CameV.cells ⟨e, pv, sv, pos⟩).length = 71 := CameV.size hok
      have hc1 := CameV.one (c := ⟨e, pv, sv, pos⟩) hp1 hs1
      have hce : CameV.cells ⟨e, pv, sv, pos⟩ = e.cells pv sv ++ [.int .i64 pos] := rfl
      have hez := En.size hok pv sv
      obtain ⟨CC, hCC⟩ : ∃ x, CameV.cells ⟨e, pv, sv, pos⟩ = x := ⟨_, rfl⟩
      rw [hCC] at hR1 hcz hc1 hce
      have Hcz : Hid ((Tryz.prog.info? 41).map (·.size) = some CC.length) := Lib.hid (by rw [Tryz.sizeCame, hcz])
      have Hcz2 : Hid ((Tryz.prog.info? 41).map (·.size) = some CC.toArray.size) := Lib.hid (by rw [Tryz.sizeCame, List.size_toArray, hcz])
      have Hzz : Hid (Tryz.zeroCells41.size = CC.toArray.size) := Lib.hid (by rw [show CC.toArray.size = 71 by rw [List.size_toArray, hcz]]; rfl)
      have Hez : Hid ((Tryz.prog.info? 39).map (·.size) = some (e.cells pv sv).length) := Lib.hid (by rw [Tryz.sizeEntry, hez])
      have Hc1 := Lib.hid hc1
      have HR1 := Lib.hid hR1
      have hq0 := range_block (heap_alloc_new wo (.cells CC.toArray 41))
      rw [List.toList_toArray] at hq0
      have hq : (wo.alloc (.cells CC.toArray 41)).rangeAt wo.heap.size 0 (e.cells pv sv ++ [.int .i64 pos]) := by rw [← hce]; exact hq0
      rw [range_append] at hq
      have hFq : Fr NoB wo (wo.alloc (.cells CC.toArray 41)) := Fr.refl.alloc _
      clear hcz hc1 hCC hez hR1 ea es hp1 hs1 hce hq0
      go_upto_region 11 with (first
        | (with_reducible refine wpList_load_mid rfl 41 _ rfl b (o + i * 71) rfl CC d1 HR1.out Hu1.out Hd1.out Hcz.out ?_)
        | ((with_reducible refine wpList_store_new (w := wo) rfl 41 _ _ rfl _ CC.toArray wo.heap.size rfl ?_ ?_ Hcz2.out Hzz.out Hc1.out ?_); rfl; rfl))
      change Code.wp _ _ _ _ (wo.alloc (.cells CC.toArray 41))
      obtain ⟨Wq, hWq⟩ : ∃ V, wo.alloc (.cells CC.toArray 41) = V := ⟨_, rfl⟩
      have hqW : wo.heap.size < Wq.heap.size := by rw [← hWq, World.size_alloc]; omega
      rw [hWq] at hq hFq ⊢
      obtain ⟨q, hqq⟩ : ∃ x, wo.heap.size = x := ⟨_, rfl⟩
      have hqo := heap_alloc_new wo (.cells CC.toArray 41)
      rw [hWq, hqq] at hqo
      rw [hqq] at hq hqW ⊢
      have Hqq := Lib.hid hqq
      have Hqo := Lib.hid hqo
      clear hWq hqq hqo
      have hlarge := large_c Old Old e pv sv Wq hok (hpay.fr hFq (fun _ _ _ _ h => h)) (hsgs.fr hFq (fun _ _ _ h => h))
      obtain ⟨L, hL⟩ : ∃ x, pLarge e = x := ⟨_, rfl⟩
      rw [hL] at hlarge
      have HL := Lib.hid hL
      have Hlarge := Lib.hid hlarge
      have HQ := Lib.hid hq.1
      have HFq := Lib.hid hFq
      have HqW := Lib.hid hqW
      have Hok := Lib.hid hok
      have Hpay := Lib.hid hpay
      have Hsgs := Lib.hid hsgs
      clear hL hlarge hq hFq hqW hok hpay hsgs
      obtain ⟨EC, hEC⟩ : ∃ x, e.cells pv sv = x := ⟨_, rfl⟩
      rw [hEC] at Hlarge HQ Hez
      have HEC := Lib.hid hEC
      clear hEC
      go_wp2_with (with_reducible refine wpList_load_mid rfl 39 _ rfl q 0 rfl EC d HQ.out Hu.out Hd.out Hez.out ?_)
      refine Hlarge.out.mono ?_
      rintro r w3 ⟨rfl, hF3⟩
      have HF3 := Lib.hid (HFq.out.trans' hF3)
      have HQ3 := Lib.hid (range_fr HQ.out hF3 HqW.out (fun _ h => h))
      have Hqo3 := Lib.hid (hF3.block _ _ Hqo.out (fun h => h))
      have Hq3 := Lib.hid (Nat.lt_of_lt_of_le HqW.out hF3.size)
      clear hF3 Hlarge HQ HqW HFq
      cases L
      · have hfine := fine17 Hok.out (Hpay.out.fr HF3.out (fun _ _ _ _ h => h)) (Hsgs.out.fr HF3.out (fun _ _ _ h => h)) (HO.out.gl.fr HF3.out (fun _ _ _ h => h.elim)) HL.out
        have hidl : e.ident.length ≤ maxLen := by have := hfine.idn; unfold maxLen; omega
        have hT3 := HO.out.t.keep HF3.out
        have hbound := bound_c e.ident w3 hT3 hidl
        have hlok := hT3.lastok e.ident
        have hokS := OnceSt.step_ok (sub := psub) HO.out.ok e i
        have htake := fun V (hV : Fr NoB w3 V) => take_c Old Old e pv sv i V (hT3.keep hV) (hfine.fr hV) (by have := Hl60.out; omega)
        obtain ⟨-, -, -, -, k35, k36, kK, -⟩ := En.parts Hok.out (HEC.out ▸ HQ3.out : w3.rangeAt q 0 (e.cells pv sv))
        have HT3 := Lib.hid hT3
        have Hfine := Lib.hid hfine
        simp only [HEC.out] at htake
        clear hT3 hfine hidl
        obtain ⟨had, hhad⟩ : ∃ x, (st.t.last e.ident).has = x := ⟨_, rfl⟩
        obtain ⟨old, hold⟩ : ∃ x, (st.t.last e.ident).key = x := ⟨_, rfl⟩
        rw [hhad, hold] at hbound
        have hol : old.length = 32 := by rw [← hold]; exact hlok
        obtain ⟨R, hRv⟩ : ∃ x, pBind psub st.t e = x := ⟨_, rfl⟩
        simp only [hRv] at htake
        have hRt : st.t.take psub e i = if R = 0 then st.t.came e i else st.t := by unfold Tb.take; rw [hRv]
        have hRs : st.step psub e i = if R = 0 then ⟨st.t.came e i, if e.op = 3 then st.times else upd st.times e.key (st.times e.key + 1), if had = true then upd st.gone old true else st.gone⟩ else st := by unfold OnceSt.step; rw [hRv, hhad, hold]
        rw [hRv] at hokS
        simp only [hRt] at htake
        have hz0 : Hid ((Tryz.prog.info? 24).map (·.size) = some (Lib.byteCells old).length) := Lib.hid (by rw [Tryz.sizeKey, byteCells_len, hol])
        have hz2 : Hid ((Tryz.prog.info? 24).map (·.size) = some (Lib.byteCells old).toArray.size) := Lib.hid (by rw [Tryz.sizeKey, List.size_toArray, byteCells_len, hol])
        have hz3 : Hid ((#[.int .u8 0, .int .u8 0, .int .u8 0, .int .u8 0, .int .u8 0, .int .u8 0, .int .u8 0, .int .u8 0, .int .u8 0, .int .u8 0, .int .u8 0, .int .u8 0, .int .u8 0, .int .u8 0, .int .u8 0, .int .u8 0, .int .u8 0, .int .u8 0, .int .u8 0, .int .u8 0, .int .u8 0, .int .u8 0, .int .u8 0, .int .u8 0, .int .u8 0, .int .u8 0, .int .u8 0, .int .u8 0, .int .u8 0, .int .u8 0, .int .u8 0, .int .u8 0] : Array Value).size = (Lib.byteCells old).toArray.size) := Lib.hid (by rw [show (Lib.byteCells old).toArray.size = 32 by rw [List.size_toArray, byteCells_len, hol]]; rfl)
        have ho1 := Lib.hid (all_oneCell_toArray (cells_one old))
        obtain ⟨KO, hKO⟩ : ∃ x, Lib.byteCells old = x := ⟨_, rfl⟩
        rw [hKO] at hz0 hz2 hz3 ho1 hbound
        have HKO := Lib.hid hKO
        have Hol := Lib.hid hol
        have HokS := Lib.hid hokS
        have HRs := Lib.hid hRs
        have HRv := Lib.hid hRv
        have Hhad := Lib.hid hhad
        have Hold := Lib.hid hold
        have Hbound := Lib.hid hbound
        have Htake := Lib.hid htake
        clear hRt hlok hokS hbound hol hKO htake hRs hRv hhad hold
        have hky : e.key.length = 32 := Hok.out.2.1
        obtain ⟨idn, hidn⟩ : ∃ x, e.ident = x := ⟨_, rfl⟩
        obtain ⟨op, hop⟩ : ∃ x, e.op = x := ⟨_, rfl⟩
        obtain ⟨ky, hkye⟩ : ∃ x, e.key = x := ⟨_, rfl⟩
        rw [hidn] at k36 Hbound
        rw [hop] at k35 HokS HRs
        rw [hkye] at kK hky HokS HRs
        have Hidn := Lib.hid hidn
        have Hop := Lib.hid hop
        have Hkye := Lib.hid hkye
        have HkK := Lib.hid kK
        have Hkyl := Lib.hid hky
        clear hidn hop hkye kK hky
        have k36' := k36
        go_wp2_with fail
        refine Hbound.out.mono ?_
        rintro r w4 ⟨rfl, hF4⟩
        have HF4 := Lib.hid hF4
        clear hF4 Hbound k36'
        go_upto_region 14 with ((with_reducible refine wpList_store_new (w := w4) rfl 24 _ _ rfl _ KO.toArray w4.heap.size rfl ?_ ?_ hz2.out hz3.out ho1.out ?_); rfl; rfl)
        change Code.wp _ _ _ _ (w4.alloc (.cells KO.toArray 24))
        have hq5 := range_block (heap_alloc_new w4 (.cells KO.toArray 24))
        rw [List.toList_toArray] at hq5
        have hF5 := HF4.out.alloc (.cells KO.toArray 24)
        obtain ⟨w5, hw5⟩ : ∃ V, w4.alloc (.cells KO.toArray 24) = V := ⟨_, rfl⟩
        have hqW5 : w4.heap.size < w5.heap.size := by rw [← hw5, World.size_alloc]; omega
        rw [hw5] at hq5 hF5 ⊢
        have h34 := HF4.out.size
        obtain ⟨q8, hq8⟩ : ∃ x, w4.heap.size = x := ⟨_, rfl⟩
        rw [hq8] at hq5 hqW5 h34 ⊢
        have hq8o := heap_alloc_new w4 (.cells KO.toArray 24)
        rw [hw5, hq8] at hq8o
        have Hq8o := Lib.hid hq8o
        clear hw5 hq8 hq8o
        have HQ8 := Lib.hid hq5
        have HF5 := Lib.hid hF5
        have HqW5 := Lib.hid hqW5
        have H34 := Lib.hid h34
        clear hq5 hF5 hqW5 h34 HF4
        have HQ5 := Lib.hid (range_fr HQ3.out HF5.out Hq3.out (fun _ h => h))
        have Htk := Lib.hid (Htake.out w5 HF5.out)
        clear Htake
        by_cases hR0 : R = 0
        · subst hR0
          simp only [if_true, show errV 0 = .nilIface from rfl] at Htk HRs HokS
          go_wp2_with (with_reducible refine wpList_load_mid rfl 39 _ rfl q 0 rfl EC d HQ5.out Hu.out Hd.out Hez.out ?_)
          refine Htk.out.mono ?_
          rintro r w6 ⟨rfl, ⟨g6, lv6, hT6⟩, hF6⟩
          have HT5 := HT3.out.keep HF5.out
          have hqlt : base < q ∧ bl < q := by rw [← Hqq.out]; exact ⟨HO.out.t.ch.lt, HO.out.t.li.lt⟩
          have hq8q : q < q8 := by have := Hq3.out; have := H34.out; omega
          have hn1 : ¬ TM base base bl q (.cells CC.toArray 41 (0, 0)) := by
            rintro (h | h | ⟨-, c, f, h⟩)
            · omega
            · omega
            · injection h with _ h _; revert h; decide
          have hn2 : ¬ (TM base base bl q8 (.cells KO.toArray 24 (0, 0)) ∧ q8 ≠ q) := by
            rintro ⟨h | h | ⟨-, c, f, h⟩, -⟩
            · omega
            · omega
            · injection h with _ h _; revert h; decide
          have hFx := (hF6.keepB (HF5.out.block _ _ Hqo3.out (fun h => h)) hn1).keepB Hq8o.out hn2
          have k356 := Fr.cell hFx (Fr.cell HF5.out k35) (fun _ h => h.1.2 rfl)
          have hkK6 := range_fr (range_fr HkK.out HF5.out Hq3.out (fun _ h => h)) hFx (Nat.lt_of_lt_of_le Hq3.out HF5.out.size) (fun _ h => h.1.2 rfl)
          have hQ86 := range_fr HQ8.out hFx HqW5.out (fun _ h => h.2 rfl)
          have hti6 := ((HO.out.ti.fr HF3.out (fun _ h => h)).fr HF5.out (fun _ h => h)).took hF6 HN.out.ap.1 HN.out.ap.2.1
          have hgo6 := ((HO.out.go.fr HF3.out (fun _ h => h)).fr HF5.out (fun _ h => h)).took hF6 HN.out.ap.2.2.1 HN.out.ap.2.2.2.1
          have hF66 := (HO.out.fr.trans' (HF3.out.trans' HF5.out)).took HT5 HN.out.old hF6
          have hgl6 := Gl.took (HO.out.gl.fr (HF3.out.trans' HF5.out) (fun _ _ _ h => h.elim)) HT5 HN.out.ng hF6
          have hq6 : q < w6.heap.size := Nat.lt_of_lt_of_le Hq3.out (Nat.le_trans HF5.out.size hF6.size)
          have Hq6 := Lib.hid hq6
          have HQ86 := Lib.hid hQ86
          obtain ⟨KYC, hKYC⟩ : ∃ x, Lib.byteCells ky = x := ⟨_, rfl⟩
          rw [hKYC] at hkK6
          have hkyl : KYC.length = 32 := by rw [← hKYC, byteCells_len, Hkyl.out]
          have HKYC := Lib.hid hKYC
          have HkK6 := Lib.hid hkK6
          have Hkyz : Hid ((Tryz.prog.info? 24).map (·.size) = some KYC.length) := Lib.hid (by rw [hkyl, Tryz.sizeKey])
          have HT6 := Lib.hid hT6
          have HF66 := Lib.hid hF66
          have Hgl6 := Lib.hid hgl6
          have Hti6 := Lib.hid hti6
          have Hgo6 := Lib.hid hgo6
          have hqg : bg < q ∧ bt < q := by rw [← Hqq.out]; exact ⟨HO.out.go.lt, HO.out.ti.lt⟩
          have Hqg := Lib.hid hqg
          have hi60 : i < 60 := by have := Hl60.out; omega
          have Hi60 := Lib.hid hi60
          obtain ⟨gone7, hgone7⟩ : ∃ x, (if had = true then upd st.gone old true else st.gone) = x := ⟨_, rfl⟩
          rw [hgone7] at HRs
          have Hgone7 := Lib.hid hgone7
          clear hT6 hF6 HT5 hqlt hq8q hn1 hn2 hFx hkK6 hQ86 hti6 hgo6 hF66 hgl6 hq6 hKYC hkyl k35 k36 Htk HQ5 HQ8 HkK HQ3 hqg hi60 hgone7
          cases had
          · have HGO7 := Lib.hid (Hgo6.out.mono (Nat.le_succ i))
            have hgv7 : ∀ k : Bs, k.length = 32 → gm k = if gone7 k then some (.bool true) else none := fun k hk => by
              rw [HO.out.gov k hk, ← Hgone7.out]; rfl
            have HGV7 := Lib.hid hgv7
            have HTI7 := Hti6
            have HT7 := HT6
            have HF7 := HF66
            have Hgl7 := Hgl6
            have HkK7 := HkK6
            have Hq7 := Hq6
            have k357 := k356
            clear hgv7 k356
            go_upto_region 17 with (fail)
            by_cases h3 : op = 3
            · subst h3
              have e3 : ((3 : Int) != 3) = false := rfl
              have hS' : st.step psub e i = ⟨st.t.came e i, st.times, gone7⟩ := by rw [HRs.out, if_pos rfl]
              have HS := Lib.hid hS'
              have HTI9 := Lib.hid (HTI7.out.mono (Nat.le_succ i))
              have htv9 := HO.out.tiv
              have HTV9 := Lib.hid htv9
              clear hS' htv9 HTI7
              go_upto_region 21 with (fail)
              change Code.wp _ _ _ _ w6
              obtain ⟨w10, hrun, ⟨cnt, hrb⟩, hg10, -⟩ := HGO7.out.range (K := keyK) (w := w6) Tryz.underlying35
              have hF10 : Fr NoB w6 w10 := (Fr.ofGrown hg10).mono (fun _ _ h => by cases h)
              have HR10 := Lib.hid hrb
              have HF10 := Lib.hid hF10
              clear hrb hF10 hg10
              go_wp2_with fail
              obtain ⟨rr, hrr⟩ : ∃ x, (w6).heap.size = x := ⟨_, rfl⟩
              rw [hrr] at HR10 ⊢
              have Hrr := Lib.hid hrr
              clear hrun hrr
              go_loopg [] (cnt + 1) (fun gf wr => ∃ (cn : Nat) (left : Bs → Bool), cn + 1 ≤ gf ∧ Hid (RangeB keyK wr bg rr (i + 1) gm left cn) ∧ Hid (Fr NoB w6 wr))
              case atStart => exact ⟨cnt, _, Nat.le_refl _, HR10, HF10⟩
              case round =>
                obtain ⟨cn, left, hcn, HRg, HFr⟩ := hrel
                rcases HRg.out.next 0 with ⟨h0, hl, hrun⟩ | ⟨x, v, w11, cn', hx, hlx, hMx, hrun, hrb, hlt', hgr, hsz, hen⟩
                · have hwr : wrap64 ((i : Int) + 1) = (i : Int) + 1 := by have := Hi60.out; unfold wrap64; omega
                  go_wp2_with fail
                  go_roundg (gko - 1)
                  case measure => omega
                  case rel =>
                    refine ⟨i + 1, by simp [hwr], by omega, by omega, st.step psub e i, g6, lv6, tm, gm, Lib.hid ⟨HokS.out.1, ?_, ?_, ?_, HRg.out.map, ?_, HF7.out.trans' HFr.out, Hgl7.out.fr HFr.out (fun _ _ _ h => h.elim)⟩⟩
                    · rw [HS.out]; exact HT7.out.keep HFr.out
                    · exact HTI9.out.fr HFr.out (fun _ h => h)
                    · rw [HS.out]; exact HTV9.out
                    · rw [HS.out]; exact HGV7.out
                · have hgone : gone7 x = true := by
                    have h1 := HGV7.out x hx
                    rw [hMx] at h1
                    by_cases hg : gone7 x = true
                    · exact hg
                    · rw [if_neg hg] at h1; cases h1
                  have hlife : (st.t.came e i).life x = 2 := by
                    have h1 := HokS.out.1
                    rw [HS.out] at h1
                    exact h1.2.2 x hgone
                  have hFi : Fr NoB w6 w11 := HFr.out.trans (Fr.ofGrown hgr) (fun k _ hm => .inr (by
                    have h2 : some k = some rr := hm
                    injection h2 with h2
                    have := Hrr.out
                    omega))
                  have hTi := HT7.out.keep hFi
                  have hkey := fun V (hV : Fr NoB w11 V) => key_c ⟨[], x, zero64⟩ V (hTi.keep hV) ⟨hx, rfl⟩ (Nat.zero_le _)
                  simp only [key_spent hlife] at hkey
                  have hspent := fun V (hV : Fr NoB w11 V) => spent_c x V (hTi.keep hV) hx
                  rw [hlife] at hspent
                  have hb1 := built_key x hx
                  have hsgz := Sg.size (s := ⟨[], x, zero64⟩) ⟨hx, rfl⟩
                  have hx1 := all_oneCell_toArray (cells_one x)
                  have hxl : (Lib.byteCells x).length = 32 := by rw [byteCells_len]; exact hx
                  obtain ⟨XC, hXC⟩ : ∃ C, Lib.byteCells x = C := ⟨_, rfl⟩
                  obtain ⟨SC, hSC⟩ : ∃ C, Sg.cells ⟨[], x, zero64⟩ = C := ⟨_, rfl⟩
                  simp only [hXC] at hspent hb1 hx1 hxl
                  simp only [hSC] at hkey hb1
                  have hkx : (keyK.kv x) = .agg XC.toArray := by rw [← hXC]; rfl
                  rw [hkx] at hrun hen
                  rw [show (Lib.byteCells zero32).toArray = #[.int .u8 0, .int .u8 0, .int .u8 0, .int .u8 0, .int .u8 0, .int .u8 0, .int .u8 0, .int .u8 0, .int .u8 0, .int .u8 0, .int .u8 0, .int .u8 0, .int .u8 0, .int .u8 0, .int .u8 0, .int .u8 0, .int .u8 0, .int .u8 0, .int .u8 0, .int .u8 0, .int .u8 0, .int .u8 0, .int .u8 0, .int .u8 0, .int .u8 0, .int .u8 0, .int .u8 0, .int .u8 0, .int .u8 0, .int .u8 0, .int .u8 0, .int .u8 0] from rfl] at hkey
                  simp only [show errV 8 = .iface 56 (.int .i64 8) from rfl] at hkey
                  have Hkey := Lib.hid hkey
                  have Hspent := Lib.hid hspent
                  have Hb1 := Lib.hid hb1
                  have Hx1 := Lib.hid hx1
                  have Hxz : Hid ((Tryz.prog.info? 24).map (·.size) = some XC.length) := Lib.hid (by rw [hxl, Tryz.sizeKey])
                  have Hxz2 : Hid ((Tryz.prog.info? 24).map (·.size) = some XC.toArray.size) := Lib.hid (by rw [List.size_toArray, hxl, Tryz.sizeKey])
                  have Hxz3 : Hid ((#[.int .u8 0, .int .u8 0, .int .u8 0, .int .u8 0, .int .u8 0, .int .u8 0, .int .u8 0, .int .u8 0, .int .u8 0, .int .u8 0, .int .u8 0, .int .u8 0, .int .u8 0, .int .u8 0, .int .u8 0, .int .u8 0, .int .u8 0, .int .u8 0, .int .u8 0, .int .u8 0, .int .u8 0, .int .u8 0, .int .u8 0, .int .u8 0, .int .u8 0, .int .u8 0, .int .u8 0, .int .u8 0, .int .u8 0, .int .u8 0, .int .u8 0, .int .u8 0] : Array Value).size = XC.toArray.size) := Lib.hid (by rw [show XC.toArray.size = 32 by rw [List.size_toArray, hxl]]; rfl)
                  have His := Lib.hid (fun V => numIs_c 8 8 (by omega) V)
                  simp only [show errV 8 = .iface 56 (.int .i64 8) from rfl] at His
                  have HFi := Lib.hid hFi
                  have Hrb := Lib.hid hrb
                  have Hlt := Lib.hid hlt'
                  clear hkey hspent hb1 hx1 hxl hXC hSC hkx hFi hrb hlt' hgr hsz hgone hlife hMx hlx hsgz hTi HFr HRg
                  have hq11 := range_block (heap_alloc_new w11 (.cells XC.toArray 24))
                  rw [List.toList_toArray] at hq11
                  have HQ11 := Lib.hid hq11
                  have HFa : Hid (Fr NoB w11 (w11.alloc (.cells XC.toArray 24))) := Lib.hid (Fr.refl.alloc _)
                  have hw11 : w11.heap.size < (w11.alloc (.cells XC.toArray 24)).heap.size := by rw [World.size_alloc]; omega
                  have Hw11 := Lib.hid hw11
                  clear hq11 hw11
                  go_upto_region 24 with ((with_reducible refine wpList_store_new (w := w11) rfl 24 _ _ rfl _ XC.toArray w11.heap.size rfl ?_ ?_ Hxz2.out Hxz3.out Hx1.out ?_); rfl; rfl)
                  change Code.wp _ _ _ _ (w11.alloc (.cells XC.toArray 24))
                  obtain ⟨w12, hw12⟩ : ∃ V, w11.alloc (.cells XC.toArray 24) = V := ⟨_, rfl⟩
                  obtain ⟨qx, hqx⟩ : ∃ V, w11.heap.size = V := ⟨_, rfl⟩
                  rw [hw12, hqx] at HQ11 Hw11
                  rw [hw12] at HFa
                  rw [hw12, hqx]
                  clear hw12 hqx hrun hen
                  go_wp2_with (first
                    | (with_reducible refine wpList_load_mid rfl 24 _ rfl qx 0 rfl XC (.array 32 5) HQ11.out Tryz.underKey rfl Hxz.out ?_)
                    | ((with_reducible refine wpList_buildTo ?_ 54 _ rfl _ rfl SC ?_ ?_); rfl; (refine Eq.trans (congrArg (Tryz.prog.built 54) ?_) Hb1.out; kernel_rfl)))
                  refine (Hkey.out _ HFa.out).mono ?_
                  rintro r w13 ⟨rfl, hF13⟩
                  have HF13 := Lib.hid (HFa.out.trans' (hF13.alloc (.cells #[.int .u8 0, .int .u8 0, .int .u8 0, .int .u8 0, .int .u8 0, .int .u8 0, .int .u8 0, .int .u8 0, .int .u8 0, .int .u8 0, .int .u8 0, .int .u8 0, .int .u8 0, .int .u8 0, .int .u8 0, .int .u8 0, .int .u8 0, .int .u8 0, .int .u8 0, .int .u8 0, .int .u8 0, .int .u8 0, .int .u8 0, .int .u8 0, .int .u8 0, .int .u8 0, .int .u8 0, .int .u8 0, .int .u8 0, .int .u8 0, .int .u8 0, .int .u8 0] 24)))
                  have HQ13 := Lib.hid (range_fr HQ11.out (hF13.alloc (.cells #[.int .u8 0, .int .u8 0, .int .u8 0, .int .u8 0, .int .u8 0, .int .u8 0, .int .u8 0, .int .u8 0, .int .u8 0, .int .u8 0, .int .u8 0, .int .u8 0, .int .u8 0, .int .u8 0, .int .u8 0, .int .u8 0, .int .u8 0, .int .u8 0, .int .u8 0, .int .u8 0, .int .u8 0, .int .u8 0, .int .u8 0, .int .u8 0, .int .u8 0, .int .u8 0, .int .u8 0, .int .u8 0, .int .u8 0, .int .u8 0, .int .u8 0, .int .u8 0] 24)) Hw11.out (fun _ h => h))
                  clear hF13
                  go_upto_region 25 with ((with_reducible refine wpList_store_new (w := w13) rfl 24 _ _ rfl _ #[.int .u8 0, .int .u8 0, .int .u8 0, .int .u8 0, .int .u8 0, .int .u8 0, .int .u8 0, .int .u8 0, .int .u8 0, .int .u8 0, .int .u8 0, .int .u8 0, .int .u8 0, .int .u8 0, .int .u8 0, .int .u8 0, .int .u8 0, .int .u8 0, .int .u8 0, .int .u8 0, .int .u8 0, .int .u8 0, .int .u8 0, .int .u8 0, .int .u8 0, .int .u8 0, .int .u8 0, .int .u8 0, .int .u8 0, .int .u8 0, .int .u8 0, .int .u8 0] w13.heap.size rfl ?_ ?_ z32_size z32_eq z32_all ?_); rfl; rfl)
                  change Code.wp _ _ _ _ (w13.alloc (.cells #[.int .u8 0, .int .u8 0, .int .u8 0, .int .u8 0, .int .u8 0, .int .u8 0, .int .u8 0, .int .u8 0, .int .u8 0, .int .u8 0, .int .u8 0, .int .u8 0, .int .u8 0, .int .u8 0, .int .u8 0, .int .u8 0, .int .u8 0, .int .u8 0, .int .u8 0, .int .u8 0, .int .u8 0, .int .u8 0, .int .u8 0, .int .u8 0, .int .u8 0, .int .u8 0, .int .u8 0, .int .u8 0, .int .u8 0, .int .u8 0, .int .u8 0, .int .u8 0] 24))
                  obtain ⟨w14, hw14⟩ : ∃ V, w13.alloc (.cells #[.int .u8 0, .int .u8 0, .int .u8 0, .int .u8 0, .int .u8 0, .int .u8 0, .int .u8 0, .int .u8 0, .int .u8 0, .int .u8 0, .int .u8 0, .int .u8 0, .int .u8 0, .int .u8 0, .int .u8 0, .int .u8 0, .int .u8 0, .int .u8 0, .int .u8 0, .int .u8 0, .int .u8 0, .int .u8 0, .int .u8 0, .int .u8 0, .int .u8 0, .int .u8 0, .int .u8 0, .int .u8 0, .int .u8 0, .int .u8 0, .int .u8 0, .int .u8 0] 24) = V := ⟨_, rfl⟩
                  rw [hw14] at HF13 HQ13 ⊢
                  clear hw14
                  go_wp2_with (with_reducible refine wpList_load_mid rfl 24 _ rfl qx 0 rfl XC (.array 32 5) HQ13.out Tryz.underKey rfl Hxz.out ?_)
                  refine (Hspent.out _ HF13.out).mono ?_
                  rintro r w15 ⟨rfl, hF15⟩
                  have HF15 := Lib.hid (HF13.out.trans' hF15)
                  clear hF15
                  go_wp2_with fail
                  refine (His.out _).mono ?_
                  rintro r w16 ⟨rfl, rfl⟩
                  go_wp2_with fail
                  go_roundg (gk - 1)
                  case measure => omega
                  case rel => exact ⟨cn', _, by have := Hlt.out; omega, Lib.hid (Hrb.out.fr HF15.out), Lib.hid (HFi.out.trans' HF15.out)⟩
            · have e3 : (op != 3) = true := by simpa using h3
              go_upto_region 18 with (fail)
              have hok2 : st.times ky = 0 ∧ (st.t.came e i).life ky = 1 := by first | exact HokS.out.2 trivial h3 | exact HokS.out.2 rfl h3
              have htv0 : (tm ky).getD (.int .i64 0) = .int .i64 0 := by rw [HO.out.tiv ky Hkyl.out, hok2.1]
              have hdr7 := HTI7.out.fr (Fr.refl (M := NoB)).drew (fun _ h => h)
              have hi1 : i < maxLen := by have := Hi60.out; unfold maxLen; omega
              have hlk7 := hdr7.look (K := keyK) Tryz.underlying34 (Tryz.zeroI _) Hkyl.out
              obtain ⟨st0, w8, hme, hm8, hg8, hst8⟩ := hdr7.entry2 (K := keyK) Tryz.keyLaw Tryz.underlying34 Tryz.zeroI hi1 Hkyl.out
              rw [htv0] at hlk7 hme hm8
              have hlk8 := hm8.look (K := keyK) Tryz.underlying34 (Tryz.zeroI _) Hkyl.out
              rw [upd_same] at hlk8
              obtain ⟨w9, hes, hm9, hg9⟩ := hst8 w8 (.int .i64 1) ⟨rfl, rfl, rfl, Nat.le_refl _, fun _ _ _ => rfl⟩
              have hlk9 := hm9.look (K := keyK) Tryz.underlying34 (Tryz.zeroI _) Hkyl.out
              rw [upd_same] at hlk9
              have hw1 : IntKind.i64.wrap 1 = 1 := rfl
              replace hes : (Instr.entryStore 34 (.map (some bt)) (.int .i64 st0) (.int .i64 1)).run Tryz.prog w8 = .ok () w9 := hes
              have hkv : keyK.kv ky = .agg KYC.toArray := by rw [← HKYC.out]; rfl
              rw [hkv] at hlk7 hme hlk8 hlk9
              have hg89 : Fr (fun k _ => k = bt) w8 w9 := (Fr.ofGrown hg9).mono (fun _ _ h => Option.some.inj h)
              have hg78 : Fr (fun k _ => k = bt) w6.drew w8 := (Fr.ofGrown hg8).mono (fun _ _ h => Option.some.inj h)
              have Hg89 := Lib.hid hg89
              have Hg78 := Lib.hid hg78
              have HM9 := Lib.hid hm9
              have Hok2 := Lib.hid hok2
              have HS : Hid (st.step psub e i = ⟨st.t.came e i, upd st.times ky 1, gone7⟩) := Lib.hid (by rw [HRs.out, if_neg h3, hok2.1]; rfl)
              have HTV9 : Hid (∀ k : Bs, k.length = 32 → (upd tm ky (some (.int .i64 1)) k).getD (.int .i64 0) = .int .i64 (upd st.times ky 1 k)) := Lib.hid (fun k hk => by
                unfold upd
                by_cases he : k = ky
                · rw [if_pos he, if_pos he]; rfl
                · rw [if_neg he, if_neg he]; exact HO.out.tiv k hk)
              simp only [Option.getD_some] at hlk8 hlk9
              clear hst8 hdr7 hm8 hm9 hg8 hg9 hkv hg89 hg78 hok2 htv0 hi1 h3
              refine wp_region_held_drew (S := fun V => Hid (Fr (fun k _ => k = bt) w6 V)) (by kernel_rfl) (Lib.hid Fr.refl.drew) (fun hHeld => ?_)
              simp only [List.size_toArray, List.length_cons, List.length_nil]
              refine wpAnyH_take (i := 0) (v := ?_) rfl (by kernel_rfl) (by kernel_rfl) (by kernel_rfl) (fun _ _ _ h => h) (Or.inl ⟨by rfl, ?_⟩) hHeld ?_
              rotate_left
              · intro W hSw
                try simp only [qG, qG0, qG1]
                go_simp
                try rw [if_neg (by omega)]
                try with_reducible rfl
              try simp only [Act.put, qS, qS0, qS1, qG, qG0, qG1]
              refine wpAnyH_take (i := 1) (v := ?_) rfl (by kernel_rfl) (by kernel_rfl) (by kernel_rfl) (fun _ _ _ h => h) (Or.inl ⟨by rfl, ?_⟩) hHeld ?_
              rotate_left
              · intro W hSw
                try simp only [qG, qG0, qG1]
                go_simp
                try rw [if_neg (by omega)]
                try with_reducible rfl
              try simp only [Act.put, qS, qS0, qS1, qG, qG0, qG1]
              refine wpAnyH_take (i := 2) (v := ?_) rfl (by kernel_rfl) (by kernel_rfl) (by kernel_rfl) (fun _ _ _ h => h) (Or.inl ⟨by rfl, ?_⟩) hHeld ?_
              rotate_left
              · intro W hSw
                try simp only [qG, qG0, qG1]
                go_simp
                try rw [if_neg (by omega)]
                try with_reducible rfl
              try simp only [Act.put, qS, qS0, qS1, qG, qG0, qG1]
              refine wpAnyH_take (i := 3) rfl (by kernel_rfl) (by kernel_rfl) (by kernel_rfl) (fun _ _ _ h => h) (yieldsIf_load_mid (by rfl) 24 _ rfl q 37 rfl KYC (.array 32 5) (fun V h => range_fr HkK7.out h.out Hq7.out (fun _ h => by have h2 : q = bt := h; have := Hqg.out; omega)) Tryz.underKey rfl Hkyz.out) hHeld ?_
              try simp only [Act.put, qS, qS0, qS1, qG, qG0, qG1]
              refine wpAnyH_ready (rs := [4, 6]) (by kernel_rfl) (by simp) (AllReadyH.cons rfl (fun K hK => ?_) (AllReadyH.cons rfl (fun K hK => ?_) AllReadyH.nil))
              · try simp only [qG, qG0, qG1]
                go_simp
                refine hK.out _ _ (Lib.hid hHeld.out) (fun hHeld => ?_)
                clear hK K
                try simp only [Act.put, qS, qS0, qS1, qG, qG0, qG1]
                refine wpAnyH_take (i := 5) (v := ?_) rfl (by kernel_rfl) (by kernel_rfl) (by kernel_rfl) (fun _ _ _ h => h) (Or.inl ⟨by rfl, ?_⟩) hHeld ?_
                rotate_left
                · intro W hSw
                  try simp only [qG, qG0, qG1]
                  go_simp
                  try rw [if_neg (by omega)]
                  try with_reducible rfl
                try simp only [Act.put, qS, qS0, qS1, qG, qG0, qG1]
                refine wpAnyH_ready (rs := [6]) (by kernel_rfl) (by simp) (AllReadyH.cons rfl (fun K hK => ?_) AllReadyH.nil)
                try simp only [qG, qG0, qG1]
                go_simp
                skip
                refine hK.out _ _ (Lib.hid (hHeld.out.trans' Hg78.out)) (fun hHeld => ?_)
                clear hK K
                try simp only [Act.put, qS, qS0, qS1, qG, qG0, qG1]
                refine wpAnyH_take (i := 7) (v := ?_) rfl (by kernel_rfl) (by kernel_rfl) (by kernel_rfl) (fun _ _ _ h => h) (Or.inl ⟨by rfl, ?_⟩) hHeld ?_
                rotate_left
                · intro W hSw
                  try simp only [qG, qG0, qG1]
                  go_simp
                  try rw [if_neg (by omega)]
                  try with_reducible rfl
                try simp only [Act.put, qS, qS0, qS1, qG, qG0, qG1]
                refine wpAnyH_ready (rs := [8]) (by kernel_rfl) (by simp) (AllReadyH.cons rfl (fun K hK => ?_) AllReadyH.nil)
                try simp only [qG, qG0, qG1]
                go_simp
                skip
                refine hK.out _ _ (Lib.hid (hHeld.out.trans' Hg89.out)) (fun hHeld => ?_)
                clear hK K
                try simp only [Act.put, qS, qS0, qS1, qG, qG0, qG1]
                refine wpAnyH_done (by kernel_rfl) ?_ _
                have hF79 := hHeld.out
                clear hHeld hlk7 hlk8 hme hes
                go_upto_region 19 with (fail)
                change Code.wp _ _ _ _ w9
                have HT9 := Lib.hid (HT7.out.mapfr HTI7.out hF79 HN.out.ap.1 HN.out.ap.2.1 HN.out.ap.2.2.2.2.2.1)
                have HGO9 : Hid (MapB keyK w9 bg (i + 1) gm) := Lib.hid (HGO7.out.fr hF79 (fun _ h => HN.out.ap.2.2.2.2.1 (show bg = bt from h).symm))
                have hlo := HN.out.lo
                have hold := HN.out.old
                have HF9 : Hid (Fr NoB w w9) := Lib.hid (HF7.out.trans hF79 (fun k _ h => .inr (by have h2 : k = bt := h; omega)))
                have Hgl9 : Hid (Gl w9) := Lib.hid (Hgl7.out.fr hF79 (fun k _ _ h => by have h2 : k = bt := h; have := HN.out.ng; omega))
                have HkK9 := Lib.hid (range_fr HkK7.out hF79 Hq7.out (fun _ h => by have h2 : q = bt := h; have := Hqg.out; omega))
                have hsp := spent_c ky w9 HT9.out Hkyl.out
                rw [Hok2.out.2, HKYC.out] at hsp
                simp only [show ((1 : Int) == 2) = false from rfl] at hsp
                have Hsp := Lib.hid hsp
                have e11 : decide ((1 : Int) < 1) = false := rfl
                clear hF79 hlo hold hsp HT7 HTI7 HGO7 HF7 Hgl7 HkK7 Hq7
                go_wp2_with (first
                  | (with_reducible refine wpList_load_mid rfl 24 _ rfl q 37 rfl KYC (.array 32 5) HkK9.out Tryz.underKey rfl Hkyz.out ?_)
                  | (with_reducible refine wpList_load_g 24 _ rfl q 37 rfl KYC (.array 32 5) HkK9.out Tryz.underKey rfl Hkyz.out rfl ?_))
                refine Hsp.out.mono ?_
                rintro r w9b ⟨rfl, hF9b⟩
                have HT7 := Lib.hid (HT9.out.keep hF9b)
                have HGO7 := Lib.hid (HGO9.out.fr hF9b (fun _ h => h))
                have HF7 := Lib.hid (HF9.out.trans' hF9b)
                have Hgl7 := Lib.hid (Hgl9.out.fr hF9b (fun _ _ _ h => h.elim))
                have HTI9 := Lib.hid (HM9.out.fr hF9b (fun _ h => h))
                clear hF9b HT9 HGO9 HF9 Hgl9 HkK9 Hsp hlk9 HM9
                go_upto_region 21 with (fail)
                change Code.wp _ _ _ _ w9b
                obtain ⟨w10, hrun, ⟨cnt, hrb⟩, hg10, -⟩ := HGO7.out.range (K := keyK) (w := w9b) Tryz.underlying35
                have hF10 : Fr NoB w9b w10 := (Fr.ofGrown hg10).mono (fun _ _ h => by cases h)
                have HR10 := Lib.hid hrb
                have HF10 := Lib.hid hF10
                clear hrb hF10 hg10
                go_wp2_with fail
                obtain ⟨rr, hrr⟩ : ∃ x, (w9b).heap.size = x := ⟨_, rfl⟩
                rw [hrr] at HR10 ⊢
                have Hrr := Lib.hid hrr
                clear hrun hrr
                go_loopg [] (cnt + 1) (fun gf wr => ∃ (cn : Nat) (left : Bs → Bool), cn + 1 ≤ gf ∧ Hid (RangeB keyK wr bg rr (i + 1) gm left cn) ∧ Hid (Fr NoB w9b wr))
                case atStart => exact ⟨cnt, _, Nat.le_refl _, HR10, HF10⟩
                case round =>
                  obtain ⟨cn, left, hcn, HRg, HFr⟩ := hrel
                  rcases HRg.out.next 0 with ⟨h0, hl, hrun⟩ | ⟨x, v, w11, cn', hx, hlx, hMx, hrun, hrb, hlt', hgr, hsz, hen⟩
                  · have hwr : wrap64 ((i : Int) + 1) = (i : Int) + 1 := by have := Hi60.out; unfold wrap64; omega
                    go_wp2_with fail
                    go_roundg (gko - 1)
                    case measure => omega
                    case rel =>
                      refine ⟨i + 1, by simp [hwr], by omega, by omega, st.step psub e i, g6, lv6, (upd tm ky (some (.int .i64 1))), gm, Lib.hid ⟨HokS.out.1, ?_, ?_, ?_, HRg.out.map, ?_, HF7.out.trans' HFr.out, Hgl7.out.fr HFr.out (fun _ _ _ h => h.elim)⟩⟩
                      · rw [HS.out]; exact HT7.out.keep HFr.out
                      · exact HTI9.out.fr HFr.out (fun _ h => h)
                      · rw [HS.out]; exact HTV9.out
                      · rw [HS.out]; exact HGV7.out
                  · have hgone : gone7 x = true := by
                      have h1 := HGV7.out x hx
                      rw [hMx] at h1
                      by_cases hg : gone7 x = true
                      · exact hg
                      · rw [if_neg hg] at h1; cases h1
                    have hlife : (st.t.came e i).life x = 2 := by
                      have h1 := HokS.out.1
                      rw [HS.out] at h1
                      exact h1.2.2 x hgone
                    have hFi : Fr NoB w9b w11 := HFr.out.trans (Fr.ofGrown hgr) (fun k _ hm => .inr (by
                      have h2 : some k = some rr := hm
                      injection h2 with h2
                      have := Hrr.out
                      omega))
                    have hTi := HT7.out.keep hFi
                    have hkey := fun V (hV : Fr NoB w11 V) => key_c ⟨[], x, zero64⟩ V (hTi.keep hV) ⟨hx, rfl⟩ (Nat.zero_le _)
                    simp only [key_spent hlife] at hkey
                    have hspent := fun V (hV : Fr NoB w11 V) => spent_c x V (hTi.keep hV) hx
                    rw [hlife] at hspent
                    have hb1 := built_key x hx
                    have hsgz := Sg.size (s := ⟨[], x, zero64⟩) ⟨hx, rfl⟩
                    have hx1 := all_oneCell_toArray (cells_one x)
                    have hxl : (Lib.byteCells x).length = 32 := by rw [byteCells_len]; exact hx
                    obtain ⟨XC, hXC⟩ : ∃ C, Lib.byteCells x = C := ⟨_, rfl⟩
                    obtain ⟨SC, hSC⟩ : ∃ C, Sg.cells ⟨[], x, zero64⟩ = C := ⟨_, rfl⟩
                    simp only [hXC] at hspent hb1 hx1 hxl
                    simp only [hSC] at hkey hb1
                    have hkx : (keyK.kv x) = .agg XC.toArray := by rw [← hXC]; rfl
                    rw [hkx] at hrun hen
                    rw [show (Lib.byteCells zero32).toArray = #[.int .u8 0, .int .u8 0, .int .u8 0, .int .u8 0, .int .u8 0, .int .u8 0, .int .u8 0, .int .u8 0, .int .u8 0, .int .u8 0, .int .u8 0, .int .u8 0, .int .u8 0, .int .u8 0, .int .u8 0, .int .u8 0, .int .u8 0, .int .u8 0, .int .u8 0, .int .u8 0, .int .u8 0, .int .u8 0, .int .u8 0, .int .u8 0, .int .u8 0, .int .u8 0, .int .u8 0, .int .u8 0, .int .u8 0, .int .u8 0, .int .u8 0, .int .u8 0] from rfl] at hkey
                    simp only [show errV 8 = .iface 56 (.int .i64 8) from rfl] at hkey
                    have Hkey := Lib.hid hkey
                    have Hspent := Lib.hid hspent
                    have Hb1 := Lib.hid hb1
                    have Hx1 := Lib.hid hx1
                    have Hxz : Hid ((Tryz.prog.info? 24).map (·.size) = some XC.length) := Lib.hid (by rw [hxl, Tryz.sizeKey])
                    have Hxz2 : Hid ((Tryz.prog.info? 24).map (·.size) = some XC.toArray.size) := Lib.hid (by rw [List.size_toArray, hxl, Tryz.sizeKey])
                    have Hxz3 : Hid ((#[.int .u8 0, .int .u8 0, .int .u8 0, .int .u8 0, .int .u8 0, .int .u8 0, .int .u8 0, .int .u8 0, .int .u8 0, .int .u8 0, .int .u8 0, .int .u8 0, .int .u8 0, .int .u8 0, .int .u8 0, .int .u8 0, .int .u8 0, .int .u8 0, .int .u8 0, .int .u8 0, .int .u8 0, .int .u8 0, .int .u8 0, .int .u8 0, .int .u8 0, .int .u8 0, .int .u8 0, .int .u8 0, .int .u8 0, .int .u8 0, .int .u8 0, .int .u8 0] : Array Value).size = XC.toArray.size) := Lib.hid (by rw [show XC.toArray.size = 32 by rw [List.size_toArray, hxl]]; rfl)
                    have His := Lib.hid (fun V => numIs_c 8 8 (by omega) V)
                    simp only [show errV 8 = .iface 56 (.int .i64 8) from rfl] at His
                    have HFi := Lib.hid hFi
                    have Hrb := Lib.hid hrb
                    have Hlt := Lib.hid hlt'
                    clear hkey hspent hb1 hx1 hxl hXC hSC hkx hFi hrb hlt' hgr hsz hgone hlife hMx hlx hsgz hTi HFr HRg
                    have hq11 := range_block (heap_alloc_new w11 (.cells XC.toArray 24))
                    rw [List.toList_toArray] at hq11
                    have HQ11 := Lib.hid hq11
                    have HFa : Hid (Fr NoB w11 (w11.alloc (.cells XC.toArray 24))) := Lib.hid (Fr.refl.alloc _)
                    have hw11 : w11.heap.size < (w11.alloc (.cells XC.toArray 24)).heap.size := by rw [World.size_alloc]; omega
                    have Hw11 := Lib.hid hw11
                    clear hq11 hw11
                    go_upto_region 24 with ((with_reducible refine wpList_store_new (w := w11) rfl 24 _ _ rfl _ XC.toArray w11.heap.size rfl ?_ ?_ Hxz2.out Hxz3.out Hx1.out ?_); rfl; rfl)
                    change Code.wp _ _ _ _ (w11.alloc (.cells XC.toArray 24))
                    obtain ⟨w12, hw12⟩ : ∃ V, w11.alloc (.cells XC.toArray 24) = V := ⟨_, rfl⟩
                    obtain ⟨qx, hqx⟩ : ∃ V, w11.heap.size = V := ⟨_, rfl⟩
                    rw [hw12, hqx] at HQ11 Hw11
                    rw [hw12] at HFa
                    rw [hw12, hqx]
                    clear hw12 hqx hrun hen
                    go_wp2_with (first
                      | (with_reducible refine wpList_load_mid rfl 24 _ rfl qx 0 rfl XC (.array 32 5) HQ11.out Tryz.underKey rfl Hxz.out ?_)
                      | ((with_reducible refine wpList_buildTo ?_ 54 _ rfl _ rfl SC ?_ ?_); rfl; (refine Eq.trans (congrArg (Tryz.prog.built 54) ?_) Hb1.out; kernel_rfl)))
                    refine (Hkey.out _ HFa.out).mono ?_
                    rintro r w13 ⟨rfl, hF13⟩
                    have HF13 := Lib.hid (HFa.out.trans' (hF13.alloc (.cells #[.int .u8 0, .int .u8 0, .int .u8 0, .int .u8 0, .int .u8 0, .int .u8 0, .int .u8 0, .int .u8 0, .int .u8 0, .int .u8 0, .int .u8 0, .int .u8 0, .int .u8 0, .int .u8 0, .int .u8 0, .int .u8 0, .int .u8 0, .int .u8 0, .int .u8 0, .int .u8 0, .int .u8 0, .int .u8 0, .int .u8 0, .int .u8 0, .int .u8 0, .int .u8 0, .int .u8 0, .int .u8 0, .int .u8 0, .int .u8 0, .int .u8 0, .int .u8 0] 24)))
                    have HQ13 := Lib.hid (range_fr HQ11.out (hF13.alloc (.cells #[.int .u8 0, .int .u8 0, .int .u8 0, .int .u8 0, .int .u8 0, .int .u8 0, .int .u8 0, .int .u8 0, .int .u8 0, .int .u8 0, .int .u8 0, .int .u8 0, .int .u8 0, .int .u8 0, .int .u8 0, .int .u8 0, .int .u8 0, .int .u8 0, .int .u8 0, .int .u8 0, .int .u8 0, .int .u8 0, .int .u8 0, .int .u8 0, .int .u8 0, .int .u8 0, .int .u8 0, .int .u8 0, .int .u8 0, .int .u8 0, .int .u8 0, .int .u8 0] 24)) Hw11.out (fun _ h => h))
                    clear hF13
                    go_upto_region 25 with ((with_reducible refine wpList_store_new (w := w13) rfl 24 _ _ rfl _ #[.int .u8 0, .int .u8 0, .int .u8 0, .int .u8 0, .int .u8 0, .int .u8 0, .int .u8 0, .int .u8 0, .int .u8 0, .int .u8 0, .int .u8 0, .int .u8 0, .int .u8 0, .int .u8 0, .int .u8 0, .int .u8 0, .int .u8 0, .int .u8 0, .int .u8 0, .int .u8 0, .int .u8 0, .int .u8 0, .int .u8 0, .int .u8 0, .int .u8 0, .int .u8 0, .int .u8 0, .int .u8 0, .int .u8 0, .int .u8 0, .int .u8 0, .int .u8 0] w13.heap.size rfl ?_ ?_ z32_size z32_eq z32_all ?_); rfl; rfl)
                    change Code.wp _ _ _ _ (w13.alloc (.cells #[.int .u8 0, .int .u8 0, .int .u8 0, .int .u8 0, .int .u8 0, .int .u8 0, .int .u8 0, .int .u8 0, .int .u8 0, .int .u8 0, .int .u8 0, .int .u8 0, .int .u8 0, .int .u8 0, .int .u8 0, .int .u8 0, .int .u8 0, .int .u8 0, .int .u8 0, .int .u8 0, .int .u8 0, .int .u8 0, .int .u8 0, .int .u8 0, .int .u8 0, .int .u8 0, .int .u8 0, .int .u8 0, .int .u8 0, .int .u8 0, .int .u8 0, .int .u8 0] 24))
                    obtain ⟨w14, hw14⟩ : ∃ V, w13.alloc (.cells #[.int .u8 0, .int .u8 0, .int .u8 0, .int .u8 0, .int .u8 0, .int .u8 0, .int .u8 0, .int .u8 0, .int .u8 0, .int .u8 0, .int .u8 0, .int .u8 0, .int .u8 0, .int .u8 0, .int .u8 0, .int .u8 0, .int .u8 0, .int .u8 0, .int .u8 0, .int .u8 0, .int .u8 0, .int .u8 0, .int .u8 0, .int .u8 0, .int .u8 0, .int .u8 0, .int .u8 0, .int .u8 0, .int .u8 0, .int .u8 0, .int .u8 0, .int .u8 0] 24) = V := ⟨_, rfl⟩
                    rw [hw14] at HF13 HQ13 ⊢
                    clear hw14
                    go_wp2_with (with_reducible refine wpList_load_mid rfl 24 _ rfl qx 0 rfl XC (.array 32 5) HQ13.out Tryz.underKey rfl Hxz.out ?_)
                    refine (Hspent.out _ HF13.out).mono ?_
                    rintro r w15 ⟨rfl, hF15⟩
                    have HF15 := Lib.hid (HF13.out.trans' hF15)
                    clear hF15
                    go_wp2_with fail
                    refine (His.out _).mono ?_
                    rintro r w16 ⟨rfl, rfl⟩
                    go_wp2_with fail
                    go_roundg (gk - 1)
                    case measure => omega
                    case rel => exact ⟨cn', _, by have := Hlt.out; omega, Lib.hid (Hrb.out.fr HF15.out), Lib.hid (HFi.out.trans' HF15.out)⟩
              · try simp only [qG, qG0, qG1]
                go_simp
                refine hK.out _ _ (Lib.hid (hHeld.out.trans' Hg78.out)) (fun hHeld => ?_)
                clear hK K
                try simp only [Act.put, qS, qS0, qS1, qG, qG0, qG1]
                refine wpAnyH_take (i := 7) (v := ?_) rfl (by kernel_rfl) (by kernel_rfl) (by kernel_rfl) (fun _ _ _ h => h) (Or.inl ⟨by rfl, ?_⟩) hHeld ?_
                rotate_left
                · intro W hSw
                  try simp only [qG, qG0, qG1]
                  go_simp
                  try rw [if_neg (by omega)]
                  try with_reducible rfl
                try simp only [Act.put, qS, qS0, qS1, qG, qG0, qG1]
                refine wpAnyH_ready (rs := [4]) (by kernel_rfl) (by simp) (AllReadyH.cons rfl (fun K hK => ?_) AllReadyH.nil)
                try simp only [qG, qG0, qG1]
                go_simp
                skip
                refine hK.out _ _ (Lib.hid hHeld.out) (fun hHeld => ?_)
                clear hK K
                try simp only [Act.put, qS, qS0, qS1, qG, qG0, qG1]
                refine wpAnyH_take (i := 5) (v := ?_) rfl (by kernel_rfl) (by kernel_rfl) (by kernel_rfl) (fun _ _ _ h => h) (Or.inl ⟨by rfl, ?_⟩) hHeld ?_
                rotate_left
                · intro W hSw
                  try simp only [qG, qG0, qG1]
                  go_simp
                  try rw [if_neg (by omega)]
                  try with_reducible rfl
                try simp only [Act.put, qS, qS0, qS1, qG, qG0, qG1]
                refine wpAnyH_ready (rs := [8]) (by kernel_rfl) (by simp) (AllReadyH.cons rfl (fun K hK => ?_) AllReadyH.nil)
                try simp only [qG, qG0, qG1]
                go_simp
                skip
                refine hK.out _ _ (Lib.hid (hHeld.out.trans' Hg89.out)) (fun hHeld => ?_)
                clear hK K
                try simp only [Act.put, qS, qS0, qS1, qG, qG0, qG1]
                refine wpAnyH_done (by kernel_rfl) ?_ _
                have hF79 := hHeld.out
                clear hHeld hlk7 hlk8 hme hes
                go_upto_region 19 with (fail)
                change Code.wp _ _ _ _ w9
                have HT9 := Lib.hid (HT7.out.mapfr HTI7.out hF79 HN.out.ap.1 HN.out.ap.2.1 HN.out.ap.2.2.2.2.2.1)
                have HGO9 : Hid (MapB keyK w9 bg (i + 1) gm) := Lib.hid (HGO7.out.fr hF79 (fun _ h => HN.out.ap.2.2.2.2.1 (show bg = bt from h).symm))
                have hlo := HN.out.lo
                have hold := HN.out.old
                have HF9 : Hid (Fr NoB w w9) := Lib.hid (HF7.out.trans hF79 (fun k _ h => .inr (by have h2 : k = bt := h; omega)))
                have Hgl9 : Hid (Gl w9) := Lib.hid (Hgl7.out.fr hF79 (fun k _ _ h => by have h2 : k = bt := h; have := HN.out.ng; omega))
                have HkK9 := Lib.hid (range_fr HkK7.out hF79 Hq7.out (fun _ h => by have h2 : q = bt := h; have := Hqg.out; omega))
                have hsp := spent_c ky w9 HT9.out Hkyl.out
                rw [Hok2.out.2, HKYC.out] at hsp
                simp only [show ((1 : Int) == 2) = false from rfl] at hsp
                have Hsp := Lib.hid hsp
                have e11 : decide ((1 : Int) < 1) = false := rfl
                clear hF79 hlo hold hsp HT7 HTI7 HGO7 HF7 Hgl7 HkK7 Hq7
                go_wp2_with (first
                  | (with_reducible refine wpList_load_mid rfl 24 _ rfl q 37 rfl KYC (.array 32 5) HkK9.out Tryz.underKey rfl Hkyz.out ?_)
                  | (with_reducible refine wpList_load_g 24 _ rfl q 37 rfl KYC (.array 32 5) HkK9.out Tryz.underKey rfl Hkyz.out rfl ?_))
                refine Hsp.out.mono ?_
                rintro r w9b ⟨rfl, hF9b⟩
                have HT7 := Lib.hid (HT9.out.keep hF9b)
                have HGO7 := Lib.hid (HGO9.out.fr hF9b (fun _ h => h))
                have HF7 := Lib.hid (HF9.out.trans' hF9b)
                have Hgl7 := Lib.hid (Hgl9.out.fr hF9b (fun _ _ _ h => h.elim))
                have HTI9 := Lib.hid (HM9.out.fr hF9b (fun _ h => h))
                clear hF9b HT9 HGO9 HF9 Hgl9 HkK9 Hsp hlk9 HM9
                go_upto_region 21 with (fail)
                change Code.wp _ _ _ _ w9b
                obtain ⟨w10, hrun, ⟨cnt, hrb⟩, hg10, -⟩ := HGO7.out.range (K := keyK) (w := w9b) Tryz.underlying35
                have hF10 : Fr NoB w9b w10 := (Fr.ofGrown hg10).mono (fun _ _ h => by cases h)
                have HR10 := Lib.hid hrb
                have HF10 := Lib.hid hF10
                clear hrb hF10 hg10
                go_wp2_with fail
                obtain ⟨rr, hrr⟩ : ∃ x, (w9b).heap.size = x := ⟨_, rfl⟩
                rw [hrr] at HR10 ⊢
                have Hrr := Lib.hid hrr
                clear hrun hrr
                go_loopg [] (cnt + 1) (fun gf wr => ∃ (cn : Nat) (left : Bs → Bool), cn + 1 ≤ gf ∧ Hid (RangeB keyK wr bg rr (i + 1) gm left cn) ∧ Hid (Fr NoB w9b wr))
                case atStart => exact ⟨cnt, _, Nat.le_refl _, HR10, HF10⟩
                case round =>
                  obtain ⟨cn, left, hcn, HRg, HFr⟩ := hrel
                  rcases HRg.out.next 0 with ⟨h0, hl, hrun⟩ | ⟨x, v, w11, cn', hx, hlx, hMx, hrun, hrb, hlt', hgr, hsz, hen⟩
                  · have hwr : wrap64 ((i : Int) + 1) = (i : Int) + 1 := by have := Hi60.out; unfold wrap64; omega
                    go_wp2_with fail
                    go_roundg (gko - 1)
                    case measure => omega
                    case rel =>
                      refine ⟨i + 1, by simp [hwr], by omega, by omega, st.step psub e i, g6, lv6, (upd tm ky (some (.int .i64 1))), gm, Lib.hid ⟨HokS.out.1, ?_, ?_, ?_, HRg.out.map, ?_, HF7.out.trans' HFr.out, Hgl7.out.fr HFr.out (fun _ _ _ h => h.elim)⟩⟩
                      · rw [HS.out]; exact HT7.out.keep HFr.out
                      · exact HTI9.out.fr HFr.out (fun _ h => h)
                      · rw [HS.out]; exact HTV9.out
                      · rw [HS.out]; exact HGV7.out
                  · have hgone : gone7 x = true := by
                      have h1 := HGV7.out x hx
                      rw [hMx] at h1
                      by_cases hg : gone7 x = true
                      · exact hg
                      · rw [if_neg hg] at h1; cases h1
                    have hlife : (st.t.came e i).life x = 2 := by
                      have h1 := HokS.out.1
                      rw [HS.out] at h1
                      exact h1.2.2 x hgone
                    have hFi : Fr NoB w9b w11 := HFr.out.trans (Fr.ofGrown hgr) (fun k _ hm => .inr (by
                      have h2 : some k = some rr := hm
                      injection h2 with h2
                      have := Hrr.out
                      omega))
                    have hTi := HT7.out.keep hFi
                    have hkey := fun V (hV : Fr NoB w11 V) => key_c ⟨[], x, zero64⟩ V (hTi.keep hV) ⟨hx, rfl⟩ (Nat.zero_le _)
                    simp only [key_spent hlife] at hkey
                    have hspent := fun V (hV : Fr NoB w11 V) => spent_c x V (hTi.keep hV) hx
                    rw [hlife] at hspent
                    have hb1 := built_key x hx
                    have hsgz := Sg.size (s := ⟨[], x, zero64⟩) ⟨hx, rfl⟩
                    have hx1 := all_oneCell_toArray (cells_one x)
                    have hxl : (Lib.byteCells x).length = 32 := by rw [byteCells_len]; exact hx
                    obtain ⟨XC, hXC⟩ : ∃ C, Lib.byteCells x = C := ⟨_, rfl⟩
                    obtain ⟨SC, hSC⟩ : ∃ C, Sg.cells ⟨[], x, zero64⟩ = C := ⟨_, rfl⟩
                    simp only [hXC] at hspent hb1 hx1 hxl
                    simp only [hSC] at hkey hb1
                    have hkx : (keyK.kv x) = .agg XC.toArray := by rw [← hXC]; rfl
                    rw [hkx] at hrun hen
                    rw [show (Lib.byteCells zero32).toArray = #[.int .u8 0, .int .u8 0, .int .u8 0, .int .u8 0, .int .u8 0, .int .u8 0, .int .u8 0, .int .u8 0, .int .u8 0, .int .u8 0, .int .u8 0, .int .u8 0, .int .u8 0, .int .u8 0, .int .u8 0, .int .u8 0, .int .u8 0, .int .u8 0, .int .u8 0, .int .u8 0, .int .u8 0, .int .u8 0, .int .u8 0, .int .u8 0, .int .u8 0, .int .u8 0, .int .u8 0, .int .u8 0, .int .u8 0, .int .u8 0, .int .u8 0, .int .u8 0] from rfl] at hkey
                    simp only [show errV 8 = .iface 56 (.int .i64 8) from rfl] at hkey
                    have Hkey := Lib.hid hkey
                    have Hspent := Lib.hid hspent
                    have Hb1 := Lib.hid hb1
                    have Hx1 := Lib.hid hx1
                    have Hxz : Hid ((Tryz.prog.info? 24).map (·.size) = some XC.length) := Lib.hid (by rw [hxl, Tryz.sizeKey])
                    have Hxz2 : Hid ((Tryz.prog.info? 24).map (·.size) = some XC.toArray.size) := Lib.hid (by rw [List.size_toArray, hxl, Tryz.sizeKey])
                    have Hxz3 : Hid ((#[.int .u8 0, .int .u8 0, .int .u8 0, .int .u8 0, .int .u8 0, .int .u8 0, .int .u8 0, .int .u8 0, .int .u8 0, .int .u8 0, .int .u8 0, .int .u8 0, .int .u8 0, .int .u8 0, .int .u8 0, .int .u8 0, .int .u8 0, .int .u8 0, .int .u8 0, .int .u8 0, .int .u8 0, .int .u8 0, .int .u8 0, .int .u8 0, .int .u8 0, .int .u8 0, .int .u8 0, .int .u8 0, .int .u8 0, .int .u8 0, .int .u8 0, .int .u8 0] : Array Value).size = XC.toArray.size) := Lib.hid (by rw [show XC.toArray.size = 32 by rw [List.size_toArray, hxl]]; rfl)
                    have His := Lib.hid (fun V => numIs_c 8 8 (by omega) V)
                    simp only [show errV 8 = .iface 56 (.int .i64 8) from rfl] at His
                    have HFi := Lib.hid hFi
                    have Hrb := Lib.hid hrb
                    have Hlt := Lib.hid hlt'
                    clear hkey hspent hb1 hx1 hxl hXC hSC hkx hFi hrb hlt' hgr hsz hgone hlife hMx hlx hsgz hTi HFr HRg
                    have hq11 := range_block (heap_alloc_new w11 (.cells XC.toArray 24))
                    rw [List.toList_toArray] at hq11
                    have HQ11 := Lib.hid hq11
                    have HFa : Hid (Fr NoB w11 (w11.alloc (.cells XC.toArray 24))) := Lib.hid (Fr.refl.alloc _)
                    have hw11 : w11.heap.size < (w11.alloc (.cells XC.toArray 24)).heap.size := by rw [World.size_alloc]; omega
                    have Hw11 := Lib.hid hw11
                    clear hq11 hw11
                    go_upto_region 24 with ((with_reducible refine wpList_store_new (w := w11) rfl 24 _ _ rfl _ XC.toArray w11.heap.size rfl ?_ ?_ Hxz2.out Hxz3.out Hx1.out ?_); rfl; rfl)
                    change Code.wp _ _ _ _ (w11.alloc (.cells XC.toArray 24))
                    obtain ⟨w12, hw12⟩ : ∃ V, w11.alloc (.cells XC.toArray 24) = V := ⟨_, rfl⟩
                    obtain ⟨qx, hqx⟩ : ∃ V, w11.heap.size = V := ⟨_, rfl⟩
                    rw [hw12, hqx] at HQ11 Hw11
                    rw [hw12] at HFa
                    rw [hw12, hqx]
                    clear hw12 hqx hrun hen
                    go_wp2_with (first
                      | (with_reducible refine wpList_load_mid rfl 24 _ rfl qx 0 rfl XC (.array 32 5) HQ11.out Tryz.underKey rfl Hxz.out ?_)
                      | ((with_reducible refine wpList_buildTo ?_ 54 _ rfl _ rfl SC ?_ ?_); rfl; (refine Eq.trans (congrArg (Tryz.prog.built 54) ?_) Hb1.out; kernel_rfl)))
                    refine (Hkey.out _ HFa.out).mono ?_
                    rintro r w13 ⟨rfl, hF13⟩
                    have HF13 := Lib.hid (HFa.out.trans' (hF13.alloc (.cells #[.int .u8 0, .int .u8 0, .int .u8 0, .int .u8 0, .int .u8 0, .int .u8 0, .int .u8 0, .int .u8 0, .int .u8 0, .int .u8 0, .int .u8 0, .int .u8 0, .int .u8 0, .int .u8 0, .int .u8 0, .int .u8 0, .int .u8 0, .int .u8 0, .int .u8 0, .int .u8 0, .int .u8 0, .int .u8 0, .int .u8 0, .int .u8 0, .int .u8 0, .int .u8 0, .int .u8 0, .int .u8 0, .int .u8 0, .int .u8 0, .int .u8 0, .int .u8 0] 24)))
                    have HQ13 := Lib.hid (range_fr HQ11.out (hF13.alloc (.cells #[.int .u8 0, .int .u8 0, .int .u8 0, .int .u8 0, .int .u8 0, .int .u8 0, .int .u8 0, .int .u8 0, .int .u8 0, .int .u8 0, .int .u8 0, .int .u8 0, .int .u8 0, .int .u8 0, .int .u8 0, .int .u8 0, .int .u8 0, .int .u8 0, .int .u8 0, .int .u8 0, .int .u8 0, .int .u8 0, .int .u8 0, .int .u8 0, .int .u8 0, .int .u8 0, .int .u8 0, .int .u8 0, .int .u8 0, .int .u8 0, .int .u8 0, .int .u8 0] 24)) Hw11.out (fun _ h => h))
                    clear hF13
                    go_upto_region 25 with ((with_reducible refine wpList_store_new (w := w13) rfl 24 _ _ rfl _ #[.int .u8 0, .int .u8 0, .int .u8 0, .int .u8 0, .int .u8 0, .int .u8 0, .int .u8 0, .int .u8 0, .int .u8 0, .int .u8 0, .int .u8 0, .int .u8 0, .int .u8 0, .int .u8 0, .int .u8 0, .int .u8 0, .int .u8 0, .int .u8 0, .int .u8 0, .int .u8 0, .int .u8 0, .int .u8 0, .int .u8 0, .int .u8 0, .int .u8 0, .int .u8 0, .int .u8 0, .int .u8 0, .int .u8 0, .int .u8 0, .int .u8 0, .int .u8 0] w13.heap.size rfl ?_ ?_ z32_size z32_eq z32_all ?_); rfl; rfl)
                    change Code.wp _ _ _ _ (w13.alloc (.cells #[.int .u8 0, .int .u8 0, .int .u8 0, .int .u8 0, .int .u8 0, .int .u8 0, .int .u8 0, .int .u8 0, .int .u8 0, .int .u8 0, .int .u8 0, .int .u8 0, .int .u8 0, .int .u8 0, .int .u8 0, .int .u8 0, .int .u8 0, .int .u8 0, .int .u8 0, .int .u8 0, .int .u8 0, .int .u8 0, .int .u8 0, .int .u8 0, .int .u8 0, .int .u8 0, .int .u8 0, .int .u8 0, .int .u8 0, .int .u8 0, .int .u8 0, .int .u8 0] 24))
                    obtain ⟨w14, hw14⟩ : ∃ V, w13.alloc (.cells #[.int .u8 0, .int .u8 0, .int .u8 0, .int .u8 0, .int .u8 0, .int .u8 0, .int .u8 0, .int .u8 0, .int .u8 0, .int .u8 0, .int .u8 0, .int .u8 0, .int .u8 0, .int .u8 0, .int .u8 0, .int .u8 0, .int .u8 0, .int .u8 0, .int .u8 0, .int .u8 0, .int .u8 0, .int .u8 0, .int .u8 0, .int .u8 0, .int .u8 0, .int .u8 0, .int .u8 0, .int .u8 0, .int .u8 0, .int .u8 0, .int .u8 0, .int .u8 0] 24) = V := ⟨_, rfl⟩
                    rw [hw14] at HF13 HQ13 ⊢
                    clear hw14
                    go_wp2_with (with_reducible refine wpList_load_mid rfl 24 _ rfl qx 0 rfl XC (.array 32 5) HQ13.out Tryz.underKey rfl Hxz.out ?_)
                    refine (Hspent.out _ HF13.out).mono ?_
                    rintro r w15 ⟨rfl, hF15⟩
                    have HF15 := Lib.hid (HF13.out.trans' hF15)
                    clear hF15
                    go_wp2_with fail
                    refine (His.out _).mono ?_
                    rintro r w16 ⟨rfl, rfl⟩
                    go_wp2_with fail
                    go_roundg (gk - 1)
                    case measure => omega
                    case rel => exact ⟨cn', _, by have := Hlt.out; omega, Lib.hid (Hrb.out.fr HF15.out), Lib.hid (HFi.out.trans' HF15.out)⟩
          · obtain ⟨w7, hup, hm7, hg7⟩ := Hgo6.out.store (K := keyK) Tryz.underlying35 (by have := Hi60.out; unfold maxLen; omega) Hol.out (.bool true)
            replace hup : (Instr.mapUpdate 35 (.map (some bg)) (.agg (Lib.byteCells old).toArray) (.bool true)).run Tryz.prog w6 = .ok () w7 := hup
            rw [HKO.out] at hup
            have hF67 : Fr (fun k _ => k = bg) w6 w7 := (Fr.ofGrown hg7).mono (fun _ _ h => Option.some.inj h)
            go_upto_region 17 with (with_reducible refine wpList_load_mid rfl 24 _ rfl q8 0 rfl KO (.array 32 5) HQ86.out Tryz.underKey rfl hz0.out ?_)
            change Code.wp _ _ _ _ w7
            have HGO7 := Lib.hid hm7
            have hgv7 : ∀ k : Bs, k.length = 32 → upd gm old (some (.bool true)) k = if gone7 k then some (.bool true) else none := fun k hk => by
              rw [← Hgone7.out]
              simp only [if_true]
              unfold upd
              by_cases he : k = old
              · rw [if_pos he, if_pos he]; rfl
              · rw [if_neg he, if_neg he]; exact HO.out.gov k hk
            have HGV7 := Lib.hid hgv7
            have nbg : ∀ k o, (k = tb ∨ k = base ∨ k = bl ∨ (base ≤ k ∧ OfTy 117 o)) → w6.heap[k]? = some o → ¬ k = bg := fun k o hk ho hb => by
              subst hb
              have hap := HN.out.ap
              rcases hk with h | h | h | ⟨-, h⟩
              · omega
              · omega
              · omega
              · exact key_not_chg Hgo6.out ho h
            have HT7 : Hid (TBL base tb (i + 1) base bl (st.t.came e i) g6 lv6 w7) := Lib.hid (by
              refine ⟨HT6.out.old, hF67.block _ _ HT6.out.cells (fun h => HN.out.ap.2.2.2.2.2.2 h), HT6.out.low, HT6.out.ch.fr hF67 (fun _ h => HN.out.ap.2.2.1 h.symm), HT6.out.li.fr hF67 (fun _ h => HN.out.ap.2.2.2.1 h.symm), HT6.out.life, fun x hx => ?_, HT6.out.apart, HT6.out.few, HT6.out.keys⟩
              have hr := HT6.out.rows x hx
              refine ⟨hr.1, hr.2.imp id ?_⟩
              rintro ⟨g', cap, cur, e1, e2, e3, e4⟩
              exact ⟨g', cap, cur, e1, e2, hF67.block _ _ e3 (fun hb => nbg _ _ (.inr (.inr (.inr ⟨e2, _, _, rfl⟩))) e3 hb), e4⟩)
            have HTI7 : Hid (MapB keyK w7 bt i tm) := Lib.hid (Hti6.out.fr hF67 (fun _ h => HN.out.ap.2.2.2.2.1 h))
            have hlo := HN.out.lo
            have hold := HN.out.old
            have HF7 : Hid (Fr NoB w w7) := Lib.hid (HF66.out.trans hF67 (fun k _ h => .inr (by have h2 : k = bg := h; omega)))
            have Hgl7 : Hid (Gl w7) := Lib.hid (Hgl6.out.fr hF67 (fun k _ _ h => by have h2 : k = bg := h; have := HN.out.ng; omega))
            have k357 := Fr.cell hF67 k356 (fun _ h => by have h2 : q = bg := h; have := Hqg.out; omega)
            have HkK7 := Lib.hid (range_fr HkK6.out hF67 Hq6.out (fun _ h => by have h2 : q = bg := h; have := Hqg.out; omega))
            have Hq7 := Lib.hid (Nat.lt_of_lt_of_le Hq6.out hF67.size)
            clear hup hm7 hg7 hF67 hgv7 nbg hlo hold k356
            by_cases h3 : op = 3
            · subst h3
              have e3 : ((3 : Int) != 3) = false := rfl
              have hS' : st.step psub e i = ⟨st.t.came e i, st.times, gone7⟩ := by rw [HRs.out, if_pos rfl]
              have HS := Lib.hid hS'
              have HTI9 := Lib.hid (HTI7.out.mono (Nat.le_succ i))
              have htv9 := HO.out.tiv
              have HTV9 := Lib.hid htv9
              clear hS' htv9 HTI7
              go_upto_region 21 with (fail)
              change Code.wp _ _ _ _ w7
              obtain ⟨w10, hrun, ⟨cnt, hrb⟩, hg10, -⟩ := HGO7.out.range (K := keyK) (w := w7) Tryz.underlying35
              have hF10 : Fr NoB w7 w10 := (Fr.ofGrown hg10).mono (fun _ _ h => by cases h)
              have HR10 := Lib.hid hrb
              have HF10 := Lib.hid hF10
              clear hrb hF10 hg10
              go_wp2_with fail
              obtain ⟨rr, hrr⟩ : ∃ x, (w7).heap.size = x := ⟨_, rfl⟩
              rw [hrr] at HR10 ⊢
              have Hrr := Lib.hid hrr
              clear hrun hrr
              go_loopg [] (cnt + 1) (fun gf wr => ∃ (cn : Nat) (left : Bs → Bool), cn + 1 ≤ gf ∧ Hid (RangeB keyK wr bg rr (i + 1) (upd gm old (some (.bool true))) left cn) ∧ Hid (Fr NoB w7 wr))
              case atStart => exact ⟨cnt, _, Nat.le_refl _, HR10, HF10⟩
              case round =>
                obtain ⟨cn, left, hcn, HRg, HFr⟩ := hrel
                rcases HRg.out.next 0 with ⟨h0, hl, hrun⟩ | ⟨x, v, w11, cn', hx, hlx, hMx, hrun, hrb, hlt', hgr, hsz, hen⟩
                · have hwr : wrap64 ((i : Int) + 1) = (i : Int) + 1 := by have := Hi60.out; unfold wrap64; omega
                  go_wp2_with fail
                  go_roundg (gko - 1)
                  case measure => omega
                  case rel =>
                    refine ⟨i + 1, by simp [hwr], by omega, by omega, st.step psub e i, g6, lv6, tm, (upd gm old (some (.bool true))), Lib.hid ⟨HokS.out.1, ?_, ?_, ?_, HRg.out.map, ?_, HF7.out.trans' HFr.out, Hgl7.out.fr HFr.out (fun _ _ _ h => h.elim)⟩⟩
                    · rw [HS.out]; exact HT7.out.keep HFr.out
                    · exact HTI9.out.fr HFr.out (fun _ h => h)
                    · rw [HS.out]; exact HTV9.out
                    · rw [HS.out]; exact HGV7.out
                · have hgone : gone7 x = true := by
                    have h1 := HGV7.out x hx
                    rw [hMx] at h1
                    by_cases hg : gone7 x = true
                    · exact hg
                    · rw [if_neg hg] at h1; cases h1
                  have hlife : (st.t.came e i).life x = 2 := by
                    have h1 := HokS.out.1
                    rw [HS.out] at h1
                    exact h1.2.2 x hgone
                  have hFi : Fr NoB w7 w11 := HFr.out.trans (Fr.ofGrown hgr) (fun k _ hm => .inr (by
                    have h2 : some k = some rr := hm
                    injection h2 with h2
                    have := Hrr.out
                    omega))
                  have hTi := HT7.out.keep hFi
                  have hkey := fun V (hV : Fr NoB w11 V) => key_c ⟨[], x, zero64⟩ V (hTi.keep hV) ⟨hx, rfl⟩ (Nat.zero_le _)
                  simp only [key_spent hlife] at hkey
                  have hspent := fun V (hV : Fr NoB w11 V) => spent_c x V (hTi.keep hV) hx
                  rw [hlife] at hspent
                  have hb1 := built_key x hx
                  have hsgz := Sg.size (s := ⟨[], x, zero64⟩) ⟨hx, rfl⟩
                  have hx1 := all_oneCell_toArray (cells_one x)
                  have hxl : (Lib.byteCells x).length = 32 := by rw [byteCells_len]; exact hx
                  obtain ⟨XC, hXC⟩ : ∃ C, Lib.byteCells x = C := ⟨_, rfl⟩
                  obtain ⟨SC, hSC⟩ : ∃ C, Sg.cells ⟨[], x, zero64⟩ = C := ⟨_, rfl⟩
                  simp only [hXC] at hspent hb1 hx1 hxl
                  simp only [hSC] at hkey hb1
                  have hkx : (keyK.kv x) = .agg XC.toArray := by rw [← hXC]; rfl
                  rw [hkx] at hrun hen
                  rw [show (Lib.byteCells zero32).toArray = #[.int .u8 0, .int .u8 0, .int .u8 0, .int .u8 0, .int .u8 0, .int .u8 0, .int .u8 0, .int .u8 0, .int .u8 0, .int .u8 0, .int .u8 0, .int .u8 0, .int .u8 0, .int .u8 0, .int .u8 0, .int .u8 0, .int .u8 0, .int .u8 0, .int .u8 0, .int .u8 0, .int .u8 0, .int .u8 0, .int .u8 0, .int .u8 0, .int .u8 0, .int .u8 0, .int .u8 0, .int .u8 0, .int .u8 0, .int .u8 0, .int .u8 0, .int .u8 0] from rfl] at hkey
                  simp only [show errV 8 = .iface 56 (.int .i64 8) from rfl] at hkey
                  have Hkey := Lib.hid hkey
                  have Hspent := Lib.hid hspent
                  have Hb1 := Lib.hid hb1
                  have Hx1 := Lib.hid hx1
                  have Hxz : Hid ((Tryz.prog.info? 24).map (·.size) = some XC.length) := Lib.hid (by rw [hxl, Tryz.sizeKey])
                  have Hxz2 : Hid ((Tryz.prog.info? 24).map (·.size) = some XC.toArray.size) := Lib.hid (by rw [List.size_toArray, hxl, Tryz.sizeKey])
                  have Hxz3 : Hid ((#[.int .u8 0, .int .u8 0, .int .u8 0, .int .u8 0, .int .u8 0, .int .u8 0, .int .u8 0, .int .u8 0, .int .u8 0, .int .u8 0, .int .u8 0, .int .u8 0, .int .u8 0, .int .u8 0, .int .u8 0, .int .u8 0, .int .u8 0, .int .u8 0, .int .u8 0, .int .u8 0, .int .u8 0, .int .u8 0, .int .u8 0, .int .u8 0, .int .u8 0, .int .u8 0, .int .u8 0, .int .u8 0, .int .u8 0, .int .u8 0, .int .u8 0, .int .u8 0] : Array Value).size = XC.toArray.size) := Lib.hid (by rw [show XC.toArray.size = 32 by rw [List.size_toArray, hxl]]; rfl)
                  have His := Lib.hid (fun V => numIs_c 8 8 (by omega) V)
                  simp only [show errV 8 = .iface 56 (.int .i64 8) from rfl] at His
                  have HFi := Lib.hid hFi
                  have Hrb := Lib.hid hrb
                  have Hlt := Lib.hid hlt'
                  clear hkey hspent hb1 hx1 hxl hXC hSC hkx hFi hrb hlt' hgr hsz hgone hlife hMx hlx hsgz hTi HFr HRg
                  have hq11 := range_block (heap_alloc_new w11 (.cells XC.toArray 24))
                  rw [List.toList_toArray] at hq11
                  have HQ11 := Lib.hid hq11
                  have HFa : Hid (Fr NoB w11 (w11.alloc (.cells XC.toArray 24))) := Lib.hid (Fr.refl.alloc _)
                  have hw11 : w11.heap.size < (w11.alloc (.cells XC.toArray 24)).heap.size := by rw [World.size_alloc]; omega
                  have Hw11 := Lib.hid hw11
                  clear hq11 hw11
                  go_upto_region 24 with ((with_reducible refine wpList_store_new (w := w11) rfl 24 _ _ rfl _ XC.toArray w11.heap.size rfl ?_ ?_ Hxz2.out Hxz3.out Hx1.out ?_); rfl; rfl)
                  change Code.wp _ _ _ _ (w11.alloc (.cells XC.toArray 24))
                  obtain ⟨w12, hw12⟩ : ∃ V, w11.alloc (.cells XC.toArray 24) = V := ⟨_, rfl⟩
                  obtain ⟨qx, hqx⟩ : ∃ V, w11.heap.size = V := ⟨_, rfl⟩
                  rw [hw12, hqx] at HQ11 Hw11
                  rw [hw12] at HFa
                  rw [hw12, hqx]
                  clear hw12 hqx hrun hen
                  go_wp2_with (first
                    | (with_reducible refine wpList_load_mid rfl 24 _ rfl qx 0 rfl XC (.array 32 5) HQ11.out Tryz.underKey rfl Hxz.out ?_)
                    | ((with_reducible refine wpList_buildTo ?_ 54 _ rfl _ rfl SC ?_ ?_); rfl; (refine Eq.trans (congrArg (Tryz.prog.built 54) ?_) Hb1.out; kernel_rfl)))
                  refine (Hkey.out _ HFa.out).mono ?_
                  rintro r w13 ⟨rfl, hF13⟩
                  have HF13 := Lib.hid (HFa.out.trans' (hF13.alloc (.cells #[.int .u8 0, .int .u8 0, .int .u8 0, .int .u8 0, .int .u8 0, .int .u8 0, .int .u8 0, .int .u8 0, .int .u8 0, .int .u8 0, .int .u8 0, .int .u8 0, .int .u8 0, .int .u8 0, .int .u8 0, .int .u8 0, .int .u8 0, .int .u8 0, .int .u8 0, .int .u8 0, .int .u8 0, .int .u8 0, .int .u8 0, .int .u8 0, .int .u8 0, .int .u8 0, .int .u8 0, .int .u8 0, .int .u8 0, .int .u8 0, .int .u8 0, .int .u8 0] 24)))
                  have HQ13 := Lib.hid (range_fr HQ11.out (hF13.alloc (.cells #[.int .u8 0, .int .u8 0, .int .u8 0, .int .u8 0, .int .u8 0, .int .u8 0, .int .u8 0, .int .u8 0, .int .u8 0, .int .u8 0, .int .u8 0, .int .u8 0, .int .u8 0, .int .u8 0, .int .u8 0, .int .u8 0, .int .u8 0, .int .u8 0, .int .u8 0, .int .u8 0, .int .u8 0, .int .u8 0, .int .u8 0, .int .u8 0, .int .u8 0, .int .u8 0, .int .u8 0, .int .u8 0, .int .u8 0, .int .u8 0, .int .u8 0, .int .u8 0] 24)) Hw11.out (fun _ h => h))
                  clear hF13
                  go_upto_region 25 with ((with_reducible refine wpList_store_new (w := w13) rfl 24 _ _ rfl _ #[.int .u8 0, .int .u8 0, .int .u8 0, .int .u8 0, .int .u8 0, .int .u8 0, .int .u8 0, .int .u8 0, .int .u8 0, .int .u8 0, .int .u8 0, .int .u8 0, .int .u8 0, .int .u8 0, .int .u8 0, .int .u8 0, .int .u8 0, .int .u8 0, .int .u8 0, .int .u8 0, .int .u8 0, .int .u8 0, .int .u8 0, .int .u8 0, .int .u8 0, .int .u8 0, .int .u8 0, .int .u8 0, .int .u8 0, .int .u8 0, .int .u8 0, .int .u8 0] w13.heap.size rfl ?_ ?_ z32_size z32_eq z32_all ?_); rfl; rfl)
                  change Code.wp _ _ _ _ (w13.alloc (.cells #[.int .u8 0, .int .u8 0, .int .u8 0, .int .u8 0, .int .u8 0, .int .u8 0, .int .u8 0, .int .u8 0, .int .u8 0, .int .u8 0, .int .u8 0, .int .u8 0, .int .u8 0, .int .u8 0, .int .u8 0, .int .u8 0, .int .u8 0, .int .u8 0, .int .u8 0, .int .u8 0, .int .u8 0, .int .u8 0, .int .u8 0, .int .u8 0, .int .u8 0, .int .u8 0, .int .u8 0, .int .u8 0, .int .u8 0, .int .u8 0, .int .u8 0, .int .u8 0] 24))
                  obtain ⟨w14, hw14⟩ : ∃ V, w13.alloc (.cells #[.int .u8 0, .int .u8 0, .int .u8 0, .int .u8 0, .int .u8 0, .int .u8 0, .int .u8 0, .int .u8 0, .int .u8 0, .int .u8 0, .int .u8 0, .int .u8 0, .int .u8 0, .int .u8 0, .int .u8 0, .int .u8 0, .int .u8 0, .int .u8 0, .int .u8 0, .int .u8 0, .int .u8 0, .int .u8 0, .int .u8 0, .int .u8 0, .int .u8 0, .int .u8 0, .int .u8 0, .int .u8 0, .int .u8 0, .int .u8 0, .int .u8 0, .int .u8 0] 24) = V := ⟨_, rfl⟩
                  rw [hw14] at HF13 HQ13 ⊢
                  clear hw14
                  go_wp2_with (with_reducible refine wpList_load_mid rfl 24 _ rfl qx 0 rfl XC (.array 32 5) HQ13.out Tryz.underKey rfl Hxz.out ?_)
                  refine (Hspent.out _ HF13.out).mono ?_
                  rintro r w15 ⟨rfl, hF15⟩
                  have HF15 := Lib.hid (HF13.out.trans' hF15)
                  clear hF15
                  go_wp2_with fail
                  refine (His.out _).mono ?_
                  rintro r w16 ⟨rfl, rfl⟩
                  go_wp2_with fail
                  go_roundg (gk - 1)
                  case measure => omega
                  case rel => exact ⟨cn', _, by have := Hlt.out; omega, Lib.hid (Hrb.out.fr HF15.out), Lib.hid (HFi.out.trans' HF15.out)⟩
            · have e3 : (op != 3) = true := by simpa using h3
              go_upto_region 18 with (fail)
              have hok2 : st.times ky = 0 ∧ (st.t.came e i).life ky = 1 := by first | exact HokS.out.2 trivial h3 | exact HokS.out.2 rfl h3
              have htv0 : (tm ky).getD (.int .i64 0) = .int .i64 0 := by rw [HO.out.tiv ky Hkyl.out, hok2.1]
              have hdr7 := HTI7.out.fr (Fr.refl (M := NoB)).drew (fun _ h => h)
              have hi1 : i < maxLen := by have := Hi60.out; unfold maxLen; omega
              have hlk7 := hdr7.look (K := keyK) Tryz.underlying34 (Tryz.zeroI _) Hkyl.out
              obtain ⟨st0, w8, hme, hm8, hg8, hst8⟩ := hdr7.entry2 (K := keyK) Tryz.keyLaw Tryz.underlying34 Tryz.zeroI hi1 Hkyl.out
              rw [htv0] at hlk7 hme hm8
              have hlk8 := hm8.look (K := keyK) Tryz.underlying34 (Tryz.zeroI _) Hkyl.out
              rw [upd_same] at hlk8
              obtain ⟨w9, hes, hm9, hg9⟩ := hst8 w8 (.int .i64 1) ⟨rfl, rfl, rfl, Nat.le_refl _, fun _ _ _ => rfl⟩
              have hlk9 := hm9.look (K := keyK) Tryz.underlying34 (Tryz.zeroI _) Hkyl.out
              rw [upd_same] at hlk9
              have hw1 : IntKind.i64.wrap 1 = 1 := rfl
              replace hes : (Instr.entryStore 34 (.map (some bt)) (.int .i64 st0) (.int .i64 1)).run Tryz.prog w8 = .ok () w9 := hes
              have hkv : keyK.kv ky = .agg KYC.toArray := by rw [← HKYC.out]; rfl
              rw [hkv] at hlk7 hme hlk8 hlk9
              have hg89 : Fr (fun k _ => k = bt) w8 w9 := (Fr.ofGrown hg9).mono (fun _ _ h => Option.some.inj h)
              have hg78 : Fr (fun k _ => k = bt) w7.drew w8 := (Fr.ofGrown hg8).mono (fun _ _ h => Option.some.inj h)
              have Hg89 := Lib.hid hg89
              have Hg78 := Lib.hid hg78
              have HM9 := Lib.hid hm9
              have Hok2 := Lib.hid hok2
              have HS : Hid (st.step psub e i = ⟨st.t.came e i, upd st.times ky 1, gone7⟩) := Lib.hid (by rw [HRs.out, if_neg h3, hok2.1]; rfl)
              have HTV9 : Hid (∀ k : Bs, k.length = 32 → (upd tm ky (some (.int .i64 1)) k).getD (.int .i64 0) = .int .i64 (upd st.times ky 1 k)) := Lib.hid (fun k hk => by
                unfold upd
                by_cases he : k = ky
                · rw [if_pos he, if_pos he]; rfl
                · rw [if_neg he, if_neg he]; exact HO.out.tiv k hk)
              simp only [Option.getD_some] at hlk8 hlk9
              clear hst8 hdr7 hm8 hm9 hg8 hg9 hkv hg89 hg78 hok2 htv0 hi1 h3
              refine wp_region_held_drew (S := fun V => Hid (Fr (fun k _ => k = bt) w7 V)) (by kernel_rfl) (Lib.hid Fr.refl.drew) (fun hHeld => ?_)
              simp only [List.size_toArray, List.length_cons, List.length_nil]
              refine wpAnyH_take (i := 0) (v := ?_) rfl (by kernel_rfl) (by kernel_rfl) (by kernel_rfl) (fun _ _ _ h => h) (Or.inl ⟨by rfl, ?_⟩) hHeld ?_
              rotate_left
              · intro W hSw
                try simp only [qG, qG0, qG1]
                go_simp
                try rw [if_neg (by omega)]
                try with_reducible rfl
              try simp only [Act.put, qS, qS0, qS1, qG, qG0, qG1]
              refine wpAnyH_take (i := 1) (v := ?_) rfl (by kernel_rfl) (by kernel_rfl) (by kernel_rfl) (fun _ _ _ h => h) (Or.inl ⟨by rfl, ?_⟩) hHeld ?_
              rotate_left
              · intro W hSw
                try simp only [qG, qG0, qG1]
                go_simp
                try rw [if_neg (by omega)]
                try with_reducible rfl
              try simp only [Act.put, qS, qS0, qS1, qG, qG0, qG1]
              refine wpAnyH_take (i := 2) (v := ?_) rfl (by kernel_rfl) (by kernel_rfl) (by kernel_rfl) (fun _ _ _ h => h) (Or.inl ⟨by rfl, ?_⟩) hHeld ?_
              rotate_left
              · intro W hSw
                try simp only [qG, qG0, qG1]
                go_simp
                try rw [if_neg (by omega)]
                try with_reducible rfl
              try simp only [Act.put, qS, qS0, qS1, qG, qG0, qG1]
              refine wpAnyH_take (i := 3) rfl (by kernel_rfl) (by kernel_rfl) (by kernel_rfl) (fun _ _ _ h => h) (yieldsIf_load_mid (by rfl) 24 _ rfl q 37 rfl KYC (.array 32 5) (fun V h => range_fr HkK7.out h.out Hq7.out (fun _ h => by have h2 : q = bt := h; have := Hqg.out; omega)) Tryz.underKey rfl Hkyz.out) hHeld ?_
              try simp only [Act.put, qS, qS0, qS1, qG, qG0, qG1]
              refine wpAnyH_ready (rs := [4, 6]) (by kernel_rfl) (by simp) (AllReadyH.cons rfl (fun K hK => ?_) (AllReadyH.cons rfl (fun K hK => ?_) AllReadyH.nil))
              · try simp only [qG, qG0, qG1]
                go_simp
                refine hK.out _ _ (Lib.hid hHeld.out) (fun hHeld => ?_)
                clear hK K
                try simp only [Act.put, qS, qS0, qS1, qG, qG0, qG1]
                refine wpAnyH_take (i := 5) (v := ?_) rfl (by kernel_rfl) (by kernel_rfl) (by kernel_rfl) (fun _ _ _ h => h) (Or.inl ⟨by rfl, ?_⟩) hHeld ?_
                rotate_left
                · intro W hSw
                  try simp only [qG, qG0, qG1]
                  go_simp
                  try rw [if_neg (by omega)]
                  try with_reducible rfl
                try simp only [Act.put, qS, qS0, qS1, qG, qG0, qG1]
                refine wpAnyH_ready (rs := [6]) (by kernel_rfl) (by simp) (AllReadyH.cons rfl (fun K hK => ?_) AllReadyH.nil)
                try simp only [qG, qG0, qG1]
                go_simp
                skip
                refine hK.out _ _ (Lib.hid (hHeld.out.trans' Hg78.out)) (fun hHeld => ?_)
                clear hK K
                try simp only [Act.put, qS, qS0, qS1, qG, qG0, qG1]
                refine wpAnyH_take (i := 7) (v := ?_) rfl (by kernel_rfl) (by kernel_rfl) (by kernel_rfl) (fun _ _ _ h => h) (Or.inl ⟨by rfl, ?_⟩) hHeld ?_
                rotate_left
                · intro W hSw
                  try simp only [qG, qG0, qG1]
                  go_simp
                  try rw [if_neg (by omega)]
                  try with_reducible rfl
                try simp only [Act.put, qS, qS0, qS1, qG, qG0, qG1]
                refine wpAnyH_ready (rs := [8]) (by kernel_rfl) (by simp) (AllReadyH.cons rfl (fun K hK => ?_) AllReadyH.nil)
                try simp only [qG, qG0, qG1]
                go_simp
                skip
                refine hK.out _ _ (Lib.hid (hHeld.out.trans' Hg89.out)) (fun hHeld => ?_)
                clear hK K
                try simp only [Act.put, qS, qS0, qS1, qG, qG0, qG1]
                refine wpAnyH_done (by kernel_rfl) ?_ _
                have hF79 := hHeld.out
                clear hHeld hlk7 hlk8 hme hes
                go_upto_region 19 with (fail)
                change Code.wp _ _ _ _ w9
                have HT9 := Lib.hid (HT7.out.mapfr HTI7.out hF79 HN.out.ap.1 HN.out.ap.2.1 HN.out.ap.2.2.2.2.2.1)
                have HGO9 : Hid (MapB keyK w9 bg (i + 1) (upd gm old (some (.bool true)))) := Lib.hid (HGO7.out.fr hF79 (fun _ h => HN.out.ap.2.2.2.2.1 (show bg = bt from h).symm))
                have hlo := HN.out.lo
                have hold := HN.out.old
                have HF9 : Hid (Fr NoB w w9) := Lib.hid (HF7.out.trans hF79 (fun k _ h => .inr (by have h2 : k = bt := h; omega)))
                have Hgl9 : Hid (Gl w9) := Lib.hid (Hgl7.out.fr hF79 (fun k _ _ h => by have h2 : k = bt := h; have := HN.out.ng; omega))
                have HkK9 := Lib.hid (range_fr HkK7.out hF79 Hq7.out (fun _ h => by have h2 : q = bt := h; have := Hqg.out; omega))
                have hsp := spent_c ky w9 HT9.out Hkyl.out
                rw [Hok2.out.2, HKYC.out] at hsp
                simp only [show ((1 : Int) == 2) = false from rfl] at hsp
                have Hsp := Lib.hid hsp
                have e11 : decide ((1 : Int) < 1) = false := rfl
                clear hF79 hlo hold hsp HT7 HTI7 HGO7 HF7 Hgl7 HkK7 Hq7
                go_wp2_with (first
                  | (with_reducible refine wpList_load_mid rfl 24 _ rfl q 37 rfl KYC (.array 32 5) HkK9.out Tryz.underKey rfl Hkyz.out ?_)
                  | (with_reducible refine wpList_load_g 24 _ rfl q 37 rfl KYC (.array 32 5) HkK9.out Tryz.underKey rfl Hkyz.out rfl ?_))
                refine Hsp.out.mono ?_
                rintro r w9b ⟨rfl, hF9b⟩
                have HT7 := Lib.hid (HT9.out.keep hF9b)
                have HGO7 := Lib.hid (HGO9.out.fr hF9b (fun _ h => h))
                have HF7 := Lib.hid (HF9.out.trans' hF9b)
                have Hgl7 := Lib.hid (Hgl9.out.fr hF9b (fun _ _ _ h => h.elim))
                have HTI9 := Lib.hid (HM9.out.fr hF9b (fun _ h => h))
                clear hF9b HT9 HGO9 HF9 Hgl9 HkK9 Hsp hlk9 HM9
                go_upto_region 21 with (fail)
                change Code.wp _ _ _ _ w9b
                obtain ⟨w10, hrun, ⟨cnt, hrb⟩, hg10, -⟩ := HGO7.out.range (K := keyK) (w := w9b) Tryz.underlying35
                have hF10 : Fr NoB w9b w10 := (Fr.ofGrown hg10).mono (fun _ _ h => by cases h)
                have HR10 := Lib.hid hrb
                have HF10 := Lib.hid hF10
                clear hrb hF10 hg10
                go_wp2_with fail
                obtain ⟨rr, hrr⟩ : ∃ x, (w9b).heap.size = x := ⟨_, rfl⟩
                rw [hrr] at HR10 ⊢
                have Hrr := Lib.hid hrr
                clear hrun hrr
                go_loopg [] (cnt + 1) (fun gf wr => ∃ (cn : Nat) (left : Bs → Bool), cn + 1 ≤ gf ∧ Hid (RangeB keyK wr bg rr (i + 1) (upd gm old (some (.bool true))) left cn) ∧ Hid (Fr NoB w9b wr))
                case atStart => exact ⟨cnt, _, Nat.le_refl _, HR10, HF10⟩
                case round =>
                  obtain ⟨cn, left, hcn, HRg, HFr⟩ := hrel
                  rcases HRg.out.next 0 with ⟨h0, hl, hrun⟩ | ⟨x, v, w11, cn', hx, hlx, hMx, hrun, hrb, hlt', hgr, hsz, hen⟩
                  · have hwr : wrap64 ((i : Int) + 1) = (i : Int) + 1 := by have := Hi60.out; unfold wrap64; omega
                    go_wp2_with fail
                    go_roundg (gko - 1)
                    case measure => omega
                    case rel =>
                      refine ⟨i + 1, by simp [hwr], by omega, by omega, st.step psub e i, g6, lv6, (upd tm ky (some (.int .i64 1))), (upd gm old (some (.bool true))), Lib.hid ⟨HokS.out.1, ?_, ?_, ?_, HRg.out.map, ?_, HF7.out.trans' HFr.out, Hgl7.out.fr HFr.out (fun _ _ _ h => h.elim)⟩⟩
                      · rw [HS.out]; exact HT7.out.keep HFr.out
                      · exact HTI9.out.fr HFr.out (fun _ h => h)
                      · rw [HS.out]; exact HTV9.out
                      · rw [HS.out]; exact HGV7.out
                  · have hgone : gone7 x = true := by
                      have h1 := HGV7.out x hx
                      rw [hMx] at h1
                      by_cases hg : gone7 x = true
                      · exact hg
                      · rw [if_neg hg] at h1; cases h1
                    have hlife : (st.t.came e i).life x = 2 := by
                      have h1 := HokS.out.1
                      rw [HS.out] at h1
                      exact h1.2.2 x hgone
                    have hFi : Fr NoB w9b w11 := HFr.out.trans (Fr.ofGrown hgr) (fun k _ hm => .inr (by
                      have h2 : some k = some rr := hm
                      injection h2 with h2
                      have := Hrr.out
                      omega))
                    have hTi := HT7.out.keep hFi
                    have hkey := fun V (hV : Fr NoB w11 V) => key_c ⟨[], x, zero64⟩ V (hTi.keep hV) ⟨hx, rfl⟩ (Nat.zero_le _)
                    simp only [key_spent hlife] at hkey
                    have hspent := fun V (hV : Fr NoB w11 V) => spent_c x V (hTi.keep hV) hx
                    rw [hlife] at hspent
                    have hb1 := built_key x hx
                    have hsgz := Sg.size (s := ⟨[], x, zero64⟩) ⟨hx, rfl⟩
                    have hx1 := all_oneCell_toArray (cells_one x)
                    have hxl : (Lib.byteCells x).length = 32 := by rw [byteCells_len]; exact hx
                    obtain ⟨XC, hXC⟩ : ∃ C, Lib.byteCells x = C := ⟨_, rfl⟩
                    obtain ⟨SC, hSC⟩ : ∃ C, Sg.cells ⟨[], x, zero64⟩ = C := ⟨_, rfl⟩
                    simp only [hXC] at hspent hb1 hx1 hxl
                    simp only [hSC] at hkey hb1
                    have hkx : (keyK.kv x) = .agg XC.toArray := by rw [← hXC]; rfl
                    rw [hkx] at hrun hen
                    rw [show (Lib.byteCells zero32).toArray = #[.int .u8 0, .int .u8 0, .int .u8 0, .int .u8 0, .int .u8 0, .int .u8 0, .int .u8 0, .int .u8 0, .int .u8 0, .int .u8 0, .int .u8 0, .int .u8 0, .int .u8 0, .int .u8 0, .int .u8 0, .int .u8 0, .int .u8 0, .int .u8 0, .int .u8 0, .int .u8 0, .int .u8 0, .int .u8 0, .int .u8 0, .int .u8 0, .int .u8 0, .int .u8 0, .int .u8 0, .int .u8 0, .int .u8 0, .int .u8 0, .int .u8 0, .int .u8 0] from rfl] at hkey
                    simp only [show errV 8 = .iface 56 (.int .i64 8) from rfl] at hkey
                    have Hkey := Lib.hid hkey
                    have Hspent := Lib.hid hspent
                    have Hb1 := Lib.hid hb1
                    have Hx1 := Lib.hid hx1
                    have Hxz : Hid ((Tryz.prog.info? 24).map (·.size) = some XC.length) := Lib.hid (by rw [hxl, Tryz.sizeKey])
                    have Hxz2 : Hid ((Tryz.prog.info? 24).map (·.size) = some XC.toArray.size) := Lib.hid (by rw [List.size_toArray, hxl, Tryz.sizeKey])
                    have Hxz3 : Hid ((#[.int .u8 0, .int .u8 0, .int .u8 0, .int .u8 0, .int .u8 0, .int .u8 0, .int .u8 0, .int .u8 0, .int .u8 0, .int .u8 0, .int .u8 0, .int .u8 0, .int .u8 0, .int .u8 0, .int .u8 0, .int .u8 0, .int .u8 0, .int .u8 0, .int .u8 0, .int .u8 0, .int .u8 0, .int .u8 0, .int .u8 0, .int .u8 0, .int .u8 0, .int .u8 0, .int .u8 0, .int .u8 0, .int .u8 0, .int .u8 0, .int .u8 0, .int .u8 0] : Array Value).size = XC.toArray.size) := Lib.hid (by rw [show XC.toArray.size = 32 by rw [List.size_toArray, hxl]]; rfl)
                    have His := Lib.hid (fun V => numIs_c 8 8 (by omega) V)
                    simp only [show errV 8 = .iface 56 (.int .i64 8) from rfl] at His
                    have HFi := Lib.hid hFi
                    have Hrb := Lib.hid hrb
                    have Hlt := Lib.hid hlt'
                    clear hkey hspent hb1 hx1 hxl hXC hSC hkx hFi hrb hlt' hgr hsz hgone hlife hMx hlx hsgz hTi HFr HRg
                    have hq11 := range_block (heap_alloc_new w11 (.cells XC.toArray 24))
                    rw [List.toList_toArray] at hq11
                    have HQ11 := Lib.hid hq11
                    have HFa : Hid (Fr NoB w11 (w11.alloc (.cells XC.toArray 24))) := Lib.hid (Fr.refl.alloc _)
                    have hw11 : w11.heap.size < (w11.alloc (.cells XC.toArray 24)).heap.size := by rw [World.size_alloc]; omega
                    have Hw11 := Lib.hid hw11
                    clear hq11 hw11
                    go_upto_region 24 with ((with_reducible refine wpList_store_new (w := w11) rfl 24 _ _ rfl _ XC.toArray w11.heap.size rfl ?_ ?_ Hxz2.out Hxz3.out Hx1.out ?_); rfl; rfl)
                    change Code.wp _ _ _ _ (w11.alloc (.cells XC.toArray 24))
                    obtain ⟨w12, hw12⟩ : ∃ V, w11.alloc (.cells XC.toArray 24) = V := ⟨_, rfl⟩
                    obtain ⟨qx, hqx⟩ : ∃ V, w11.heap.size = V := ⟨_, rfl⟩
                    rw [hw12, hqx] at HQ11 Hw11
                    rw [hw12] at HFa
                    rw [hw12, hqx]
                    clear hw12 hqx hrun hen
                    go_wp2_with (first
                      | (with_reducible refine wpList_load_mid rfl 24 _ rfl qx 0 rfl XC (.array 32 5) HQ11.out Tryz.underKey rfl Hxz.out ?_)
                      | ((with_reducible refine wpList_buildTo ?_ 54 _ rfl _ rfl SC ?_ ?_); rfl; (refine Eq.trans (congrArg (Tryz.prog.built 54) ?_) Hb1.out; kernel_rfl)))
                    refine (Hkey.out _ HFa.out).mono ?_
                    rintro r w13 ⟨rfl, hF13⟩
                    have HF13 := Lib.hid (HFa.out.trans' (hF13.alloc (.cells #[.int .u8 0, .int .u8 0, .int .u8 0, .int .u8 0, .int .u8 0, .int .u8 0, .int .u8 0, .int .u8 0, .int .u8 0, .int .u8 0, .int .u8 0, .int .u8 0, .int .u8 0, .int .u8 0, .int .u8 0, .int .u8 0, .int .u8 0, .int .u8 0, .int .u8 0, .int .u8 0, .int .u8 0, .int .u8 0, .int .u8 0, .int .u8 0, .int .u8 0, .int .u8 0, .int .u8 0, .int .u8 0, .int .u8 0, .int .u8 0, .int .u8 0, .int .u8 0] 24)))
                    have HQ13 := Lib.hid (range_fr HQ11.out (hF13.alloc (.cells #[.int .u8 0, .int .u8 0, .int .u8 0, .int .u8 0, .int .u8 0, .int .u8 0, .int .u8 0, .int .u8 0, .int .u8 0, .int .u8 0, .int .u8 0, .int .u8 0, .int .u8 0, .int .u8 0, .int .u8 0, .int .u8 0, .int .u8 0, .int .u8 0, .int .u8 0, .int .u8 0, .int .u8 0, .int .u8 0, .int .u8 0, .int .u8 0, .int .u8 0, .int .u8 0, .int .u8 0, .int .u8 0, .int .u8 0, .int .u8 0, .int .u8 0, .int .u8 0] 24)) Hw11.out (fun _ h => h))
                    clear hF13
                    go_upto_region 25 with ((with_reducible refine wpList_store_new (w := w13) rfl 24 _ _ rfl _ #[.int .u8 0, .int .u8 0, .int .u8 0, .int .u8 0, .int .u8 0, .int .u8 0, .int .u8 0, .int .u8 0, .int .u8 0, .int .u8 0, .int .u8 0, .int .u8 0, .int .u8 0, .int .u8 0, .int .u8 0, .int .u8 0, .int .u8 0, .int .u8 0, .int .u8 0, .int .u8 0, .int .u8 0, .int .u8 0, .int .u8 0, .int .u8 0, .int .u8 0, .int .u8 0, .int .u8 0, .int .u8 0, .int .u8 0, .int .u8 0, .int .u8 0, .int .u8 0] w13.heap.size rfl ?_ ?_ z32_size z32_eq z32_all ?_); rfl; rfl)
                    change Code.wp _ _ _ _ (w13.alloc (.cells #[.int .u8 0, .int .u8 0, .int .u8 0, .int .u8 0, .int .u8 0, .int .u8 0, .int .u8 0, .int .u8 0, .int .u8 0, .int .u8 0, .int .u8 0, .int .u8 0, .int .u8 0, .int .u8 0, .int .u8 0, .int .u8 0, .int .u8 0, .int .u8 0, .int .u8 0, .int .u8 0, .int .u8 0, .int .u8 0, .int .u8 0, .int .u8 0, .int .u8 0, .int .u8 0, .int .u8 0, .int .u8 0, .int .u8 0, .int .u8 0, .int .u8 0, .int .u8 0] 24))
                    obtain ⟨w14, hw14⟩ : ∃ V, w13.alloc (.cells #[.int .u8 0, .int .u8 0, .int .u8 0, .int .u8 0, .int .u8 0, .int .u8 0, .int .u8 0, .int .u8 0, .int .u8 0, .int .u8 0, .int .u8 0, .int .u8 0, .int .u8 0, .int .u8 0, .int .u8 0, .int .u8 0, .int .u8 0, .int .u8 0, .int .u8 0, .int .u8 0, .int .u8 0, .int .u8 0, .int .u8 0, .int .u8 0, .int .u8 0, .int .u8 0, .int .u8 0, .int .u8 0, .int .u8 0, .int .u8 0, .int .u8 0, .int .u8 0] 24) = V := ⟨_, rfl⟩
                    rw [hw14] at HF13 HQ13 ⊢
                    clear hw14
                    go_wp2_with (with_reducible refine wpList_load_mid rfl 24 _ rfl qx 0 rfl XC (.array 32 5) HQ13.out Tryz.underKey rfl Hxz.out ?_)
                    refine (Hspent.out _ HF13.out).mono ?_
                    rintro r w15 ⟨rfl, hF15⟩
                    have HF15 := Lib.hid (HF13.out.trans' hF15)
                    clear hF15
                    go_wp2_with fail
                    refine (His.out _).mono ?_
                    rintro r w16 ⟨rfl, rfl⟩
                    go_wp2_with fail
                    go_roundg (gk - 1)
                    case measure => omega
                    case rel => exact ⟨cn', _, by have := Hlt.out; omega, Lib.hid (Hrb.out.fr HF15.out), Lib.hid (HFi.out.trans' HF15.out)⟩
              · try simp only [qG, qG0, qG1]
                go_simp
                refine hK.out _ _ (Lib.hid (hHeld.out.trans' Hg78.out)) (fun hHeld => ?_)
                clear hK K
                try simp only [Act.put, qS, qS0, qS1, qG, qG0, qG1]
                refine wpAnyH_take (i := 7) (v := ?_) rfl (by kernel_rfl) (by kernel_rfl) (by kernel_rfl) (fun _ _ _ h => h) (Or.inl ⟨by rfl, ?_⟩) hHeld ?_
                rotate_left
                · intro W hSw
                  try simp only [qG, qG0, qG1]
                  go_simp
                  try rw [if_neg (by omega)]
                  try with_reducible rfl
                try simp only [Act.put, qS, qS0, qS1, qG, qG0, qG1]
                refine wpAnyH_ready (rs := [4]) (by kernel_rfl) (by simp) (AllReadyH.cons rfl (fun K hK => ?_) AllReadyH.nil)
                try simp only [qG, qG0, qG1]
                go_simp
                skip
                refine hK.out _ _ (Lib.hid hHeld.out) (fun hHeld => ?_)
                clear hK K
                try simp only [Act.put, qS, qS0, qS1, qG, qG0, qG1]
                refine wpAnyH_take (i := 5) (v := ?_) rfl (by kernel_rfl) (by kernel_rfl) (by kernel_rfl) (fun _ _ _ h => h) (Or.inl ⟨by rfl, ?_⟩) hHeld ?_
                rotate_left
                · intro W hSw
                  try simp only [qG, qG0, qG1]
                  go_simp
                  try rw [if_neg (by omega)]
                  try with_reducible rfl
                try simp only [Act.put, qS, qS0, qS1, qG, qG0, qG1]
                refine wpAnyH_ready (rs := [8]) (by kernel_rfl) (by simp) (AllReadyH.cons rfl (fun K hK => ?_) AllReadyH.nil)
                try simp only [qG, qG0, qG1]
                go_simp
                skip
                refine hK.out _ _ (Lib.hid (hHeld.out.trans' Hg89.out)) (fun hHeld => ?_)
                clear hK K
                try simp only [Act.put, qS, qS0, qS1, qG, qG0, qG1]
                refine wpAnyH_done (by kernel_rfl) ?_ _
                have hF79 := hHeld.out
                clear hHeld hlk7 hlk8 hme hes
                go_upto_region 19 with (fail)
                change Code.wp _ _ _ _ w9
                have HT9 := Lib.hid (HT7.out.mapfr HTI7.out hF79 HN.out.ap.1 HN.out.ap.2.1 HN.out.ap.2.2.2.2.2.1)
                have HGO9 : Hid (MapB keyK w9 bg (i + 1) (upd gm old (some (.bool true)))) := Lib.hid (HGO7.out.fr hF79 (fun _ h => HN.out.ap.2.2.2.2.1 (show bg = bt from h).symm))
                have hlo := HN.out.lo
                have hold := HN.out.old
                have HF9 : Hid (Fr NoB w w9) := Lib.hid (HF7.out.trans hF79 (fun k _ h => .inr (by have h2 : k = bt := h; omega)))
                have Hgl9 : Hid (Gl w9) := Lib.hid (Hgl7.out.fr hF79 (fun k _ _ h => by have h2 : k = bt := h; have := HN.out.ng; omega))
                have HkK9 := Lib.hid (range_fr HkK7.out hF79 Hq7.out (fun _ h => by have h2 : q = bt := h; have := Hqg.out; omega))
                have hsp := spent_c ky w9 HT9.out Hkyl.out
                rw [Hok2.out.2, HKYC.out] at hsp
                simp only [show ((1 : Int) == 2) = false from rfl] at hsp
                have Hsp := Lib.hid hsp
                have e11 : decide ((1 : Int) < 1) = false := rfl
                clear hF79 hlo hold hsp HT7 HTI7 HGO7 HF7 Hgl7 HkK7 Hq7
                go_wp2_with (first
                  | (with_reducible refine wpList_load_mid rfl 24 _ rfl q 37 rfl KYC (.array 32 5) HkK9.out Tryz.underKey rfl Hkyz.out ?_)
                  | (with_reducible refine wpList_load_g 24 _ rfl q 37 rfl KYC (.array 32 5) HkK9.out Tryz.underKey rfl Hkyz.out rfl ?_))
                refine Hsp.out.mono ?_
                rintro r w9b ⟨rfl, hF9b⟩
                have HT7 := Lib.hid (HT9.out.keep hF9b)
                have HGO7 := Lib.hid (HGO9.out.fr hF9b (fun _ h => h))
                have HF7 := Lib.hid (HF9.out.trans' hF9b)
                have Hgl7 := Lib.hid (Hgl9.out.fr hF9b (fun _ _ _ h => h.elim))
                have HTI9 := Lib.hid (HM9.out.fr hF9b (fun _ h => h))
                clear hF9b HT9 HGO9 HF9 Hgl9 HkK9 Hsp hlk9 HM9
                go_upto_region 21 with (fail)
                change Code.wp _ _ _ _ w9b
                obtain ⟨w10, hrun, ⟨cnt, hrb⟩, hg10, -⟩ := HGO7.out.range (K := keyK) (w := w9b) Tryz.underlying35
                have hF10 : Fr NoB w9b w10 := (Fr.ofGrown hg10).mono (fun _ _ h => by cases h)
                have HR10 := Lib.hid hrb
                have HF10 := Lib.hid hF10
                clear hrb hF10 hg10
                go_wp2_with fail
                obtain ⟨rr, hrr⟩ : ∃ x, (w9b).heap.size = x := ⟨_, rfl⟩
                rw [hrr] at HR10 ⊢
                have Hrr := Lib.hid hrr
                clear hrun hrr
                go_loopg [] (cnt + 1) (fun gf wr => ∃ (cn : Nat) (left : Bs → Bool), cn + 1 ≤ gf ∧ Hid (RangeB keyK wr bg rr (i + 1) (upd gm old (some (.bool true))) left cn) ∧ Hid (Fr NoB w9b wr))
                case atStart => exact ⟨cnt, _, Nat.le_refl _, HR10, HF10⟩
                case round =>
                  obtain ⟨cn, left, hcn, HRg, HFr⟩ := hrel
                  rcases HRg.out.next 0 with ⟨h0, hl, hrun⟩ | ⟨x, v, w11, cn', hx, hlx, hMx, hrun, hrb, hlt', hgr, hsz, hen⟩
                  · have hwr : wrap64 ((i : Int) + 1) = (i : Int) + 1 := by have := Hi60.out; unfold wrap64; omega
                    go_wp2_with fail
                    go_roundg (gko - 1)
                    case measure => omega
                    case rel =>
                      refine ⟨i + 1, by simp [hwr], by omega, by omega, st.step psub e i, g6, lv6, (upd tm ky (some (.int .i64 1))), (upd gm old (some (.bool true))), Lib.hid ⟨HokS.out.1, ?_, ?_, ?_, HRg.out.map, ?_, HF7.out.trans' HFr.out, Hgl7.out.fr HFr.out (fun _ _ _ h => h.elim)⟩⟩
                      · rw [HS.out]; exact HT7.out.keep HFr.out
                      · exact HTI9.out.fr HFr.out (fun _ h => h)
                      · rw [HS.out]; exact HTV9.out
                      · rw [HS.out]; exact HGV7.out
                  · have hgone : gone7 x = true := by
                      have h1 := HGV7.out x hx
                      rw [hMx] at h1
                      by_cases hg : gone7 x = true
                      · exact hg
                      · rw [if_neg hg] at h1; cases h1
                    have hlife : (st.t.came e i).life x = 2 := by
                      have h1 := HokS.out.1
                      rw [HS.out] at h1
                      exact h1.2.2 x hgone
                    have hFi : Fr NoB w9b w11 := HFr.out.trans (Fr.ofGrown hgr) (fun k _ hm => .inr (by
                      have h2 : some k = some rr := hm
                      injection h2 with h2
                      have := Hrr.out
                      omega))
                    have hTi := HT7.out.keep hFi
                    have hkey := fun V (hV : Fr NoB w11 V) => key_c ⟨[], x, zero64⟩ V (hTi.keep hV) ⟨hx, rfl⟩ (Nat.zero_le _)
                    simp only [key_spent hlife] at hkey
                    have hspent := fun V (hV : Fr NoB w11 V) => spent_c x V (hTi.keep hV) hx
                    rw [hlife] at hspent
                    have hb1 := built_key x hx
                    have hsgz := Sg.size (s := ⟨[], x, zero64⟩) ⟨hx, rfl⟩
                    have hx1 := all_oneCell_toArray (cells_one x)
                    have hxl : (Lib.byteCells x).length = 32 := by rw [byteCells_len]; exact hx
                    obtain ⟨XC, hXC⟩ : ∃ C, Lib.byteCells x = C := ⟨_, rfl⟩
                    obtain ⟨SC, hSC⟩ : ∃ C, Sg.cells ⟨[], x, zero64⟩ = C := ⟨_, rfl⟩
                    simp only [hXC] at hspent hb1 hx1 hxl
                    simp only [hSC] at hkey hb1
                    have hkx : (keyK.kv x) = .agg XC.toArray := by rw [← hXC]; rfl
                    rw [hkx] at hrun hen
                    rw [show (Lib.byteCells zero32).toArray = #[.int .u8 0, .int .u8 0, .int .u8 0, .int .u8 0, .int .u8 0, .int .u8 0, .int .u8 0, .int .u8 0, .int .u8 0, .int .u8 0, .int .u8 0, .int .u8 0, .int .u8 0, .int .u8 0, .int .u8 0, .int .u8 0, .int .u8 0, .int .u8 0, .int .u8 0, .int .u8 0, .int .u8 0, .int .u8 0, .int .u8 0, .int .u8 0, .int .u8 0, .int .u8 0, .int .u8 0, .int .u8 0, .int .u8 0, .int .u8 0, .int .u8 0, .int .u8 0] from rfl] at hkey
                    simp only [show errV 8 = .iface 56 (.int .i64 8) from rfl] at hkey
                    have Hkey := Lib.hid hkey
                    have Hspent := Lib.hid hspent
                    have Hb1 := Lib.hid hb1
                    have Hx1 := Lib.hid hx1
                    have Hxz : Hid ((Tryz.prog.info? 24).map (·.size) = some XC.length) := Lib.hid (by rw [hxl, Tryz.sizeKey])
                    have Hxz2 : Hid ((Tryz.prog.info? 24).map (·.size) = some XC.toArray.size) := Lib.hid (by rw [List.size_toArray, hxl, Tryz.sizeKey])
                    have Hxz3 : Hid ((#[.int .u8 0, .int .u8 0, .int .u8 0, .int .u8 0, .int .u8 0, .int .u8 0, .int .u8 0, .int .u8 0, .int .u8 0, .int .u8 0, .int .u8 0, .int .u8 0, .int .u8 0, .int .u8 0, .int .u8 0, .int .u8 0, .int .u8 0, .int .u8 0, .int .u8 0, .int .u8 0, .int .u8 0, .int .u8 0, .int .u8 0, .int .u8 0, .int .u8 0, .int .u8 0, .int .u8 0, .int .u8 0, .int .u8 0, .int .u8 0, .int .u8 0, .int .u8 0] : Array Value).size = XC.toArray.size) := Lib.hid (by rw [show XC.toArray.size = 32 by rw [List.size_toArray, hxl]]; rfl)
                    have His := Lib.hid (fun V => numIs_c 8 8 (by omega) V)
                    simp only [show errV 8 = .iface 56 (.int .i64 8) from rfl] at His
                    have HFi := Lib.hid hFi
                    have Hrb := Lib.hid hrb
                    have Hlt := Lib.hid hlt'
                    clear hkey hspent hb1 hx1 hxl hXC hSC hkx hFi hrb hlt' hgr hsz hgone hlife hMx hlx hsgz hTi HFr HRg
                    have hq11 := range_block (heap_alloc_new w11 (.cells XC.toArray 24))
                    rw [List.toList_toArray] at hq11
                    have HQ11 := Lib.hid hq11
                    have HFa : Hid (Fr NoB w11 (w11.alloc (.cells XC.toArray 24))) := Lib.hid (Fr.refl.alloc _)
                    have hw11 : w11.heap.size < (w11.alloc (.cells XC.toArray 24)).heap.size := by rw [World.size_alloc]; omega
                    have Hw11 := Lib.hid hw11
                    clear hq11 hw11
                    go_upto_region 24 with ((with_reducible refine wpList_store_new (w := w11) rfl 24 _ _ rfl _ XC.toArray w11.heap.size rfl ?_ ?_ Hxz2.out Hxz3.out Hx1.out ?_); rfl; rfl)
                    change Code.wp _ _ _ _ (w11.alloc (.cells XC.toArray 24))
                    obtain ⟨w12, hw12⟩ : ∃ V, w11.alloc (.cells XC.toArray 24) = V := ⟨_, rfl⟩
                    obtain ⟨qx, hqx⟩ : ∃ V, w11.heap.size = V := ⟨_, rfl⟩
                    rw [hw12, hqx] at HQ11 Hw11
                    rw [hw12] at HFa
                    rw [hw12, hqx]
                    clear hw12 hqx hrun hen
                    go_wp2_with (first
                      | (with_reducible refine wpList_load_mid rfl 24 _ rfl qx 0 rfl XC (.array 32 5) HQ11.out Tryz.underKey rfl Hxz.out ?_)
                      | ((with_reducible refine wpList_buildTo ?_ 54 _ rfl _ rfl SC ?_ ?_); rfl; (refine Eq.trans (congrArg (Tryz.prog.built 54) ?_) Hb1.out; kernel_rfl)))
                    refine (Hkey.out _ HFa.out).mono ?_
                    rintro r w13 ⟨rfl, hF13⟩
                    have HF13 := Lib.hid (HFa.out.trans' (hF13.alloc (.cells #[.int .u8 0, .int .u8 0, .int .u8 0, .int .u8 0, .int .u8 0, .int .u8 0, .int .u8 0, .int .u8 0, .int .u8 0, .int .u8 0, .int .u8 0, .int .u8 0, .int .u8 0, .int .u8 0, .int .u8 0, .int .u8 0, .int .u8 0, .int .u8 0, .int .u8 0, .int .u8 0, .int .u8 0, .int .u8 0, .int .u8 0, .int .u8 0, .int .u8 0, .int .u8 0, .int .u8 0, .int .u8 0, .int .u8 0, .int .u8 0, .int .u8 0, .int .u8 0] 24)))
                    have HQ13 := Lib.hid (range_fr HQ11.out (hF13.alloc (.cells #[.int .u8 0, .int .u8 0, .int .u8 0, .int .u8 0, .int .u8 0, .int .u8 0, .int .u8 0, .int .u8 0, .int .u8 0, .int .u8 0, .int .u8 0, .int .u8 0, .int .u8 0, .int .u8 0, .int .u8 0, .int .u8 0, .int .u8 0, .int .u8 0, .int .u8 0, .int .u8 0, .int .u8 0, .int .u8 0, .int .u8 0, .int .u8 0, .int .u8 0, .int .u8 0, .int .u8 0, .int .u8 0, .int .u8 0, .int .u8 0, .int .u8 0, .int .u8 0] 24)) Hw11.out (fun _ h => h))
                    clear hF13
                    go_upto_region 25 with ((with_reducible refine wpList_store_new (w := w13) rfl 24 _ _ rfl _ #[.int .u8 0, .int .u8 0, .int .u8 0, .int .u8 0, .int .u8 0, .int .u8 0, .int .u8 0, .int .u8 0, .int .u8 0, .int .u8 0, .int .u8 0, .int .u8 0, .int .u8 0, .int .u8 0, .int .u8 0, .int .u8 0, .int .u8 0, .int .u8 0, .int .u8 0, .int .u8 0, .int .u8 0, .int .u8 0, .int .u8 0, .int .u8 0, .int .u8 0, .int .u8 0, .int .u8 0, .int .u8 0, .int .u8 0, .int .u8 0, .int .u8 0, .int .u8 0] w13.heap.size rfl ?_ ?_ z32_size z32_eq z32_all ?_); rfl; rfl)
                    change Code.wp _ _ _ _ (w13.alloc (.cells #[.int .u8 0, .int .u8 0, .int .u8 0, .int .u8 0, .int .u8 0, .int .u8 0, .int .u8 0, .int .u8 0, .int .u8 0, .int .u8 0, .int .u8 0, .int .u8 0, .int .u8 0, .int .u8 0, .int .u8 0, .int .u8 0, .int .u8 0, .int .u8 0, .int .u8 0, .int .u8 0, .int .u8 0, .int .u8 0, .int .u8 0, .int .u8 0, .int .u8 0, .int .u8 0, .int .u8 0, .int .u8 0, .int .u8 0, .int .u8 0, .int .u8 0, .int .u8 0] 24))
                    obtain ⟨w14, hw14⟩ : ∃ V, w13.alloc (.cells #[.int .u8 0, .int .u8 0, .int .u8 0, .int .u8 0, .int .u8 0, .int .u8 0, .int .u8 0, .int .u8 0, .int .u8 0, .int .u8 0, .int .u8 0, .int .u8 0, .int .u8 0, .int .u8 0, .int .u8 0, .int .u8 0, .int .u8 0, .int .u8 0, .int .u8 0, .int .u8 0, .int .u8 0, .int .u8 0, .int .u8 0, .int .u8 0, .int .u8 0, .int .u8 0, .int .u8 0, .int .u8 0, .int .u8 0, .int .u8 0, .int .u8 0, .int .u8 0] 24) = V := ⟨_, rfl⟩
                    rw [hw14] at HF13 HQ13 ⊢
                    clear hw14
                    go_wp2_with (with_reducible refine wpList_load_mid rfl 24 _ rfl qx 0 rfl XC (.array 32 5) HQ13.out Tryz.underKey rfl Hxz.out ?_)
                    refine (Hspent.out _ HF13.out).mono ?_
                    rintro r w15 ⟨rfl, hF15⟩
                    have HF15 := Lib.hid (HF13.out.trans' hF15)
                    clear hF15
                    go_wp2_with fail
                    refine (His.out _).mono ?_
                    rintro r w16 ⟨rfl, rfl⟩
                    go_wp2_with fail
                    go_roundg (gk - 1)
                    case measure => omega
                    case rel => exact ⟨cn', _, by have := Hlt.out; omega, Lib.hid (Hrb.out.fr HF15.out), Lib.hid (HFi.out.trans' HF15.out)⟩
        · simp only [if_neg hR0] at Htk HRs
          have hne := fun W => And.intro (errV_neq R W) (errV_guard R 43 W)
          rw [show decide (R ≠ 0) = true by simpa using hR0] at hne
          obtain ⟨E, hE⟩ : ∃ E, errV R = E := ⟨_, rfl⟩
          rw [hE] at Htk hne
          have Hne := Lib.hid hne
          clear hne hE hR0
          go_wp2_with (with_reducible refine wpList_load_mid rfl 39 _ rfl q 0 rfl EC d HQ5.out Hu.out Hd.out Hez.out ?_)
          refine Htk.out.mono ?_
          rintro r w6 ⟨rfl, ⟨g6, lv6, hT6⟩, hF6⟩
          obtain ⟨hne1, hne2⟩ := Hne.out w6
          have HT6 := Lib.hid hT6
          have HF6 := Lib.hid hF6
          have hwr : wrap64 ((i : Int) + 1) = (i : Int) + 1 := by have := Hl60.out; unfold wrap64; omega
          clear hT6 hF6
          go_wp2_with fail
          have HT5 := HT3.out.keep HF5.out
          have hb5 := HO.out.fr.trans' (HF3.out.trans' HF5.out)
          go_roundg (gko - 1)
          case measure => omega
          case rel =>
            refine ⟨i + 1, by simp [hwr], by omega, by omega, st, g6, lv6, tm, gm, Lib.hid ⟨HO.out.ok, HT6.out, ?_, HO.out.tiv, ?_, HO.out.gov, hb5.took HT5 HN.out.old HF6.out, ?_⟩⟩
            · exact (((HO.out.ti.fr HF3.out (fun _ h => h)).fr HF5.out (fun _ h => h)).took HF6.out HN.out.ap.1 HN.out.ap.2.1).mono (Nat.le_succ _)
            · exact (((HO.out.go.fr HF3.out (fun _ h => h)).fr HF5.out (fun _ h => h)).took HF6.out HN.out.ap.2.2.1 HN.out.ap.2.2.2.1).mono (Nat.le_succ _)
            · exact Gl.took (HO.out.gl.fr (HF3.out.trans' HF5.out) (fun _ _ _ h => h.elim)) HT5 HN.out.ng HF6.out
      · go_wp2_with fail
        go_ret
        exact ⟨rfl, HO.out.fr.trans' HF3.out⟩
    · have hlti : decide ((i : Int) < l.length) = false := decide_eq_false (by omega)
      have HF := Lib.hid HO.out.fr
      clear HO
      go_wp2_with fail
      go_ret
      exact ⟨rfl, HF.out⟩
end Go.Proofs.YtcddlemkimbkcaaGreatDoor
