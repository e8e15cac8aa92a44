/-
 The walk of cachetlaw17's BindCopies.
-/
import Derived.Deep.CutRange
import Derived.Test.YtcddlemkimbkcaaGreatDoorKCpS
import Derived.Test.YtcddlemkimbkcaaGreatDoorKStands
import Derived.Test.YtcddlemkimbkcaaGreatDoorKTblCopy
import Derived.Test.YtcddlemkimbkcaaGreatDoorKRefAt
namespace Go.Proofs.YtcddlemkimbkcaaGreatDoor
set_option linter.unusedVariables false
set_option linter.unusedSimpArgs false
set_option linter.unusedSectionVars false
open Go.RowKit Go.Shelf
variable [OldK]
set_option maxRecDepth 100000 in
theorem built_came17 (e : En) (pv sv : Value) (pos : Int) (h : e.ok) : Tryz.prog.built 67 [(0, .agg (e.cells pv sv).toArray), (1, .int .i64 pos)] = some (CameV.cells ⟨e, pv, sv, pos⟩).toArray := by
 obtain ⟨k, dg, ty, pl, op, id, ky, sg⟩ := e
 obtain ⟨h1, h2, -⟩ := h
 simp only at h1 h2
 obtain ⟨x0, x1, x2, x3, x4, x5, x6, x7, x8, x9, x10, x11, x12, x13, x14, x15, x16, x17, x18, x19, x20, x21, x22, x23, x24, x25, x26, x27, x28, x29, x30, x31, rfl⟩ := list32 dg h1
 obtain ⟨y0, y1, y2, y3, y4, y5, y6, y7, y8, y9, y10, y11, y12, y13, y14, y15, y16, y17, y18, y19, y20, y21, y22, y23, y24, y25, y26, y27, y28, y29, y30, y31, rfl⟩ := list32 ky h2
 kernel_rfl
theorem bind_key0 {sub : Bs → Bool} {t : Tb} {e : En} (h : pBind sub t e = 0) (h3 : e.op = 3) : e.key = zero32 := by
 unfold pBind at h
 split at h
 ·cases h
 ·rename_i hn
  have h1 : pEntry sub e = true := by
   cases hp : pEntry sub e with
   | true => rfl
   | false => exact absurd (.inl hp) hn
  have h4 : e.kind = 4 := Decidable.byContradiction fun hk => hn (.inr hk)
  unfold pEntry enEq pBlank enOnly at h1
  simp [h4, h3] at h1
  exact h1.2.2.2.2.2.1
theorem lit_at {V : World} {b : Nat} {cs : List Value} {T : TypeId} {f : Nat × Nat} (h : V.heap[b]? = some (.cells cs.toArray T f)) : ∀ (j : Nat) (u : Value), cs[j]? = some u → V.cell? ((⟨b, 0, none⟩ : Addr).add j) = some u := by
 intro j u hj
 have h1 := range_block h j u (by simpa using hj)
 rw [Addr.add_lit]
 exact h1
theorem block_grow {V W : World} {b bb s m : Nat} {cs : Array Value} {T e : TypeId} {f : Nat × Nat} {v : Value} {xs : List Value} (h : V.heap[b]? = some (.cells cs T f)) (ho : V.ownsRow bb e s v m xs) (hne : T ≠ e) (hg : V.grownBy W v.ownBlock) : W.heap[b]? = some (.cells cs T f) := by
 refine (hg.block _ (get_lt h) (fun hb => ?_)).trans h
 obtain ⟨-, o, h1, h2⟩ := row_block ho hb
 rw [h] at h1
 cases h1
 exact hne (OfTy.one ⟨_, _, rfl⟩ h2)
/-- only rows of names and of keys grew -/
theorem mnk_grow {w V W : World} {bb s m : Nat} {e : TypeId} {v : Value} {xs : List Value} (hF : Fr MNK w V) (ho : V.ownsRow bb e s v m xs) (he : ∀ o, OfTy e o → ∀ k, MNK k o) (hg : V.grownBy W v.ownBlock) : Fr MNK w W := by
 have hF2 : Fr (fun k o => some k = v.ownBlock ∧ V.heap[k]? = some o) V W := (Fr.ofGrown hg).mono2 (fun k o hk hm => ⟨hm, hk⟩)
 refine hF.trans hF2 (fun k o hk => .inl ?_)
 obtain ⟨-, o', h4, h5⟩ := row_block ho hk.1
 rw [hk.2] at h4
 cases h4
 exact he _ h5 _
theorem not_mnk {k : Nat} {cs : Array Value} {f : Nat × Nat} : ¬ MNK k (.cells cs 41 f) := by
 rintro (⟨c, f, h⟩ | ⟨c, f, h⟩)
 ·injection h with _ h _; revert h; decide
 ·injection h with _ h _; revert h; decide
theorem strVs_push (ns : List Bs) (s : Bs) : strVs (ns ++ [s]) = strVs ns ++ [.string ⟨s.toArray⟩] := by simp [strVs]
theorem keys_push (ks : List Bs) (k : Bs) : (ks ++ [k]).flatMap Lib.byteCells = ks.flatMap Lib.byteCells ++ Lib.byteCells k := by simp
theorem cames_push (ms : List CameV) (c : CameV) : (ms ++ [c]).flatMap CameV.cells = ms.flatMap CameV.cells ++ c.cells := by simp
theorem len_push {α : Type} (l : List α) (x : α) : (l ++ [x]).length = l.length + 1 := by simp
theorem TBL.mnk {base tb n bc bl : Nat} {t : Tb} {g lv : Bs → Option Value} {w w' : World} (h : TBL base tb n bc bl t g lv w) (hF : Fr MNK w w') : TBL base tb n bc bl t g lv w' := by
 refine h.fr (hF.mono2 (M' := fun k o => MNK k o ∧ w.heap[k]? = some o) (fun k o hk hm => ⟨hm, hk⟩)) (fun k o hk hm => ?_)
 obtain ⟨hm, hw⟩ := hm
 rcases hk with rfl | rfl | rfl | ⟨-, hk⟩
 ·rw [h.cells] at hw
  cases hw
  rcases hm with ⟨c, f, hm⟩ | ⟨c, f, hm⟩
  ·injection hm with _ hm _; revert hm; decide
  ·injection hm with _ hm _; revert hm; decide
 ·exact hm.elim (map_not_ty h.ch hw) (map_not_ty h.ch hw)
 ·exact hm.elim (map_not_ty h.li hw) (map_not_ty h.li hw)
 ·rcases hm with hm | hm
  ·exact absurd (OfTy.one hm hk) (by decide)
  ·exact absurd (OfTy.one hm hk) (by decide)
theorem row_mnk {w w' : World} {b e s m : Nat} {v : Value} {xs : List Value} (h : w.ownsRow b e s v m xs) (hF : Fr MNK w w') (h1 : e ≠ 9) (h2 : e ≠ 24) : w'.ownsRow b e s v m xs := by
 refine ownsRow_fr h hF (fun k o _ ho hm => ?_)
 rcases hm with hm | hm
 ·exact h1 (OfTy.one ho hm)
 ·exact h2 (OfTy.one ho hm)

set_option maxRecDepth 100000 in
set_option maxHeartbeats 8000000 in
theorem copies_c (la lb : List CameV) (va vb : Value) (w : World) (hg : Gl w) (hsa : CameS la va w) (hsb : CameS lb vb w) :
 Calls Tryz.prog 7 #[va, vb] w fun e w' => e = .returned (.bool true) ∧ Fr NoB w w' := by
 obtain ⟨a, cap, rfl, hcap, hel⟩ := hsa
 obtain ⟨a2, cap2, rfl, hcap2, hel2⟩ := hsb
 have Halive := Lib.hid (alive17_c w hg)
 have hrow : ∀ i (hi : i < la.length), ∃ b o, a = some ⟨b, o, none⟩ ∧ b < w.heap.size ∧ w.rangeAt b (o + i * 71) la[i].cells ∧ EnIn w la[i].e la[i].pv la[i].sv := fun i hi => by
  rcases hel with h | ⟨b, o, h1, -, h2, h3⟩
  ·subst h; cases hi
  ·exact ⟨b, o, h1, h2, h3 i hi⟩
 have hrow2 : ∀ i (hi : i < lb.length), ∃ b o, a2 = some ⟨b, o, none⟩ ∧ b < w.heap.size ∧ w.rangeAt b (o + i * 71) lb[i].cells ∧ EnIn w lb[i].e lb[i].pv lb[i].sv := fun i hi => by
  rcases hel2 with h | ⟨b, o, h1, -, h2, h3⟩
  ·subst h; cases hi
  ·exact ⟨b, o, h1, h2, h3 i hi⟩
 have Hrow := Lib.hid hrow
 have Hrow2 := Lib.hid hrow2
 have Hg := Lib.hid hg
 clear hel hrow hg hcap hel2 hrow2 hcap2
 by_cases hbig : 40 < la.length ∨ 40 < lb.length
 ·have hb1 : decide ((40 : Int) < (la.length : Int)) = true ∨ (decide ((40 : Int) < (la.length : Int)) = false ∧ decide ((40 : Int) < (lb.length : Int)) = true) := by
   by_cases h40 : 40 < la.length
   ·exact .inl (decide_eq_true (by omega))
   ·exact .inr ⟨decide_eq_false (by omega), decide_eq_true (by omega)⟩
  clear hbig
  rcases hb1 with hb1 | ⟨hb1, hb2⟩
  all_goals
   go_enter Tryz.func7, Tryz.ntmps7
   go_wp2_with fail
   refine Halive.out.mono ?_
   rintro r w1 ⟨rfl, hF1⟩
   have HF1 := Lib.hid hF1
   clear hF1
   go_wp2_with fail
   go_ret
   exact ⟨rfl, HF1.out⟩
 have h40 : la.length ≤ 40 := by omega
 have h40' : lb.length ≤ 40 := by omega
 have hb1 : decide ((40 : Int) < (la.length : Int)) = false := decide_eq_false (by omega)
 have hb2 : decide ((40 : Int) < (lb.length : Int)) = false := decide_eq_false (by omega)
 clear hbig
 go_enter Tryz.func7, Tryz.ntmps7
 go_wp2_with fail
 refine Halive.out.mono ?_
 rintro r w1 ⟨rfl, hF1⟩
 have HF1 := Lib.hid hF1
 have hg1 := Hg.out.fr hF1 (fun _ _ _ h => h.elim)
 have hnew := new_c w1 hg1.old
 have hng := hg1.size
 have hsz1 := hF1.size
 have Hg1 := Lib.hid hg1
 have Hnew := Lib.hid hnew
 have Hng := Lib.hid hng
 have Hsz1 := Lib.hid hsz1
 clear hF1 hg1 hnew Halive hng hsz1
 go_wp2_with fail
 refine Hnew.out.mono ?_
 rintro r w2 ⟨rfl, hT, hF2⟩
 have hz2 := hF2.size
 have hFb : Fr NoB w2 (((w2.alloc (.cells #[] 67)).alloc (.cells #[] 9)).alloc (.cells #[] 24)) := ((Fr.refl.alloc _).alloc _).alloc _
 have hF := HF1.out.trans' (hF2.trans' hFb)
 have hm0 := row_keep (World.ownsRow_made (e := 67) (size := 71) (base := w1.heap.size) w2 #[] 0 hz2 (Nat.zero_le _) rfl) (((Fr.refl (M := NoB)).alloc (.cells #[] 9)).alloc (.cells #[] 24))
 have hn0 := row_keep (World.ownsRow_made (e := 9) (size := 1) (base := w1.heap.size) (w2.alloc (.cells #[] 67)) #[] 0 (by rw [World.size_alloc]; omega) (Nat.zero_le _) rfl) ((Fr.refl (M := NoB)).alloc (.cells #[] 24))
 have hk0 := World.ownsRow_made (e := 24) (size := 32) (base := w1.heap.size) ((w2.alloc (.cells #[] 67)).alloc (.cells #[] 9)) #[] 0 (by rw [World.size_alloc, World.size_alloc]; omega) (Nat.zero_le _) rfl
 rw [World.size_alloc] at hn0
 rw [World.size_alloc, World.size_alloc] at hk0
 have hC : CpS w1.heap.size w1.heap.size (w1.heap.size + 2) w1.heap.size (w1.heap.size + 1) 0 Tb.new [] [] [] _ _ _ (fun _ => none) (fun _ => none) w w _ := ⟨hT.keep hFb, hm0, hn0, hk0, hF, hF.mono (fun _ _ h => h.elim), Hg1.out.fr (hF2.trans' hFb) (fun _ _ _ h => h.elim), Hng.out, Hng.out, Hsz1.out, Hsz1.out, Hsz1.out, Nat.le_refl _⟩
 clear hT hF2 Hnew hFb hF hm0 hn0 hk0
 go_upto_region 8 with (fail)
 change Code.wp _ _ _ _ (((w2.alloc (.cells #[] 67)).alloc (.cells #[] 9)).alloc (.cells #[] 24))
 obtain ⟨W0, hW0⟩ : ∃ V, ((w2.alloc (.cells #[] 67)).alloc (.cells #[] 9)).alloc (.cells #[] 24) = V := ⟨_, rfl⟩
 rw [hW0] at hC ⊢
 obtain ⟨base, hba⟩ : ∃ x, w1.heap.size = x := ⟨_, rfl⟩
 rw [hba] at hC ⊢
 obtain ⟨tb, htb⟩ : ∃ x, base + 2 = x := ⟨_, rfl⟩
 obtain ⟨bl, hbl⟩ : ∃ x, base + 1 = x := ⟨_, rfl⟩
 rw [htb, hbl] at hC
 rw [htb]
 have HC := Lib.hid hC
 obtain ⟨d, hu, hd⟩ := Tryz.rowEntry
 have Hu := Lib.hid hu
 have Hd := Lib.hid hd
 obtain ⟨d1, hu1, hd1⟩ := Tryz.rowCame
 have Hu1 := Lib.hid hu1
 have Hd1 := Lib.hid hd1
 have Hla := Lib.hid h40
 have Hlb := Lib.hid h40'
 obtain ⟨ik, hik, hk0, hk1', hk2⟩ := info_parts Tryz.infoKey
 obtain ⟨is, his, hs0, hs1', hs2⟩ := info_parts Tryz.infoStr
 obtain ⟨ic, hic, hc0, hc1', hc2⟩ := info_parts Tryz.infoCame
 clear hz2 hW0 hba htb hbl HF1 Hg1 Hng Hsz1 hu hd hu1 hd1 h40 h40' hb1 hb2 hC
 go_wp2_with fail
 go_loopg [6, 7, 8, 31] (la.length + 1) (fun gf vm vn vk vi wr => ∃ i : Nat, vi = .int .i64 i ∧ i ≤ la.length ∧ i + gf = la.length + 1 ∧ ∃ (t : Tb) (ms : List CameV) (ns ks : List Bs) (g lv : Bs → Option Value), Hid (CpS base base tb base bl i t ms ns ks vm vn vk g lv w w wr) ∧ Hid (CpD t ms ns ks i) ∧ Hid (∃ g c, vm = .slice (some ⟨g, 0, none⟩) ms.length c))
 case atStart => exact ⟨0, rfl, by omega, by omega, _, _, _, _, _, _, HC, Lib.hid CpD.new, Lib.hid ⟨_, _, rfl⟩⟩
 case round =>
  obtain ⟨i, rfl, hi, hig, t, ms, ns, ks, g, lv, HC, HD, Hvm⟩ := hrel
  obtain ⟨gko, hgko⟩ : ∃ x, x = gk := ⟨_, rfl⟩
  subst hgko
  by_cases hlt : i < la.length
  ·have hlti : decide ((i : Int) < la.length) = true := decide_eq_true (by omega)
   have Hlim : Hid (i ≤ 90) := Lib.hid (by have := Hla.out; omega)
   have Hi90 := Hlim
   obtain ⟨b, o, rfl, hb, hR, hE⟩ := Hrow.out i hlt
   have hR1 := range_fr hR HC.out.fr hb (fun _ h => h)
   obtain ⟨c, hc⟩ : ∃ c, la[i] = c := ⟨_, rfl⟩
   rw [hc] at hR1 hE
   clear hR hc
   obtain ⟨e, pv, sv, pos⟩ := c
   simp only at hE
   have hE1 := hE.fr HC.out.fr (fun _ _ _ h => h)
   have HE0 := Lib.hid hE
   obtain ⟨hok, hpay, hsgs⟩ := hE1
   obtain ⟨a1, c1, ea⟩ := hpay.form
   obtain ⟨a3, c3, es, -⟩ := id hsgs
   have hp1 : pv.oneCell' = true := by rw [ea]; rfl
   have hs1 : sv.oneCell' = true := by rw [es]; rfl
   have Hps := Lib.hid (And.intro hp1 hs1)
   have hcz : (CameV.cells ⟨e, pv, sv, pos⟩).length = 71 := CameV.size hok
   have hc1 := CameV.one (c := ⟨e, pv, sv, pos⟩) hp1 hs1
   have hce : CameV.cells ⟨e, pv, sv, pos⟩ = e.cells pv sv ++ [.int .i64 pos] := rfl
   have hez := En.size hok pv sv
   have hbc := built_came17 e pv sv pos hok
   obtain ⟨CC, hCC⟩ : ∃ x, CameV.cells ⟨e, pv, sv, pos⟩ = x := ⟨_, rfl⟩
   have HCC := Lib.hid hCC
   rw [hCC] at hR1 hcz hc1 hce hbc
   have Hcl := Lib.hid hcz
   have Hcz : Hid ((Tryz.prog.info? 41).map (·.size) = some CC.length) := Lib.hid (by rw [Tryz.sizeCame, hcz])
   have Hcz2 : Hid ((Tryz.prog.info? 41).map (·.size) = some CC.toArray.size) := Lib.hid (by rw [Tryz.sizeCame, List.size_toArray, hcz])
   have Hzz : Hid (Tryz.zeroCells41.size = CC.toArray.size) := Lib.hid (by rw [show CC.toArray.size = 71 by rw [List.size_toArray, hcz]]; rfl)
   have Hez : Hid ((Tryz.prog.info? 39).map (·.size) = some (e.cells pv sv).length) := Lib.hid (by rw [Tryz.sizeEntry, hez])
   have Hc1 := Lib.hid hc1
   have Hce := Lib.hid hce
   have HR1 := Lib.hid hR1
   have hq0 := heap_alloc_new wr (.cells CC.toArray 41)
   have hFq : Fr NoB wr (wr.alloc (.cells CC.toArray 41)) := Fr.refl.alloc _
   clear hcz hc1 hCC hez hR1 ea es hp1 hs1 hce hE
   go_upto_region 11 with (first
    | (with_reducible refine wpList_load_mid rfl 41 _ rfl b (o + i * 71) rfl CC d1 HR1.out Hu1.out Hd1.out Hcz.out ?_)
    | ((with_reducible refine wpList_store_new (w := wr) rfl 41 _ _ rfl _ CC.toArray wr.heap.size rfl ?_ ?_ Hcz2.out Hzz.out Hc1.out ?_); rfl; rfl))
   change Code.wp _ _ _ _ (wr.alloc (.cells CC.toArray 41))
   obtain ⟨Wq, hWq⟩ : ∃ V, wr.alloc (.cells CC.toArray 41) = V := ⟨_, rfl⟩
   rw [hWq] at hq0 hFq ⊢
   obtain ⟨q, hqq⟩ : ∃ x, wr.heap.size = x := ⟨_, rfl⟩
   rw [hqq] at hq0 ⊢
   have hlt2 : base < q ∧ bl < q := by rw [← hqq]; exact ⟨HC.out.t.ch.lt, HC.out.t.li.lt⟩
   have Hqq := Lib.hid hlt2
   clear hWq hqq hlt2
   have hlarge := large_c Old Old e pv sv Wq hok (hpay.fr hFq (fun _ _ _ _ h => h)) (hsgs.fr hFq (fun _ _ _ h => h))
   obtain ⟨L, hL⟩ : ∃ x, pLarge e = x := ⟨_, rfl⟩
   rw [hL] at hlarge
   have hq := range_block hq0
   rw [List.toList_toArray, Hce.out, range_append] at hq
   have HL := Lib.hid hL
   have Hlarge := Lib.hid hlarge
   have HQ := Lib.hid hq.1
   have Hqo := Lib.hid hq0
   have HFq := Lib.hid hFq
   have Hok := Lib.hid hok
   clear hL hlarge hq hq0 hFq hok hpay hsgs
   obtain ⟨EC, hEC⟩ : ∃ x, e.cells pv sv = x := ⟨_, rfl⟩
   rw [hEC] at Hlarge HQ Hez Hce hbc
   have HEC := Lib.hid hEC
   have Hbc := Lib.hid hbc
   clear hEC hbc
   go_wp2_with (with_reducible refine wpList_load_mid rfl 39 _ rfl q 0 rfl EC d HQ.out Hu.out Hd.out Hez.out ?_)
   refine Hlarge.out.mono ?_
   rintro r w3 ⟨rfl, hF3⟩
   have HC3 := Lib.hid (HC.out.keep (HFq.out.trans' hF3))
   have Hqo3 := Lib.hid (hF3.block _ _ Hqo.out (fun h => h))
   clear hF3 Hlarge HQ HFq Hqo HC
   cases L
   ·obtain ⟨idn, hidn⟩ : ∃ x, e.ident = x := ⟨_, rfl⟩
    obtain ⟨ky, hkye⟩ : ∃ x, e.key = x := ⟨_, rfl⟩
    have hkl : (Lib.byteCells ky).length = 32 := by rw [byteCells_len, ← hkye]; exact Hok.out.2.1
    have hk1 := cells_one ky
    have hparts : ∀ V : World, V.heap[q]? = some (.cells CC.toArray 41 (0, 0)) → V.rangeAt q 0 EC ∧ V.cell? ⟨q, 36, none⟩ = some (.string ⟨idn.toArray⟩) ∧ V.rangeAt q 37 (Lib.byteCells ky) ∧ V.cell? ⟨q, 70, none⟩ = some (.int .i64 pos) := fun V hV => by
     have h1 := range_block hV
     rw [List.toList_toArray, Hce.out, range_append] at h1
     have h2 := h1.1
     rw [← HEC.out] at h2
     obtain ⟨-, -, -, -, -, k36, kK, -⟩ := En.parts Hok.out h2
     rw [hidn] at k36
     rw [hkye] at kK
     refine ⟨h1.1, k36, kK, ?_⟩
     have h3 := h1.2 0 _ rfl
     rw [← HEC.out, En.size Hok.out] at h3
     exact h3
    obtain ⟨KC, hKC⟩ : ∃ x, Lib.byteCells ky = x := ⟨_, rfl⟩
    simp only [hKC] at hkl hk1 hparts
    have Hparts := Lib.hid hparts
    have Hkl := Lib.hid hkl
    have Hk1 := Lib.hid hk1
    have Hky := Lib.hid hKC
    have Hidn := Lib.hid hidn
    have Hkye := Lib.hid hkye
    have Hkz : Hid ((Tryz.prog.info? 24).map (·.size) = some KC.length) := Lib.hid (by rw [Tryz.sizeKey, hkl])
    have hb1 := built_list (P := Tryz.prog) hik hk0 hk1' (by rfl) (by decide) (by decide : 0 < 1) (by decide) [.agg KC.toArray] (fun v hv => by
     obtain rfl : v = .agg KC.toArray := by simpa using hv
     show KC.toArray.size = 32
     rw [List.size_toArray, Hkl.out]) rfl
    have Hbk : Hid (Tryz.prog.builtSlice 24 1 [(0, .agg KC.toArray)] = some KC.toArray) := Lib.hid (by
     have e : ([Value.agg KC.toArray].flatMap fun v => v.cells.toList).toArray = KC.toArray := by simp [Value.cells]
     rw [e] at hb1
     exact hb1)
    have hb2 := built_list (P := Tryz.prog) his hs0 hs1' (by rfl) (by decide) (by decide : 0 < 1) (by decide) [.string ⟨idn.toArray⟩] (fun v hv => by
     obtain rfl : v = .string ⟨idn.toArray⟩ := by simpa using hv
     rfl) rfl
    have Hbn : Hid (Tryz.prog.builtSlice 9 1 [(0, .string ⟨idn.toArray⟩)] = some #[.string ⟨idn.toArray⟩]) := Lib.hid hb2
    have Hnl : Hid (ns.length ≤ 100) := Lib.hid (by rw [HD.out.nl]; have := Hlim.out; omega)
    have Hkn : Hid (ks.length ≤ 100) := Lib.hid (by rw [HD.out.kl]; have := Hlim.out; omega)
    have Hml : Hid (ms.length ≤ 100) := Lib.hid (by have := HD.out.ml; have := Hlim.out; omega)
    clear hkl hk1 hparts hidn hkye hKC hb1 hb2
    go_upto_region 13 with (fail)
    go_cut [7, 8] from 38 to 49 (fun v7 v8 wv => CpS base base tb base bl i t ms (ns ++ [idn]) (ks ++ [ky]) u6 v7 v8 g lv w w wv ∧ Fr MNK w3 wv)
    case first =>
     as_aux_lemma =>
      have HC0 := Lib.hid (HC3.out.keep (Fr.refl (M := NoB)).drew)
      refine wp_region_held_drew (S := fun V => Hid (Fr MNK w3 V)) (by kernel_rfl) (Lib.hid Fr.refl.drew) (fun hHeld => ?_)
      simp only [qL, qL1, qL0, qR, qR1, qR0]
      iterate 4
       refine qt (v := ?_) rfl (Or.inl ⟨by rfl, ?_⟩) hHeld ?_
       rotate_left
       ·intro W hSw
        obtain ⟨-, h36, -, -⟩ := Hparts.out _ (hSw.out.block _ _ Hqo3.out not_mnk)
        try simp only [qG, qG0, qG1]
        go_simp
        try rw [if_neg (by omega)]
        try with_reducible rfl
       try simp only [Act.put, qS, qS0, qS1, qG, qG0, qG1, qM0, qM1]
      refine qi (i := 6) (v := ?_) rfl (Or.inl ⟨by rfl, ?_⟩) hHeld ?_
      rotate_left
      ·intro W hSw
       obtain ⟨-, h36, -, -⟩ := Hparts.out _ (hSw.out.block _ _ Hqo3.out not_mnk)
       try simp only [qG, qG0, qG1]
       go_simp
       try rw [if_neg (by omega)]
       try with_reducible rfl
      try simp only [Act.put, qS, qS0, qS1, qG, qG0, qG1, qM0, qM1]
      refine qi (i := 7) (v := ?_) rfl (Or.inl ⟨by rfl, ?_⟩) hHeld ?_
      rotate_left
      ·intro W hSw
       obtain ⟨-, h36, -, -⟩ := Hparts.out _ (hSw.out.block _ _ Hqo3.out not_mnk)
       try simp only [qG, qG0, qG1]
       go_simp
       try rw [if_neg (by omega)]
       try with_reducible rfl
      try simp only [Act.put, qS, qS0, qS1, qG, qG0, qG1, qM0, qM1]
      refine qi (i := 8) (v := ?_) rfl (Or.inl ⟨by rfl, ?_⟩) hHeld ?_
      rotate_left
      ·intro W hSw
       obtain ⟨-, h36, -, -⟩ := Hparts.out _ (hSw.out.block _ _ Hqo3.out not_mnk)
       try simp only [qG, qG0, qG1]
       go_simp
       try rw [if_neg (by omega)]
       try with_reducible rfl
      try simp only [Act.put, qS, qS0, qS1, qG, qG0, qG1, qM0, qM1]
      refine qi (i := 9) rfl (yieldsIf_load_mid (by rfl) 24 _ rfl q 37 rfl KC (.array 32 5) (fun V h => (Hparts.out _ (h.out.block _ _ Hqo3.out not_mnk)).2.2.1) Tryz.underKey rfl Hkz.out) hHeld ?_
      try simp only [Act.put, qS, qS0, qS1, qG, qG0, qG1, qM0, qM1]
      refine wpAnyH_ready (rs := [4, 10]) (by kernel_rfl) (by simp) (AllReadyH.cons rfl (fun K hK => ?_) (AllReadyH.cons rfl (fun K hK => ?_) AllReadyH.nil))
      ·try simp only [qG, qG0, qG1]
       rw [if_pos (by rfl)]
       refine wp_buildSliceTo 63 9 1 _ rfl Tryz.underlying63 #[.string ⟨idn.toArray⟩] (Eq.trans (congrArg (Tryz.prog.builtSlice 9 1) (by kernel_rfl)) Hbn.out) ?_
       refine hK.out _ _ (Lib.hid (hHeld.out.alloc _)) (fun hHeld => ?_)
       clear hK K
       have HA := Lib.hid (HC0.out.keep (Fr.refl.alloc (.cells #[.string ⟨idn.toArray⟩] 9)))
       have La := Lib.hid (heap_alloc_new w3.drew (.cells #[.string ⟨idn.toArray⟩] 9))
       try simp only [Act.put, qS, qS0, qS1, qG, qG0, qG1, qM0, qM1]
       refine wpAnyH_ready (rs := [5, 10]) (by kernel_rfl) (by simp) (AllReadyH.cons rfl (fun K hK => ?_) (AllReadyH.cons rfl (fun K hK => ?_) AllReadyH.nil))
       ·try simp only [qG, qG0, qG1]
        rw [if_pos (by rfl)]
        refine wp_append_at _ _ 63 (by rfl) base 9 is (.string ⟨#[]⟩) 1 16 Tryz.underlying63 his hs0 hs1' hs2 rfl (by decide) _ _ _ (by rfl) HA.out.n ⟨w3.drew.heap.size, 0, none⟩ 1 1 [.string ⟨idn.toArray⟩] (by rfl) rfl (lit_at La.out) (fun u hu => by obtain rfl : u = .string ⟨idn.toArray⟩ := (by simpa using hu); rfl) (by have := Hnl.out; unfold maxLen; omega) (by have := Hnl.out; omega) HA.out.bN_le ?_
        intro v7 V2 hown hg _
        refine hK.out _ _ (Lib.hid (mnk_grow hHeld.out HA.out.n (fun _ h _ => .inl h) hg)) (fun hHeld => ?_)
        clear hK K
        have HB := Lib.hid (HA.out.growN (ns' := ns ++ [idn]) (by rw [strVs_push, len_push]; exact hown) hg)
        try simp only [Act.put, qS, qS0, qS1, qG, qG0, qG1, qM0, qM1]
        refine qr (i := 10) (by kernel_rfl) rfl (fun K hK => ?_)
        try simp only [qG, qG0, qG1]
        rw [if_pos (by rfl)]
        refine wp_buildSliceTo 58 24 1 _ rfl Tryz.underlying58 KC.toArray (Eq.trans (congrArg (Tryz.prog.builtSlice 24 1) (by kernel_rfl)) Hbk.out) ?_
        refine hK.out _ _ (Lib.hid (hHeld.out.alloc _)) (fun hHeld => ?_)
        clear hK K
        have HCc := Lib.hid (HB.out.keep (Fr.refl.alloc (.cells KC.toArray 24)))
        have Lb := Lib.hid (heap_alloc_new V2 (.cells KC.toArray 24))
        try simp only [Act.put, qS, qS0, qS1, qG, qG0, qG1, qM0, qM1]
        refine qr (i := 11) (by kernel_rfl) rfl (fun K hK => ?_)
        try simp only [qG, qG0, qG1]
        rw [if_pos (by rfl)]
        refine wp_append_at _ _ 58 (by rfl) base 24 ik (.agg #[.int .u8 0, .int .u8 0, .int .u8 0, .int .u8 0, .int .u8 0, .int .u8 0, .int .u8 0, .int .u8 0, .int .u8 0, .int .u8 0, .int .u8 0, .int .u8 0, .int .u8 0, .int .u8 0, .int .u8 0, .int .u8 0, .int .u8 0, .int .u8 0, .int .u8 0, .int .u8 0, .int .u8 0, .int .u8 0, .int .u8 0, .int .u8 0, .int .u8 0, .int .u8 0, .int .u8 0, .int .u8 0, .int .u8 0, .int .u8 0, .int .u8 0, .int .u8 0]) 32 32 Tryz.underlying58 hik hk0 hk1' hk2 rfl (by decide) _ _ _ (by rfl) HCc.out.k ⟨V2.heap.size, 0, none⟩ 1 1 KC (by rfl) (by rw [Hkl.out]) (lit_at Lb.out) Hk1.out (by have := Hkn.out; unfold maxLen; omega) (by have := Hkn.out; omega) HCc.out.bN_le ?_
        intro v8 V3 hown hg _
        refine hK.out _ _ (Lib.hid (mnk_grow hHeld.out HCc.out.k (fun _ h _ => .inr h) hg)) (fun hHeld => ?_)
        clear hK K
        have HDd := Lib.hid (HCc.out.growK (ks' := ks ++ [ky]) (by rw [keys_push, len_push, Hky.out]; exact hown) hg)
        try simp only [Act.put, qS, qS0, qS1, qG, qG0, qG1, qM0, qM1]
        refine qi (i := 12) (v := ?_) rfl (Or.inl ⟨by rfl, ?_⟩) hHeld ?_
        rotate_left
        ·intro W hSw
         obtain ⟨-, h36, -, -⟩ := Hparts.out _ (hSw.out.block _ _ Hqo3.out not_mnk)
         try simp only [qG, qG0, qG1]
         go_simp
         try rw [if_neg (by omega)]
         try with_reducible rfl
        try simp only [Act.put, qS, qS0, qS1, qG, qG0, qG1, qM0, qM1]
        refine qi (i := 13) (v := ?_) rfl (Or.inl ⟨by rfl, ?_⟩) hHeld ?_
        rotate_left
        ·intro W hSw
         obtain ⟨-, h36, -, -⟩ := Hparts.out _ (hSw.out.block _ _ Hqo3.out not_mnk)
         try simp only [qG, qG0, qG1]
         go_simp
         try rw [if_neg (by omega)]
         try with_reducible rfl
        try simp only [Act.put, qS, qS0, qS1, qG, qG0, qG1, qM0, qM1]
        refine wpAnyH_done (by kernel_rfl) ?_ _
        have HE := Lib.hid (And.intro HDd.out hHeld.out)
        clear hHeld
        go_wp2_with fail
        go_meet
        case rel => exact HE.out
       ·try simp only [qG, qG0, qG1]
        rw [if_pos (by rfl)]
        refine wp_buildSliceTo 58 24 1 _ rfl Tryz.underlying58 KC.toArray (Eq.trans (congrArg (Tryz.prog.builtSlice 24 1) (by kernel_rfl)) Hbk.out) ?_
        refine hK.out _ _ (Lib.hid (hHeld.out.alloc _)) (fun hHeld => ?_)
        clear hK K
        have HB := Lib.hid (HA.out.keep (Fr.refl.alloc (.cells KC.toArray 24)))
        have Lb := Lib.hid (heap_alloc_new (w3.drew.alloc (.cells #[.string ⟨idn.toArray⟩] 9)) (.cells KC.toArray 24))
        try simp only [Act.put, qS, qS0, qS1, qG, qG0, qG1, qM0, qM1]
        have La2 := Lib.hid ((Fr.alloc (M := NoB) Fr.refl (.cells KC.toArray 24)).block _ _ La.out (fun h => h))
        refine qr (i := 5) (by kernel_rfl) rfl (fun K hK => ?_)
        try simp only [qG, qG0, qG1]
        rw [if_pos (by rfl)]
        refine wp_append_at _ _ 63 (by rfl) base 9 is (.string ⟨#[]⟩) 1 16 Tryz.underlying63 his hs0 hs1' hs2 rfl (by decide) _ _ _ (by rfl) HB.out.n ⟨w3.drew.heap.size, 0, none⟩ 1 1 [.string ⟨idn.toArray⟩] (by rfl) rfl (lit_at La2.out) (fun u hu => by obtain rfl : u = .string ⟨idn.toArray⟩ := (by simpa using hu); rfl) (by have := Hnl.out; unfold maxLen; omega) (by have := Hnl.out; omega) HB.out.bN_le ?_
        intro v7 V2 hown hg _
        refine hK.out _ _ (Lib.hid (mnk_grow hHeld.out HB.out.n (fun _ h _ => .inl h) hg)) (fun hHeld => ?_)
        clear hK K
        have HCc := Lib.hid (HB.out.growN (ns' := ns ++ [idn]) (by rw [strVs_push, len_push]; exact hown) hg)
        try simp only [Act.put, qS, qS0, qS1, qG, qG0, qG1, qM0, qM1]
        have Lb2 := Lib.hid (block_grow Lb.out HB.out.n (by decide) hg)
        refine qr (i := 11) (by kernel_rfl) rfl (fun K hK => ?_)
        try simp only [qG, qG0, qG1]
        rw [if_pos (by rfl)]
        refine wp_append_at _ _ 58 (by rfl) base 24 ik (.agg #[.int .u8 0, .int .u8 0, .int .u8 0, .int .u8 0, .int .u8 0, .int .u8 0, .int .u8 0, .int .u8 0, .int .u8 0, .int .u8 0, .int .u8 0, .int .u8 0, .int .u8 0, .int .u8 0, .int .u8 0, .int .u8 0, .int .u8 0, .int .u8 0, .int .u8 0, .int .u8 0, .int .u8 0, .int .u8 0, .int .u8 0, .int .u8 0, .int .u8 0, .int .u8 0, .int .u8 0, .int .u8 0, .int .u8 0, .int .u8 0, .int .u8 0, .int .u8 0]) 32 32 Tryz.underlying58 hik hk0 hk1' hk2 rfl (by decide) _ _ _ (by rfl) HCc.out.k ⟨(w3.drew.alloc (.cells #[.string ⟨idn.toArray⟩] 9)).heap.size, 0, none⟩ 1 1 KC (by rfl) (by rw [Hkl.out]) (lit_at Lb2.out) Hk1.out (by have := Hkn.out; unfold maxLen; omega) (by have := Hkn.out; omega) HCc.out.bN_le ?_
        intro v8 V3 hown hg _
        refine hK.out _ _ (Lib.hid (mnk_grow hHeld.out HCc.out.k (fun _ h _ => .inr h) hg)) (fun hHeld => ?_)
        clear hK K
        have HDd := Lib.hid (HCc.out.growK (ks' := ks ++ [ky]) (by rw [keys_push, len_push, Hky.out]; exact hown) hg)
        try simp only [Act.put, qS, qS0, qS1, qG, qG0, qG1, qM0, qM1]
        refine qi (i := 12) (v := ?_) rfl (Or.inl ⟨by rfl, ?_⟩) hHeld ?_
        rotate_left
        ·intro W hSw
         obtain ⟨-, h36, -, -⟩ := Hparts.out _ (hSw.out.block _ _ Hqo3.out not_mnk)
         try simp only [qG, qG0, qG1]
         go_simp
         try rw [if_neg (by omega)]
         try with_reducible rfl
        try simp only [Act.put, qS, qS0, qS1, qG, qG0, qG1, qM0, qM1]
        refine qi (i := 13) (v := ?_) rfl (Or.inl ⟨by rfl, ?_⟩) hHeld ?_
        rotate_left
        ·intro W hSw
         obtain ⟨-, h36, -, -⟩ := Hparts.out _ (hSw.out.block _ _ Hqo3.out not_mnk)
         try simp only [qG, qG0, qG1]
         go_simp
         try rw [if_neg (by omega)]
         try with_reducible rfl
        try simp only [Act.put, qS, qS0, qS1, qG, qG0, qG1, qM0, qM1]
        refine wpAnyH_done (by kernel_rfl) ?_ _
        have HE := Lib.hid (And.intro HDd.out hHeld.out)
        clear hHeld
        go_wp2_with fail
        go_meet
        case rel => exact HE.out
      ·try simp only [qG, qG0, qG1]
       rw [if_pos (by rfl)]
       refine wp_buildSliceTo 58 24 1 _ rfl Tryz.underlying58 KC.toArray (Eq.trans (congrArg (Tryz.prog.builtSlice 24 1) (by kernel_rfl)) Hbk.out) ?_
       refine hK.out _ _ (Lib.hid (hHeld.out.alloc _)) (fun hHeld => ?_)
       clear hK K
       have HA := Lib.hid (HC0.out.keep (Fr.refl.alloc (.cells KC.toArray 24)))
       have Lb := Lib.hid (heap_alloc_new w3.drew (.cells KC.toArray 24))
       try simp only [Act.put, qS, qS0, qS1, qG, qG0, qG1, qM0, qM1]
       refine qr (i := 4) (by kernel_rfl) rfl (fun K hK => ?_)
       try simp only [qG, qG0, qG1]
       rw [if_pos (by rfl)]
       refine wp_buildSliceTo 63 9 1 _ rfl Tryz.underlying63 #[.string ⟨idn.toArray⟩] (Eq.trans (congrArg (Tryz.prog.builtSlice 9 1) (by kernel_rfl)) Hbn.out) ?_
       refine hK.out _ _ (Lib.hid (hHeld.out.alloc _)) (fun hHeld => ?_)
       clear hK K
       have HB := Lib.hid (HA.out.keep (Fr.refl.alloc (.cells #[.string ⟨idn.toArray⟩] 9)))
       have La := Lib.hid (heap_alloc_new (w3.drew.alloc (.cells KC.toArray 24)) (.cells #[.string ⟨idn.toArray⟩] 9))
       try simp only [Act.put, qS, qS0, qS1, qG, qG0, qG1, qM0, qM1]
       have Lb1 := Lib.hid ((Fr.alloc (M := NoB) Fr.refl (.cells #[.string ⟨idn.toArray⟩] 9)).block _ _ Lb.out (fun h => h))
       refine qr (i := 5) (by kernel_rfl) rfl (fun K hK => ?_)
       try simp only [qG, qG0, qG1]
       rw [if_pos (by rfl)]
       refine wp_append_at _ _ 63 (by rfl) base 9 is (.string ⟨#[]⟩) 1 16 Tryz.underlying63 his hs0 hs1' hs2 rfl (by decide) _ _ _ (by rfl) HB.out.n ⟨(w3.drew.alloc (.cells KC.toArray 24)).heap.size, 0, none⟩ 1 1 [.string ⟨idn.toArray⟩] (by rfl) rfl (lit_at La.out) (fun u hu => by obtain rfl : u = .string ⟨idn.toArray⟩ := (by simpa using hu); rfl) (by have := Hnl.out; unfold maxLen; omega) (by have := Hnl.out; omega) HB.out.bN_le ?_
       intro v7 V2 hown hg _
       refine hK.out _ _ (Lib.hid (mnk_grow hHeld.out HB.out.n (fun _ h _ => .inl h) hg)) (fun hHeld => ?_)
       clear hK K
       have HCc := Lib.hid (HB.out.growN (ns' := ns ++ [idn]) (by rw [strVs_push, len_push]; exact hown) hg)
       try simp only [Act.put, qS, qS0, qS1, qG, qG0, qG1, qM0, qM1]
       have Lb2 := Lib.hid (block_grow Lb1.out HB.out.n (by decide) hg)
       refine qr (i := 11) (by kernel_rfl) rfl (fun K hK => ?_)
       try simp only [qG, qG0, qG1]
       rw [if_pos (by rfl)]
       refine wp_append_at _ _ 58 (by rfl) base 24 ik (.agg #[.int .u8 0, .int .u8 0, .int .u8 0, .int .u8 0, .int .u8 0, .int .u8 0, .int .u8 0, .int .u8 0, .int .u8 0, .int .u8 0, .int .u8 0, .int .u8 0, .int .u8 0, .int .u8 0, .int .u8 0, .int .u8 0, .int .u8 0, .int .u8 0, .int .u8 0, .int .u8 0, .int .u8 0, .int .u8 0, .int .u8 0, .int .u8 0, .int .u8 0, .int .u8 0, .int .u8 0, .int .u8 0, .int .u8 0, .int .u8 0, .int .u8 0, .int .u8 0]) 32 32 Tryz.underlying58 hik hk0 hk1' hk2 rfl (by decide) _ _ _ (by rfl) HCc.out.k ⟨w3.drew.heap.size, 0, none⟩ 1 1 KC (by rfl) (by rw [Hkl.out]) (lit_at Lb2.out) Hk1.out (by have := Hkn.out; unfold maxLen; omega) (by have := Hkn.out; omega) HCc.out.bN_le ?_
       intro v8 V3 hown hg _
       refine hK.out _ _ (Lib.hid (mnk_grow hHeld.out HCc.out.k (fun _ h _ => .inr h) hg)) (fun hHeld => ?_)
       clear hK K
       have HDd := Lib.hid (HCc.out.growK (ks' := ks ++ [ky]) (by rw [keys_push, len_push, Hky.out]; exact hown) hg)
       try simp only [Act.put, qS, qS0, qS1, qG, qG0, qG1, qM0, qM1]
       refine qi (i := 12) (v := ?_) rfl (Or.inl ⟨by rfl, ?_⟩) hHeld ?_
       rotate_left
       ·intro W hSw
        obtain ⟨-, h36, -, -⟩ := Hparts.out _ (hSw.out.block _ _ Hqo3.out not_mnk)
        try simp only [qG, qG0, qG1]
        go_simp
        try rw [if_neg (by omega)]
        try with_reducible rfl
       try simp only [Act.put, qS, qS0, qS1, qG, qG0, qG1, qM0, qM1]
       refine qi (i := 13) (v := ?_) rfl (Or.inl ⟨by rfl, ?_⟩) hHeld ?_
       rotate_left
       ·intro W hSw
        obtain ⟨-, h36, -, -⟩ := Hparts.out _ (hSw.out.block _ _ Hqo3.out not_mnk)
        try simp only [qG, qG0, qG1]
        go_simp
        try rw [if_neg (by omega)]
        try with_reducible rfl
       try simp only [Act.put, qS, qS0, qS1, qG, qG0, qG1, qM0, qM1]
       refine wpAnyH_done (by kernel_rfl) ?_ _
       have HE := Lib.hid (And.intro HDd.out hHeld.out)
       clear hHeld
       go_wp2_with fail
       go_meet
       case rel => exact HE.out
    case rest =>
     obtain ⟨hC4, hF4⟩ := hcut
     obtain ⟨w4, hw4⟩ : ∃ x, x = wc := ⟨_, rfl⟩
     rw [← hw4] at hC4 hF4 ⊢
     clear hw4 wc
     have hqo4 := hF4.block _ _ Hqo3.out not_mnk
     obtain ⟨hQ4, -, -, k70⟩ := Hparts.out _ hqo4
     have hE4 := HE0.out.fr hC4.fr (fun _ _ _ h => h)
     have hfine := fine17 hE4.1 hE4.2.1 hE4.2.2 hC4.gl HL.out
     have hidl : e.ident.length ≤ 500 := (pLarge_fine HL.out).2.2.2.1
     have htake := take_c Old Old e pv sv pos w4 hC4.t hfine (by have := Hlim.out; omega)
     simp only [HEC.out] at htake
     have hD := HD.out.step (c := ⟨e, pv, sv, pos⟩) Hok.out Hps.out hidl (fun h1 h2 => bind_key0 h1 h2)
     simp only [Hidn.out, Hkye.out] at hD
     obtain ⟨R, hRv⟩ : ∃ x, pBind psub t e = x := ⟨_, rfl⟩
     rw [hRv] at htake hD
     obtain ⟨T2, hT2⟩ : ∃ x, t.take psub e pos = x := ⟨_, rfl⟩
     simp only [hT2] at htake hD
     have HC4 := Lib.hid hC4
     have HQ4 := Lib.hid hQ4
     have Hqo4 := Lib.hid hqo4
     have HD4 := Lib.hid hD
     have Htake := Lib.hid htake
     have Hmone := Lib.hid (CameV.one (c := ⟨e, pv, sv, pos⟩) Hps.out.1 Hps.out.2)
     rw [HCC.out] at Hmone
     clear hC4 hF4 hqo4 hQ4 hE4 hfine hidl htake hD hRv hT2 HC3 Hqo3 HD HE0
     have hwr : wrap64 ((i : Int) + 1) = (i : Int) + 1 := by have := Hi90.out; unfold wrap64; omega
     by_cases hR0 : R = 0
     ·subst hR0
      simp only [if_true, show errV 0 = .nilIface from rfl] at Htake HD4
      go_wp2_with (with_reducible refine wpList_load_mid rfl 39 _ rfl q 0 rfl EC d HQ4.out Hu.out Hd.out Hez.out ?_)
      refine Htake.out.mono ?_
      rintro r w6 ⟨rfl, ⟨g6, lv6, hT6⟩, hF6⟩
      have HC6 := Lib.hid (HC4.out.took hF6 hT6)
      have hn1 : ¬ TM base base bl q (.cells CC.toArray 41 (0, 0)) := by
       have := Hqq.out
       rintro (h | h | ⟨-, c, f, h⟩)
       ·omega
       ·omega
       ·injection h with _ h _; revert h; decide
      obtain ⟨hQ6, -, -, k706⟩ := Hparts.out _ (hF6.block _ _ Hqo4.out hn1)
      have HQ6 := Lib.hid hQ6
      have hb3 := built_list (P := Tryz.prog) hic hc0 hc1' (by rfl) (by decide) (by decide : 0 < 1) (by decide) [.agg CC.toArray] (fun v hv => by
       obtain rfl : v = .agg CC.toArray := by simpa using hv
       show CC.toArray.size = 71
       rw [List.size_toArray, Hcl.out]) rfl
      have Hbs : Hid (Tryz.prog.builtSlice 67 1 [(0, .agg CC.toArray)] = some CC.toArray) := Lib.hid (by
       have e : ([Value.agg CC.toArray].flatMap fun v => v.cells.toList).toArray = CC.toArray := by simp [Value.cells]
       rw [e] at hb3
       exact hb3)
      clear hT6 hF6 hn1 hQ6 hb3 HQ4 Hqo4 HC4 Htake k70
      go_wp2_with (first
       | (with_reducible refine wpList_load_mid rfl 39 _ rfl q 0 rfl EC d HQ6.out Hu.out Hd.out Hez.out ?_)
       | ((with_reducible refine wpList_buildTo ?_ 67 _ rfl _ rfl CC.toArray ?_ ?_); rfl; (refine Eq.trans (congrArg (Tryz.prog.built 67) ?_) Hbc.out; kernel_rfl))
       | ((with_reducible refine Great.wpList_buildSliceTo ?_ 62 67 1 _ rfl w6.heap.size rfl _ rfl Tryz.underlying62 CC.toArray ?_ ?_); rfl; (refine Eq.trans (congrArg (Tryz.prog.builtSlice 67 1) ?_) Hbs.out; kernel_rfl))
       | (at_builtin; refine stop_here ?_))
      refine Lib.hid ?_
      refine wpList_append_own _ rfl _ _ 62 rfl base 67 ic (.agg Tryz.zeroCells67) 71 168 Tryz.underlying62 hic hc0 hc1' hc2 rfl (by decide) _ ms.length (ms.flatMap CameV.cells) rfl (HC6.out.m.alloc _) ⟨w6.heap.size, 0, none⟩ 1 1 CC rfl (by rw [Hcl.out]) (lit_cells w6 CC 67) (fun u hu => by
       have h := Hmone.out
       rw [List.all_toArray, List.all_eq_true] at h
       exact h u hu) (by have := Hml.out; unfold maxLen; omega) (by have := Hml.out; omega) (Nat.le_trans HC6.out.bT_le (by rw [World.size_alloc]; omega)) ?_
      intro vm' w7 hown hgr _
      have hvm' : ∃ g c, vm' = .slice (some ⟨g, 0, none⟩) (ms ++ [(⟨e, pv, sv, pos⟩ : CameV)]).length c := by
       rcases row_form' hown with ⟨-, h0⟩ | ⟨g, c, h0, -⟩
       ·omega
       ·exact ⟨g, c, by rw [len_push]; exact h0⟩
      have HC7 := Lib.hid ((HC6.out.keep (Fr.refl.alloc (.cells CC.toArray 67))).growM (ms' := ms ++ [⟨e, pv, sv, pos⟩]) (by rw [cames_push, len_push, HCC.out]; exact hown) hgr)
      have Hvm' := Lib.hid hvm'
      clear hown hgr hvm' HC6 HQ6 Hvm
      go_wp2_with fail
      go_roundg (gko - 1)
      case measure => omega
      case rel => exact ⟨i + 1, by simp [hwr], by omega, by omega, T2, _, _, _, g6, lv6, HC7, HD4, Hvm'⟩
     ·have hE : errV R = .iface 56 (.int .i64 R) := by unfold errV; rw [if_neg hR0]
      simp only [hE, if_neg hR0] at Htake HD4
      clear hE hR0
      go_wp2_with (with_reducible refine wpList_load_mid rfl 39 _ rfl q 0 rfl EC d HQ4.out Hu.out Hd.out Hez.out ?_)
      refine Htake.out.mono ?_
      rintro r w6 ⟨rfl, ⟨g6, lv6, hT6⟩, hF6⟩
      have HC6 := Lib.hid (HC4.out.took hF6 hT6)
      clear hT6 hF6 HQ4 Hqo4 HC4 Htake k70
      go_wp2_with fail
      go_roundg (gko - 1)
      case measure => omega
      case rel => exact ⟨i + 1, by simp [hwr], by omega, by omega, T2, _, _, _, g6, lv6, HC6, HD4, Hvm⟩
   ·go_wp2_with fail
    go_ret
    exact ⟨rfl, HC3.out.fr⟩
  ·obtain rfl : i = la.length := by omega
   have hlti : decide ((la.length : Int) < la.length) = false := decide_eq_false (by omega)
   have hcopy := tblCopy_c wr HC.out.t (by have := Hla.out; omega)
   obtain ⟨gm, cm, hvm⟩ := Hvm.out
   subst hvm
   obtain ⟨wk, rfl⟩ : ∃ x : World, x = wr := ⟨_, rfl⟩
   obtain ⟨t1, rfl⟩ : ∃ x, x = t := ⟨_, rfl⟩
   obtain ⟨ms1, rfl⟩ : ∃ x, x = ms := ⟨_, rfl⟩
   obtain ⟨ns1, rfl⟩ : ∃ x, x = ns := ⟨_, rfl⟩
   obtain ⟨ks1, rfl⟩ : ∃ x, x = ks := ⟨_, rfl⟩
   obtain ⟨g1, rfl⟩ : ∃ x, x = g := ⟨_, rfl⟩
   obtain ⟨lv1, rfl⟩ : ∃ x, x = lv := ⟨_, rfl⟩
   have Hcopy := Lib.hid hcopy
   clear hcopy hi hig hlt Hvm
   go_wp2_with fail
   refine Hcopy.out.mono ?_
   rintro r w5 ⟨g5, rfl, hT5, hF5⟩
   have HT5 := Lib.hid hT5
   have HF5 := Lib.hid hF5
   have HC5 := Lib.hid (HC.out.keep hF5)
   have hms : ∀ u ∈ ms1.flatMap CameV.cells, u.oneCell' = true := fun u hu => by
    obtain ⟨c, hc, hu⟩ := List.mem_flatMap.1 hu
    have h := CameV.one (c := c) (HD.out.one c hc).1 (HD.out.one c hc).2
    rw [List.all_toArray, List.all_eq_true] at h
    exact h u hu
   have hml : ms1.length ≤ 100 := by have := HD.out.ml; have := Hla.out; omega
   have hsz : wk.heap.size ≤ w5.heap.size := hF5.size
   have Hms := Lib.hid hms
   have Hml := Lib.hid hml
   have Hsz := Lib.hid hsz
   clear hT5 hF5 Hcopy hms hml hsz
   go_wp2_with (at_builtin; refine stop_here ?_)
   refine Lib.hid ?_
   refine wpList_append_own _ rfl _ _ 62 rfl wk.heap.size 67 ic (.agg Tryz.zeroCells67) 71 168 Tryz.underlying62 hic hc0 hc1' hc2 rfl (by decide) _ _ _ rfl (World.ownsRow_made w5 #[] 0 Hsz.out (Nat.zero_le _) rfl) ⟨gm, 0, none⟩ ms1.length cm (ms1.flatMap CameV.cells) rfl HC5.out.m.1 (fun j u hj => by
    have h := (row_keep HC5.out.m (Fr.refl.alloc (.cells #[] 67))).cells (g := gm) rfl j u hj
    exact h) Hms.out (by have := Hml.out; unfold maxLen; omega) (by have := Hml.out; omega) (by rw [World.size_alloc]; have := Hsz.out; omega) ?_
   intro vm2 w6 hown hgr hnil
   rw [Nat.zero_add] at hown
   have hF56 : Fr NoB w5 w6 := ((Fr.refl (M := NoB)).alloc _).trans (Fr.ofGrown hgr) (fun k _ hm => .inr (by
    have h2 : some k = some w5.heap.size := hm
    injection h2 with h2
    omega))
   have hvm2 : ∃ g c, vm2 = .slice (some ⟨g, 0, none⟩) ms1.length c := by
    rcases row_form' hown with ⟨h0, -⟩ | ⟨g, c, h0, -⟩
    ·have h5 : Value.slice (some (⟨w5.heap.size, 0, none⟩ : Addr)) 0 0 = .slice none 0 0 := (hnil.1 h0).1
     cases h5
    ·exact ⟨g, c, h0⟩
   have hC6 : CpS wk.heap.size base (wk.heap.size + 2) wk.heap.size (wk.heap.size + 1) la.length t1 ms1 ns1 ks1 vm2 u7 u8 g5 lv1 w wk w6 :=
    ⟨HT5.out.keep hF56, hown, row_keep HC5.out.n hF56, row_keep HC5.out.k hF56, HC5.out.fr.trans' hF56, (HF5.out.trans' hF56).mono (fun _ _ h => h.elim), HC5.out.gl.fr hF56 (fun _ _ _ h => h.elim),
     Nat.le_trans HC.out.low.1 HC.out.bT_le, HC.out.low.1, HC.out.fr.size, HC.out.low.2.2.1, Nat.le_refl _, HC.out.bT_le⟩
   obtain ⟨B2, hB2⟩ : ∃ x, wk.heap.size = x := ⟨_, rfl⟩
   rw [hB2] at hC6 ⊢
   obtain ⟨tb2, htb2⟩ : ∃ x, B2 + 2 = x := ⟨_, rfl⟩
   obtain ⟨bl2, hbl2⟩ : ∃ x, B2 + 1 = x := ⟨_, rfl⟩
   rw [htb2, hbl2] at hC6
   rw [htb2]
   have HC6 := Lib.hid hC6
   have Hvm2 := Lib.hid hvm2
   have HC1 := HC
   have HD1 := HD
   clear hown hgr hnil hF56 hvm2 hC6 hB2 htb2 hbl2 HC5 HT5 HF5 Hsz HC HD
   go_wp2_with fail
   go_loopg [7, 8, 12, 73] (lb.length + 1) (fun gf vn vk vm vi wr => ∃ i : Nat, vi = .int .i64 i ∧ i ≤ lb.length ∧ i + gf = lb.length + 1 ∧ ∃ (t : Tb) (ms : List CameV) (ns ks : List Bs) (g lv : Bs → Option Value), Hid (CpS B2 base tb2 B2 bl2 (la.length + i) t ms ns ks vm vn vk g lv w wk wr) ∧ Hid (CpD t ms ns ks (la.length + i)) ∧ Hid (∃ g c, vm = .slice (some ⟨g, 0, none⟩) ms.length c))
   case atStart => exact ⟨0, rfl, by omega, by omega, _, _, _, _, _, _, HC6, HD1, Hvm2⟩
   case round =>
    clear HC6 Hvm2
    obtain ⟨i, rfl, hi, hig, t, ms, ns, ks, g, lv, HC, HD, Hvm⟩ := hrel
    obtain ⟨gko, hgko⟩ : ∃ x, x = gk := ⟨_, rfl⟩
    subst hgko
    by_cases hlt : i < lb.length
    ·have hlti : decide ((i : Int) < lb.length) = true := decide_eq_true (by omega)
     have Hlim : Hid (la.length + i ≤ 90) := Lib.hid (by have := Hla.out; have := Hlb.out; omega)
     have Hi90 : Hid (i ≤ 90) := Lib.hid (by have := Hlb.out; omega)
     obtain ⟨b, o, rfl, hb, hR, hE⟩ := Hrow2.out i hlt
     have hR1 := range_fr hR HC.out.fr hb (fun _ h => h)
     obtain ⟨c, hc⟩ : ∃ c, lb[i] = c := ⟨_, rfl⟩
     rw [hc] at hR1 hE
     clear hR hc
     obtain ⟨e, pv, sv, pos⟩ := c
     simp only at hE
     have hE1 := hE.fr HC.out.fr (fun _ _ _ h => h)
     have HE0 := Lib.hid hE
     obtain ⟨hok, hpay, hsgs⟩ := hE1
     obtain ⟨a1, c1, ea⟩ := hpay.form
     obtain ⟨a3, c3, es, -⟩ := id hsgs
     have hp1 : pv.oneCell' = true := by rw [ea]; rfl
     have hs1 : sv.oneCell' = true := by rw [es]; rfl
     have Hps := Lib.hid (And.intro hp1 hs1)
     have hcz : (CameV.cells ⟨e, pv, sv, pos⟩).length = 71 := CameV.size hok
     have hc1 := CameV.one (c := ⟨e, pv, sv, pos⟩) hp1 hs1
     have hce : CameV.cells ⟨e, pv, sv, pos⟩ = e.cells pv sv ++ [.int .i64 pos] := rfl
     have hez := En.size hok pv sv
     have hbc := built_came17 e pv sv pos hok
     obtain ⟨CC, hCC⟩ : ∃ x, CameV.cells ⟨e, pv, sv, pos⟩ = x := ⟨_, rfl⟩
     have HCC := Lib.hid hCC
     rw [hCC] at hR1 hcz hc1 hce hbc
     have Hcl := Lib.hid hcz
     have Hcz : Hid ((Tryz.prog.info? 41).map (·.size) = some CC.length) := Lib.hid (by rw [Tryz.sizeCame, hcz])
     have Hcz2 : Hid ((Tryz.prog.info? 41).map (·.size) = some CC.toArray.size) := Lib.hid (by rw [Tryz.sizeCame, List.size_toArray, hcz])
     have Hzz : Hid (Tryz.zeroCells41.size = CC.toArray.size) := Lib.hid (by rw [show CC.toArray.size = 71 by rw [List.size_toArray, hcz]]; rfl)
     have Hez : Hid ((Tryz.prog.info? 39).map (·.size) = some (e.cells pv sv).length) := Lib.hid (by rw [Tryz.sizeEntry, hez])
     have Hc1 := Lib.hid hc1
     have Hce := Lib.hid hce
     have HR1 := Lib.hid hR1
     have hq0 := heap_alloc_new wr (.cells CC.toArray 41)
     have hFq : Fr NoB wr (wr.alloc (.cells CC.toArray 41)) := Fr.refl.alloc _
     clear hcz hc1 hCC hez hR1 ea es hp1 hs1 hce hE
     go_upto_region 22 with (first
      | (with_reducible refine wpList_load_mid rfl 41 _ rfl b (o + i * 71) rfl CC d1 HR1.out Hu1.out Hd1.out Hcz.out ?_)
      | ((with_reducible refine wpList_store_new (w := wr) rfl 41 _ _ rfl _ CC.toArray wr.heap.size rfl ?_ ?_ Hcz2.out Hzz.out Hc1.out ?_); rfl; rfl))
     change Code.wp _ _ _ _ (wr.alloc (.cells CC.toArray 41))
     obtain ⟨Wq, hWq⟩ : ∃ V, wr.alloc (.cells CC.toArray 41) = V := ⟨_, rfl⟩
     rw [hWq] at hq0 hFq ⊢
     obtain ⟨q, hqq⟩ : ∃ x, wr.heap.size = x := ⟨_, rfl⟩
     rw [hqq] at hq0 ⊢
     have hlt2 : B2 < q ∧ bl2 < q := by rw [← hqq]; exact ⟨HC.out.t.ch.lt, HC.out.t.li.lt⟩
     have Hqq := Lib.hid hlt2
     clear hWq hqq hlt2
     have hlarge := large_c Old Old e pv sv Wq hok (hpay.fr hFq (fun _ _ _ _ h => h)) (hsgs.fr hFq (fun _ _ _ h => h))
     obtain ⟨L, hL⟩ : ∃ x, pLarge e = x := ⟨_, rfl⟩
     rw [hL] at hlarge
     have hq := range_block hq0
     rw [List.toList_toArray, Hce.out, range_append] at hq
     have HL := Lib.hid hL
     have Hlarge := Lib.hid hlarge
     have HQ := Lib.hid hq.1
     have Hqo := Lib.hid hq0
     have HFq := Lib.hid hFq
     have Hok := Lib.hid hok
     clear hL hlarge hq hq0 hFq hok hpay hsgs
     obtain ⟨EC, hEC⟩ : ∃ x, e.cells pv sv = x := ⟨_, rfl⟩
     rw [hEC] at Hlarge HQ Hez Hce hbc
     have HEC := Lib.hid hEC
     have Hbc := Lib.hid hbc
     clear hEC hbc
     go_wp2_with (with_reducible refine wpList_load_mid rfl 39 _ rfl q 0 rfl EC d HQ.out Hu.out Hd.out Hez.out ?_)
     refine Hlarge.out.mono ?_
     rintro r w3 ⟨rfl, hF3⟩
     have HC3 := Lib.hid (HC.out.keep (HFq.out.trans' hF3))
     have Hqo3 := Lib.hid (hF3.block _ _ Hqo.out (fun h => h))
     clear hF3 Hlarge HQ HFq Hqo HC
     cases L
     ·obtain ⟨idn, hidn⟩ : ∃ x, e.ident = x := ⟨_, rfl⟩
      obtain ⟨ky, hkye⟩ : ∃ x, e.key = x := ⟨_, rfl⟩
      have hkl : (Lib.byteCells ky).length = 32 := by rw [byteCells_len, ← hkye]; exact Hok.out.2.1
      have hk1 := cells_one ky
      have hparts : ∀ V : World, V.heap[q]? = some (.cells CC.toArray 41 (0, 0)) → V.rangeAt q 0 EC ∧ V.cell? ⟨q, 36, none⟩ = some (.string ⟨idn.toArray⟩) ∧ V.rangeAt q 37 (Lib.byteCells ky) ∧ V.cell? ⟨q, 70, none⟩ = some (.int .i64 pos) := fun V hV => by
       have h1 := range_block hV
       rw [List.toList_toArray, Hce.out, range_append] at h1
       have h2 := h1.1
       rw [← HEC.out] at h2
       obtain ⟨-, -, -, -, -, k36, kK, -⟩ := En.parts Hok.out h2
       rw [hidn] at k36
       rw [hkye] at kK
       refine ⟨h1.1, k36, kK, ?_⟩
       have h3 := h1.2 0 _ rfl
       rw [← HEC.out, En.size Hok.out] at h3
       exact h3
      obtain ⟨KC, hKC⟩ : ∃ x, Lib.byteCells ky = x := ⟨_, rfl⟩
      simp only [hKC] at hkl hk1 hparts
      have Hparts := Lib.hid hparts
      have Hkl := Lib.hid hkl
      have Hk1 := Lib.hid hk1
      have Hky := Lib.hid hKC
      have Hidn := Lib.hid hidn
      have Hkye := Lib.hid hkye
      have Hkz : Hid ((Tryz.prog.info? 24).map (·.size) = some KC.length) := Lib.hid (by rw [Tryz.sizeKey, hkl])
      have hb1 := built_list (P := Tryz.prog) hik hk0 hk1' (by rfl) (by decide) (by decide : 0 < 1) (by decide) [.agg KC.toArray] (fun v hv => by
       obtain rfl : v = .agg KC.toArray := by simpa using hv
       show KC.toArray.size = 32
       rw [List.size_toArray, Hkl.out]) rfl
      have Hbk : Hid (Tryz.prog.builtSlice 24 1 [(0, .agg KC.toArray)] = some KC.toArray) := Lib.hid (by
       have e : ([Value.agg KC.toArray].flatMap fun v => v.cells.toList).toArray = KC.toArray := by simp [Value.cells]
       rw [e] at hb1
       exact hb1)
      have hb2 := built_list (P := Tryz.prog) his hs0 hs1' (by rfl) (by decide) (by decide : 0 < 1) (by decide) [.string ⟨idn.toArray⟩] (fun v hv => by
       obtain rfl : v = .string ⟨idn.toArray⟩ := by simpa using hv
       rfl) rfl
      have Hbn : Hid (Tryz.prog.builtSlice 9 1 [(0, .string ⟨idn.toArray⟩)] = some #[.string ⟨idn.toArray⟩]) := Lib.hid hb2
      have Hnl : Hid (ns.length ≤ 100) := Lib.hid (by rw [HD.out.nl]; have := Hlim.out; omega)
      have Hkn : Hid (ks.length ≤ 100) := Lib.hid (by rw [HD.out.kl]; have := Hlim.out; omega)
      have Hml : Hid (ms.length ≤ 100) := Lib.hid (by have := HD.out.ml; have := Hlim.out; omega)
      clear hkl hk1 hparts hidn hkye hKC hb1 hb2
      go_upto_region 24 with (fail)
      go_cut [7, 8] from 80 to 91 (fun v7 v8 wv => CpS B2 base tb2 B2 bl2 (la.length + i) t ms (ns ++ [idn]) (ks ++ [ky]) u12 v7 v8 g lv w wk wv ∧ Fr MNK w3 wv)
      case first =>
       as_aux_lemma =>
        have HC0 := Lib.hid (HC3.out.keep (Fr.refl (M := NoB)).drew)
        refine wp_region_held_drew (S := fun V => Hid (Fr MNK w3 V)) (by kernel_rfl) (Lib.hid Fr.refl.drew) (fun hHeld => ?_)
        simp only [qL, qL1, qL0, qR, qR1, qR0]
        iterate 4
         refine qt (v := ?_) rfl (Or.inl ⟨by rfl, ?_⟩) hHeld ?_
         rotate_left
         ·intro W hSw
          obtain ⟨-, h36, -, -⟩ := Hparts.out _ (hSw.out.block _ _ Hqo3.out not_mnk)
          try simp only [qG, qG0, qG1]
          go_simp
          try rw [if_neg (by omega)]
          try with_reducible rfl
         try simp only [Act.put, qS, qS0, qS1, qG, qG0, qG1, qM0, qM1]
        refine qi (i := 6) (v := ?_) rfl (Or.inl ⟨by rfl, ?_⟩) hHeld ?_
        rotate_left
        ·intro W hSw
         obtain ⟨-, h36, -, -⟩ := Hparts.out _ (hSw.out.block _ _ Hqo3.out not_mnk)
         try simp only [qG, qG0, qG1]
         go_simp
         try rw [if_neg (by omega)]
         try with_reducible rfl
        try simp only [Act.put, qS, qS0, qS1, qG, qG0, qG1, qM0, qM1]
        refine qi (i := 7) (v := ?_) rfl (Or.inl ⟨by rfl, ?_⟩) hHeld ?_
        rotate_left
        ·intro W hSw
         obtain ⟨-, h36, -, -⟩ := Hparts.out _ (hSw.out.block _ _ Hqo3.out not_mnk)
         try simp only [qG, qG0, qG1]
         go_simp
         try rw [if_neg (by omega)]
         try with_reducible rfl
        try simp only [Act.put, qS, qS0, qS1, qG, qG0, qG1, qM0, qM1]
        refine qi (i := 8) (v := ?_) rfl (Or.inl ⟨by rfl, ?_⟩) hHeld ?_
        rotate_left
        ·intro W hSw
         obtain ⟨-, h36, -, -⟩ := Hparts.out _ (hSw.out.block _ _ Hqo3.out not_mnk)
         try simp only [qG, qG0, qG1]
         go_simp
         try rw [if_neg (by omega)]
         try with_reducible rfl
        try simp only [Act.put, qS, qS0, qS1, qG, qG0, qG1, qM0, qM1]
        refine qi (i := 9) rfl (yieldsIf_load_mid (by rfl) 24 _ rfl q 37 rfl KC (.array 32 5) (fun V h => (Hparts.out _ (h.out.block _ _ Hqo3.out not_mnk)).2.2.1) Tryz.underKey rfl Hkz.out) hHeld ?_
        try simp only [Act.put, qS, qS0, qS1, qG, qG0, qG1, qM0, qM1]
        refine wpAnyH_ready (rs := [4, 10]) (by kernel_rfl) (by simp) (AllReadyH.cons rfl (fun K hK => ?_) (AllReadyH.cons rfl (fun K hK => ?_) AllReadyH.nil))
        ·try simp only [qG, qG0, qG1]
         rw [if_pos (by rfl)]
         refine wp_buildSliceTo 63 9 1 _ rfl Tryz.underlying63 #[.string ⟨idn.toArray⟩] (Eq.trans (congrArg (Tryz.prog.builtSlice 9 1) (by kernel_rfl)) Hbn.out) ?_
         refine hK.out _ _ (Lib.hid (hHeld.out.alloc _)) (fun hHeld => ?_)
         clear hK K
         have HA := Lib.hid (HC0.out.keep (Fr.refl.alloc (.cells #[.string ⟨idn.toArray⟩] 9)))
         have La := Lib.hid (heap_alloc_new w3.drew (.cells #[.string ⟨idn.toArray⟩] 9))
         try simp only [Act.put, qS, qS0, qS1, qG, qG0, qG1, qM0, qM1]
         refine wpAnyH_ready (rs := [5, 10]) (by kernel_rfl) (by simp) (AllReadyH.cons rfl (fun K hK => ?_) (AllReadyH.cons rfl (fun K hK => ?_) AllReadyH.nil))
         ·try simp only [qG, qG0, qG1]
          rw [if_pos (by rfl)]
          refine wp_append_at _ _ 63 (by rfl) base 9 is (.string ⟨#[]⟩) 1 16 Tryz.underlying63 his hs0 hs1' hs2 rfl (by decide) _ _ _ (by rfl) HA.out.n ⟨w3.drew.heap.size, 0, none⟩ 1 1 [.string ⟨idn.toArray⟩] (by rfl) rfl (lit_at La.out) (fun u hu => by obtain rfl : u = .string ⟨idn.toArray⟩ := (by simpa using hu); rfl) (by have := Hnl.out; unfold maxLen; omega) (by have := Hnl.out; omega) HA.out.bN_le ?_
          intro v7 V2 hown hg _
          refine hK.out _ _ (Lib.hid (mnk_grow hHeld.out HA.out.n (fun _ h _ => .inl h) hg)) (fun hHeld => ?_)
          clear hK K
          have HB := Lib.hid (HA.out.growN (ns' := ns ++ [idn]) (by rw [strVs_push, len_push]; exact hown) hg)
          try simp only [Act.put, qS, qS0, qS1, qG, qG0, qG1, qM0, qM1]
          refine qr (i := 10) (by kernel_rfl) rfl (fun K hK => ?_)
          try simp only [qG, qG0, qG1]
          rw [if_pos (by rfl)]
          refine wp_buildSliceTo 58 24 1 _ rfl Tryz.underlying58 KC.toArray (Eq.trans (congrArg (Tryz.prog.builtSlice 24 1) (by kernel_rfl)) Hbk.out) ?_
          refine hK.out _ _ (Lib.hid (hHeld.out.alloc _)) (fun hHeld => ?_)
          clear hK K
          have HCc := Lib.hid (HB.out.keep (Fr.refl.alloc (.cells KC.toArray 24)))
          have Lb := Lib.hid (heap_alloc_new V2 (.cells KC.toArray 24))
          try simp only [Act.put, qS, qS0, qS1, qG, qG0, qG1, qM0, qM1]
          refine qr (i := 11) (by kernel_rfl) rfl (fun K hK => ?_)
          try simp only [qG, qG0, qG1]
          rw [if_pos (by rfl)]
          refine wp_append_at _ _ 58 (by rfl) base 24 ik (.agg #[.int .u8 0, .int .u8 0, .int .u8 0, .int .u8 0, .int .u8 0, .int .u8 0, .int .u8 0, .int .u8 0, .int .u8 0, .int .u8 0, .int .u8 0, .int .u8 0, .int .u8 0, .int .u8 0, .int .u8 0, .int .u8 0, .int .u8 0, .int .u8 0, .int .u8 0, .int .u8 0, .int .u8 0, .int .u8 0, .int .u8 0, .int .u8 0, .int .u8 0, .int .u8 0, .int .u8 0, .int .u8 0, .int .u8 0, .int .u8 0, .int .u8 0, .int .u8 0]) 32 32 Tryz.underlying58 hik hk0 hk1' hk2 rfl (by decide) _ _ _ (by rfl) HCc.out.k ⟨V2.heap.size, 0, none⟩ 1 1 KC (by rfl) (by rw [Hkl.out]) (lit_at Lb.out) Hk1.out (by have := Hkn.out; unfold maxLen; omega) (by have := Hkn.out; omega) HCc.out.bN_le ?_
          intro v8 V3 hown hg _
          refine hK.out _ _ (Lib.hid (mnk_grow hHeld.out HCc.out.k (fun _ h _ => .inr h) hg)) (fun hHeld => ?_)
          clear hK K
          have HDd := Lib.hid (HCc.out.growK (ks' := ks ++ [ky]) (by rw [keys_push, len_push, Hky.out]; exact hown) hg)
          try simp only [Act.put, qS, qS0, qS1, qG, qG0, qG1, qM0, qM1]
          refine qi (i := 12) (v := ?_) rfl (Or.inl ⟨by rfl, ?_⟩) hHeld ?_
          rotate_left
          ·intro W hSw
           obtain ⟨-, h36, -, -⟩ := Hparts.out _ (hSw.out.block _ _ Hqo3.out not_mnk)
           try simp only [qG, qG0, qG1]
           go_simp
           try rw [if_neg (by omega)]
           try with_reducible rfl
          try simp only [Act.put, qS, qS0, qS1, qG, qG0, qG1, qM0, qM1]
          refine qi (i := 13) (v := ?_) rfl (Or.inl ⟨by rfl, ?_⟩) hHeld ?_
          rotate_left
          ·intro W hSw
           obtain ⟨-, h36, -, -⟩ := Hparts.out _ (hSw.out.block _ _ Hqo3.out not_mnk)
           try simp only [qG, qG0, qG1]
           go_simp
           try rw [if_neg (by omega)]
           try with_reducible rfl
          try simp only [Act.put, qS, qS0, qS1, qG, qG0, qG1, qM0, qM1]
          refine wpAnyH_done (by kernel_rfl) ?_ _
          have HE := Lib.hid (And.intro HDd.out hHeld.out)
          clear hHeld
          go_wp2_with fail
          go_meet
          case rel => exact HE.out
         ·try simp only [qG, qG0, qG1]
          rw [if_pos (by rfl)]
          refine wp_buildSliceTo 58 24 1 _ rfl Tryz.underlying58 KC.toArray (Eq.trans (congrArg (Tryz.prog.builtSlice 24 1) (by kernel_rfl)) Hbk.out) ?_
          refine hK.out _ _ (Lib.hid (hHeld.out.alloc _)) (fun hHeld => ?_)
          clear hK K
          have HB := Lib.hid (HA.out.keep (Fr.refl.alloc (.cells KC.toArray 24)))
          have Lb := Lib.hid (heap_alloc_new (w3.drew.alloc (.cells #[.string ⟨idn.toArray⟩] 9)) (.cells KC.toArray 24))
          try simp only [Act.put, qS, qS0, qS1, qG, qG0, qG1, qM0, qM1]
          have La2 := Lib.hid ((Fr.alloc (M := NoB) Fr.refl (.cells KC.toArray 24)).block _ _ La.out (fun h => h))
          refine qr (i := 5) (by kernel_rfl) rfl (fun K hK => ?_)
          try simp only [qG, qG0, qG1]
          rw [if_pos (by rfl)]
          refine wp_append_at _ _ 63 (by rfl) base 9 is (.string ⟨#[]⟩) 1 16 Tryz.underlying63 his hs0 hs1' hs2 rfl (by decide) _ _ _ (by rfl) HB.out.n ⟨w3.drew.heap.size, 0, none⟩ 1 1 [.string ⟨idn.toArray⟩] (by rfl) rfl (lit_at La2.out) (fun u hu => by obtain rfl : u = .string ⟨idn.toArray⟩ := (by simpa using hu); rfl) (by have := Hnl.out; unfold maxLen; omega) (by have := Hnl.out; omega) HB.out.bN_le ?_
          intro v7 V2 hown hg _
          refine hK.out _ _ (Lib.hid (mnk_grow hHeld.out HB.out.n (fun _ h _ => .inl h) hg)) (fun hHeld => ?_)
          clear hK K
          have HCc := Lib.hid (HB.out.growN (ns' := ns ++ [idn]) (by rw [strVs_push, len_push]; exact hown) hg)
          try simp only [Act.put, qS, qS0, qS1, qG, qG0, qG1, qM0, qM1]
          have Lb2 := Lib.hid (block_grow Lb.out HB.out.n (by decide) hg)
          refine qr (i := 11) (by kernel_rfl) rfl (fun K hK => ?_)
          try simp only [qG, qG0, qG1]
          rw [if_pos (by rfl)]
          refine wp_append_at _ _ 58 (by rfl) base 24 ik (.agg #[.int .u8 0, .int .u8 0, .int .u8 0, .int .u8 0, .int .u8 0, .int .u8 0, .int .u8 0, .int .u8 0, .int .u8 0, .int .u8 0, .int .u8 0, .int .u8 0, .int .u8 0, .int .u8 0, .int .u8 0, .int .u8 0, .int .u8 0, .int .u8 0, .int .u8 0, .int .u8 0, .int .u8 0, .int .u8 0, .int .u8 0, .int .u8 0, .int .u8 0, .int .u8 0, .int .u8 0, .int .u8 0, .int .u8 0, .int .u8 0, .int .u8 0, .int .u8 0]) 32 32 Tryz.underlying58 hik hk0 hk1' hk2 rfl (by decide) _ _ _ (by rfl) HCc.out.k ⟨(w3.drew.alloc (.cells #[.string ⟨idn.toArray⟩] 9)).heap.size, 0, none⟩ 1 1 KC (by rfl) (by rw [Hkl.out]) (lit_at Lb2.out) Hk1.out (by have := Hkn.out; unfold maxLen; omega) (by have := Hkn.out; omega) HCc.out.bN_le ?_
          intro v8 V3 hown hg _
          refine hK.out _ _ (Lib.hid (mnk_grow hHeld.out HCc.out.k (fun _ h _ => .inr h) hg)) (fun hHeld => ?_)
          clear hK K
          have HDd := Lib.hid (HCc.out.growK (ks' := ks ++ [ky]) (by rw [keys_push, len_push, Hky.out]; exact hown) hg)
          try simp only [Act.put, qS, qS0, qS1, qG, qG0, qG1, qM0, qM1]
          refine qi (i := 12) (v := ?_) rfl (Or.inl ⟨by rfl, ?_⟩) hHeld ?_
          rotate_left
          ·intro W hSw
           obtain ⟨-, h36, -, -⟩ := Hparts.out _ (hSw.out.block _ _ Hqo3.out not_mnk)
           try simp only [qG, qG0, qG1]
           go_simp
           try rw [if_neg (by omega)]
           try with_reducible rfl
          try simp only [Act.put, qS, qS0, qS1, qG, qG0, qG1, qM0, qM1]
          refine qi (i := 13) (v := ?_) rfl (Or.inl ⟨by rfl, ?_⟩) hHeld ?_
          rotate_left
          ·intro W hSw
           obtain ⟨-, h36, -, -⟩ := Hparts.out _ (hSw.out.block _ _ Hqo3.out not_mnk)
           try simp only [qG, qG0, qG1]
           go_simp
           try rw [if_neg (by omega)]
           try with_reducible rfl
          try simp only [Act.put, qS, qS0, qS1, qG, qG0, qG1, qM0, qM1]
          refine wpAnyH_done (by kernel_rfl) ?_ _
          have HE := Lib.hid (And.intro HDd.out hHeld.out)
          clear hHeld
          go_wp2_with fail
          go_meet
          case rel => exact HE.out
        ·try simp only [qG, qG0, qG1]
         rw [if_pos (by rfl)]
         refine wp_buildSliceTo 58 24 1 _ rfl Tryz.underlying58 KC.toArray (Eq.trans (congrArg (Tryz.prog.builtSlice 24 1) (by kernel_rfl)) Hbk.out) ?_
         refine hK.out _ _ (Lib.hid (hHeld.out.alloc _)) (fun hHeld => ?_)
         clear hK K
         have HA := Lib.hid (HC0.out.keep (Fr.refl.alloc (.cells KC.toArray 24)))
         have Lb := Lib.hid (heap_alloc_new w3.drew (.cells KC.toArray 24))
         try simp only [Act.put, qS, qS0, qS1, qG, qG0, qG1, qM0, qM1]
         refine qr (i := 4) (by kernel_rfl) rfl (fun K hK => ?_)
         try simp only [qG, qG0, qG1]
         rw [if_pos (by rfl)]
         refine wp_buildSliceTo 63 9 1 _ rfl Tryz.underlying63 #[.string ⟨idn.toArray⟩] (Eq.trans (congrArg (Tryz.prog.builtSlice 9 1) (by kernel_rfl)) Hbn.out) ?_
         refine hK.out _ _ (Lib.hid (hHeld.out.alloc _)) (fun hHeld => ?_)
         clear hK K
         have HB := Lib.hid (HA.out.keep (Fr.refl.alloc (.cells #[.string ⟨idn.toArray⟩] 9)))
         have La := Lib.hid (heap_alloc_new (w3.drew.alloc (.cells KC.toArray 24)) (.cells #[.string ⟨idn.toArray⟩] 9))
         try simp only [Act.put, qS, qS0, qS1, qG, qG0, qG1, qM0, qM1]
         have Lb1 := Lib.hid ((Fr.alloc (M := NoB) Fr.refl (.cells #[.string ⟨idn.toArray⟩] 9)).block _ _ Lb.out (fun h => h))
         refine qr (i := 5) (by kernel_rfl) rfl (fun K hK => ?_)
         try simp only [qG, qG0, qG1]
         rw [if_pos (by rfl)]
         refine wp_append_at _ _ 63 (by rfl) base 9 is (.string ⟨#[]⟩) 1 16 Tryz.underlying63 his hs0 hs1' hs2 rfl (by decide) _ _ _ (by rfl) HB.out.n ⟨(w3.drew.alloc (.cells KC.toArray 24)).heap.size, 0, none⟩ 1 1 [.string ⟨idn.toArray⟩] (by rfl) rfl (lit_at La.out) (fun u hu => by obtain rfl : u = .string ⟨idn.toArray⟩ := (by simpa using hu); rfl) (by have := Hnl.out; unfold maxLen; omega) (by have := Hnl.out; omega) HB.out.bN_le ?_
         intro v7 V2 hown hg _
         refine hK.out _ _ (Lib.hid (mnk_grow hHeld.out HB.out.n (fun _ h _ => .inl h) hg)) (fun hHeld => ?_)
         clear hK K
         have HCc := Lib.hid (HB.out.growN (ns' := ns ++ [idn]) (by rw [strVs_push, len_push]; exact hown) hg)
         try simp only [Act.put, qS, qS0, qS1, qG, qG0, qG1, qM0, qM1]
         have Lb2 := Lib.hid (block_grow Lb1.out HB.out.n (by decide) hg)
         refine qr (i := 11) (by kernel_rfl) rfl (fun K hK => ?_)
         try simp only [qG, qG0, qG1]
         rw [if_pos (by rfl)]
         refine wp_append_at _ _ 58 (by rfl) base 24 ik (.agg #[.int .u8 0, .int .u8 0, .int .u8 0, .int .u8 0, .int .u8 0, .int .u8 0, .int .u8 0, .int .u8 0, .int .u8 0, .int .u8 0, .int .u8 0, .int .u8 0, .int .u8 0, .int .u8 0, .int .u8 0, .int .u8 0, .int .u8 0, .int .u8 0, .int .u8 0, .int .u8 0, .int .u8 0, .int .u8 0, .int .u8 0, .int .u8 0, .int .u8 0, .int .u8 0, .int .u8 0, .int .u8 0, .int .u8 0, .int .u8 0, .int .u8 0, .int .u8 0]) 32 32 Tryz.underlying58 hik hk0 hk1' hk2 rfl (by decide) _ _ _ (by rfl) HCc.out.k ⟨w3.drew.heap.size, 0, none⟩ 1 1 KC (by rfl) (by rw [Hkl.out]) (lit_at Lb2.out) Hk1.out (by have := Hkn.out; unfold maxLen; omega) (by have := Hkn.out; omega) HCc.out.bN_le ?_
         intro v8 V3 hown hg _
         refine hK.out _ _ (Lib.hid (mnk_grow hHeld.out HCc.out.k (fun _ h _ => .inr h) hg)) (fun hHeld => ?_)
         clear hK K
         have HDd := Lib.hid (HCc.out.growK (ks' := ks ++ [ky]) (by rw [keys_push, len_push, Hky.out]; exact hown) hg)
         try simp only [Act.put, qS, qS0, qS1, qG, qG0, qG1, qM0, qM1]
         refine qi (i := 12) (v := ?_) rfl (Or.inl ⟨by rfl, ?_⟩) hHeld ?_
         rotate_left
         ·intro W hSw
          obtain ⟨-, h36, -, -⟩ := Hparts.out _ (hSw.out.block _ _ Hqo3.out not_mnk)
          try simp only [qG, qG0, qG1]
          go_simp
          try rw [if_neg (by omega)]
          try with_reducible rfl
         try simp only [Act.put, qS, qS0, qS1, qG, qG0, qG1, qM0, qM1]
         refine qi (i := 13) (v := ?_) rfl (Or.inl ⟨by rfl, ?_⟩) hHeld ?_
         rotate_left
         ·intro W hSw
          obtain ⟨-, h36, -, -⟩ := Hparts.out _ (hSw.out.block _ _ Hqo3.out not_mnk)
          try simp only [qG, qG0, qG1]
          go_simp
          try rw [if_neg (by omega)]
          try with_reducible rfl
         try simp only [Act.put, qS, qS0, qS1, qG, qG0, qG1, qM0, qM1]
         refine wpAnyH_done (by kernel_rfl) ?_ _
         have HE := Lib.hid (And.intro HDd.out hHeld.out)
         clear hHeld
         go_wp2_with fail
         go_meet
         case rel => exact HE.out
      case rest =>
       obtain ⟨hC4, hF4⟩ := hcut
       obtain ⟨w4, hw4⟩ : ∃ x, x = wc := ⟨_, rfl⟩
       rw [← hw4] at hC4 hF4 ⊢
       clear hw4 wc
       have hqo4 := hF4.block _ _ Hqo3.out not_mnk
       obtain ⟨hQ4, -, -, k70⟩ := Hparts.out _ hqo4
       have hE4 := HE0.out.fr hC4.fr (fun _ _ _ h => h)
       have hfine := fine17 hE4.1 hE4.2.1 hE4.2.2 hC4.gl HL.out
       have hidl : e.ident.length ≤ 500 := (pLarge_fine HL.out).2.2.2.1
       have htake := take_c Old Old e pv sv pos w4 hC4.t hfine (by have := Hlim.out; omega)
       simp only [HEC.out] at htake
       have hD := HD.out.step (c := ⟨e, pv, sv, pos⟩) Hok.out Hps.out hidl (fun h1 h2 => bind_key0 h1 h2)
       simp only [Hidn.out, Hkye.out] at hD
       obtain ⟨R, hRv⟩ : ∃ x, pBind psub t e = x := ⟨_, rfl⟩
       rw [hRv] at htake hD
       obtain ⟨T2, hT2⟩ : ∃ x, t.take psub e pos = x := ⟨_, rfl⟩
       simp only [hT2] at htake hD
       have HC4 := Lib.hid hC4
       have HQ4 := Lib.hid hQ4
       have Hqo4 := Lib.hid hqo4
       have HD4 := Lib.hid hD
       have Htake := Lib.hid htake
       have Hmone := Lib.hid (CameV.one (c := ⟨e, pv, sv, pos⟩) Hps.out.1 Hps.out.2)
       rw [HCC.out] at Hmone
       clear hC4 hF4 hqo4 hQ4 hE4 hfine hidl htake hD hRv hT2 HC3 Hqo3 HD HE0
       have hwr : wrap64 ((i : Int) + 1) = (i : Int) + 1 := by have := Hi90.out; unfold wrap64; omega
       by_cases hR0 : R = 0
       ·subst hR0
        simp only [if_true, show errV 0 = .nilIface from rfl] at Htake HD4
        go_wp2_with (with_reducible refine wpList_load_mid rfl 39 _ rfl q 0 rfl EC d HQ4.out Hu.out Hd.out Hez.out ?_)
        refine Htake.out.mono ?_
        rintro r w6 ⟨rfl, ⟨g6, lv6, hT6⟩, hF6⟩
        have HC6 := Lib.hid (HC4.out.took hF6 hT6)
        have hn1 : ¬ TM B2 B2 bl2 q (.cells CC.toArray 41 (0, 0)) := by
         have := Hqq.out
         rintro (h | h | ⟨-, c, f, h⟩)
         ·omega
         ·omega
         ·injection h with _ h _; revert h; decide
        obtain ⟨hQ6, -, -, k706⟩ := Hparts.out _ (hF6.block _ _ Hqo4.out hn1)
        have HQ6 := Lib.hid hQ6
        have hb3 := built_list (P := Tryz.prog) hic hc0 hc1' (by rfl) (by decide) (by decide : 0 < 1) (by decide) [.agg CC.toArray] (fun v hv => by
         obtain rfl : v = .agg CC.toArray := by simpa using hv
         show CC.toArray.size = 71
         rw [List.size_toArray, Hcl.out]) rfl
        have Hbs : Hid (Tryz.prog.builtSlice 67 1 [(0, .agg CC.toArray)] = some CC.toArray) := Lib.hid (by
         have e : ([Value.agg CC.toArray].flatMap fun v => v.cells.toList).toArray = CC.toArray := by simp [Value.cells]
         rw [e] at hb3
         exact hb3)
        clear hT6 hF6 hn1 hQ6 hb3 HQ4 Hqo4 HC4 Htake k70
        go_wp2_with (first
         | (with_reducible refine wpList_load_mid rfl 39 _ rfl q 0 rfl EC d HQ6.out Hu.out Hd.out Hez.out ?_)
         | ((with_reducible refine wpList_buildTo ?_ 67 _ rfl _ rfl CC.toArray ?_ ?_); rfl; (refine Eq.trans (congrArg (Tryz.prog.built 67) ?_) Hbc.out; kernel_rfl))
         | ((with_reducible refine Great.wpList_buildSliceTo ?_ 62 67 1 _ rfl w6.heap.size rfl _ rfl Tryz.underlying62 CC.toArray ?_ ?_); rfl; (refine Eq.trans (congrArg (Tryz.prog.builtSlice 67 1) ?_) Hbs.out; kernel_rfl))
         | (at_builtin; refine stop_here ?_))
        refine Lib.hid ?_
        refine wpList_append_own _ rfl _ _ 62 rfl B2 67 ic (.agg Tryz.zeroCells67) 71 168 Tryz.underlying62 hic hc0 hc1' hc2 rfl (by decide) _ ms.length (ms.flatMap CameV.cells) rfl (HC6.out.m.alloc _) ⟨w6.heap.size, 0, none⟩ 1 1 CC rfl (by rw [Hcl.out]) (lit_cells w6 CC 67) (fun u hu => by
         have h := Hmone.out
         rw [List.all_toArray, List.all_eq_true] at h
         exact h u hu) (by have := Hml.out; unfold maxLen; omega) (by have := Hml.out; omega) (Nat.le_trans HC6.out.bT_le (by rw [World.size_alloc]; omega)) ?_
        intro vm' w7 hown hgr _
        have hvm' : ∃ g c, vm' = .slice (some ⟨g, 0, none⟩) (ms ++ [(⟨e, pv, sv, pos⟩ : CameV)]).length c := by
         rcases row_form' hown with ⟨-, h0⟩ | ⟨g, c, h0, -⟩
         ·omega
         ·exact ⟨g, c, by rw [len_push]; exact h0⟩
        have HC7 := Lib.hid ((HC6.out.keep (Fr.refl.alloc (.cells CC.toArray 67))).growM (ms' := ms ++ [⟨e, pv, sv, pos⟩]) (by rw [cames_push, len_push, HCC.out]; exact hown) hgr)
        have Hvm' := Lib.hid hvm'
        clear hown hgr hvm' HC6 HQ6 Hvm
        go_wp2_with fail
        go_roundg (gko - 1)
        case measure => omega
        case rel => exact ⟨i + 1, by simp [hwr], by omega, by omega, T2, _, _, _, g6, lv6, HC7, HD4, Hvm'⟩
       ·have hE : errV R = .iface 56 (.int .i64 R) := by unfold errV; rw [if_neg hR0]
        simp only [hE, if_neg hR0] at Htake HD4
        clear hE hR0
        go_wp2_with (with_reducible refine wpList_load_mid rfl 39 _ rfl q 0 rfl EC d HQ4.out Hu.out Hd.out Hez.out ?_)
        refine Htake.out.mono ?_
        rintro r w6 ⟨rfl, ⟨g6, lv6, hT6⟩, hF6⟩
        have HC6 := Lib.hid (HC4.out.took hF6 hT6)
        clear hT6 hF6 HQ4 Hqo4 HC4 Htake k70
        go_wp2_with fail
        go_roundg (gko - 1)
        case measure => omega
        case rel => exact ⟨i + 1, by simp [hwr], by omega, by omega, T2, _, _, _, g6, lv6, HC6, HD4, Hvm⟩
     ·go_wp2_with fail
      go_ret
      exact ⟨rfl, HC3.out.fr⟩
    ·obtain rfl : i = lb.length := by omega
     have hlti : decide ((lb.length : Int) < lb.length) = false := decide_eq_false (by omega)
     have hla := Hla.out
     have hlb := Hlb.out
     have hT1 := HC1.out.t.mnk HC.out.fc
     have hM1 := CRow.ofRow (row_mnk HC1.out.m HC.out.fc (by decide) (by decide)) (by have := HD1.out.ml; omega) HD1.out.ok HD1.out.one
     have hns : ∀ s ∈ ns, s.length ≤ maxLen := fun s hs => by have := HD.out.ns s hs; unfold maxLen; omega
     have hst1 := stands_c ms1 _ u7 u8 ns ks 9 wr hT1 (by omega) hM1 HD1.out.tied HC.out.n HC.out.k (by have := HD.out.nl; omega) (by have := HD.out.kl; omega) hns HD.out.ks
     have hst2 := fun V (hV : Fr NoB wr V) => stands_c ms u12 u7 u8 ns ks 9 V (HC.out.keep hV).t (by omega) (CRow.ofRow (HC.out.keep hV).m (by have := HD.out.ml; omega) HD.out.ok HD.out.one) HD.out.tied (HC.out.keep hV).n (HC.out.keep hV).k (by have := HD.out.nl; omega) (by have := HD.out.kl; omega) hns HD.out.ks
     have Hst1 := Lib.hid hst1
     have Hst2 := Lib.hid hst2
     have HFw := Lib.hid HC.out.fr
     clear hst1 hst2 hT1 hM1 hns hla hlb hi hig hlt HC HD Hvm HC1 HD1
     go_wp2_with fail
     refine Hst1.out.mono ?_
     rintro r w7 ⟨rfl, hF7⟩
     have HF7 := Lib.hid hF7
     clear hF7
     go_wp2_with fail
     refine (Hst2.out _ HF7.out).mono ?_
     rintro r w8 ⟨rfl, hF8⟩
     have HF8 := Lib.hid hF8
     clear hF8
     go_wp2_with fail
     go_ret
     exact ⟨rfl, HFw.out.trans' (HF7.out.trans' HF8.out)⟩
end Go.Proofs.YtcddlemkimbkcaaGreatDoor
