/-
 The walk of chapter 17's stands: a table stands as the document says.
-/
import Derived.Test.YtcddlemkimbkcaaGreatDoorKSignerL
import Derived.Test.YtcddlemkimbkcaaGreatDoorKRefAt
import Derived.Test.YtcddlemkimbkcaaGreatDoorKAt
import Derived.Test.YtcddlemkimbkcaaGreatDoorKCpS
namespace Go.Proofs.YtcddlemkimbkcaaGreatDoor
set_option linter.unusedVariables false
set_option linter.unusedSimpArgs false
set_option linter.unusedSectionVars false
open Go.RowKit Go.Shelf
variable [OldK]
/-- a change, as the document has it -/
def chgOf (c : CameV) : Chg := ⟨c.pos, c.e.op != 3, c.e.key⟩
theorem hist_of {t : Tb} {m : List CameV} (ht : Tied t (m.map CameV.cm)) (n : Bs) : t.hist n = (hv m n).map chgOf := by
 rw [ht.hist, ← hv_cm, List.map_map]
 refine List.map_congr_left (fun c hc => ?_)
 have hz := ht.zero c.cm (List.mem_map_of_mem (hv_mem hc))
 show newC c.e c.pos = chgOf c
 unfold newC chgOf
 by_cases h3 : c.e.op = 3
 ·rw [if_pos h3]
  have h4 : c.e.key = zero32 := hz h3
  simp [h3, h4]
 ·rw [if_neg h3]
  simp [h3]
theorem row_str {w : World} {base g n cap m : Nat} {ns : List Bs} (h : w.ownsRow base 9 1 (.slice (some ⟨g, 0, none⟩) n cap) m (ns.map fun s => .string ⟨s.toArray⟩)) (i : Nat) (x : Bs) (hi : ns[i]? = some x) : w.cell? ⟨g, i, none⟩ = some (.string ⟨x.toArray⟩) := by
 have := h.cells (g := g) rfl i (.string ⟨x.toArray⟩) (by rw [List.getElem?_map, hi]; rfl)
 rw [Addr.add_lit] at this
 rw [Nat.zero_add] at this
 exact this
theorem row_keyL {w : World} {base g n cap m : Nat} {ks : List Bs} (h : w.ownsRow base 24 32 (.slice (some ⟨g, 0, none⟩) n cap) m (ks.flatMap Lib.byteCells)) (hk : ∀ x ∈ ks, x.length = 32) (i : Nat) (x : Bs) (hi : ks[i]? = some x) : w.rangeAt g (i * 32) (Lib.byteCells x) := by
 have e : ks.flatMap Lib.byteCells = kRow (ks.map fun k => (k, true)) := by
  unfold kRow
  rw [List.flatMap_map]
 rw [e] at h
 exact row_key h (fun y hy => by obtain ⟨z, hz, rfl⟩ := List.mem_map.1 hy; exact hk z hz) i (x, true) (by rw [List.getElem?_map, hi]; rfl)
theorem built_id (n : Bs) : Tryz.prog.built 54 [(0, .string ⟨n.toArray⟩)] = some (Sg.cells ⟨n, zero32, zero64⟩) := by kernel_rfl
/-- what a store of a whole change needs -/
theorem chgZ_s : (Tryz.prog.info? 117).map (·.size) = some (#[.int .i64 0, .bool false, .int .u8 0, .int .u8 0, .int .u8 0, .int .u8 0, .int .u8 0, .int .u8 0, .int .u8 0, .int .u8 0, .int .u8 0, .int .u8 0, .int .u8 0, .int .u8 0, .int .u8 0, .int .u8 0, .int .u8 0, .int .u8 0, .int .u8 0, .int .u8 0, .int .u8 0, .int .u8 0, .int .u8 0, .int .u8 0, .int .u8 0, .int .u8 0, .int .u8 0, .int .u8 0, .int .u8 0, .int .u8 0, .int .u8 0, .int .u8 0, .int .u8 0, .int .u8 0] : Array Value).size := by kernel_rfl
theorem chgZ_a : (#[.int .i64 0, .bool false, .int .u8 0, .int .u8 0, .int .u8 0, .int .u8 0, .int .u8 0, .int .u8 0, .int .u8 0, .int .u8 0, .int .u8 0, .int .u8 0, .int .u8 0, .int .u8 0, .int .u8 0, .int .u8 0, .int .u8 0, .int .u8 0, .int .u8 0, .int .u8 0, .int .u8 0, .int .u8 0, .int .u8 0, .int .u8 0, .int .u8 0, .int .u8 0, .int .u8 0, .int .u8 0, .int .u8 0, .int .u8 0, .int .u8 0, .int .u8 0, .int .u8 0, .int .u8 0] : Array Value).all (·.oneCell') = true := by kernel_rfl
theorem row_cells {w : World} {base s n : Nat} {e : TypeId} {v : Value} {xs : List Value} (h : w.ownsRow base e s v n xs) : (v = .slice none 0 0 ∧ n = 0) ∨ ∃ g cap, v = .slice (some ⟨g, 0, none⟩) n cap ∧ base ≤ g ∧ g < w.heap.size ∧ w.there g 0 (n * s) := by
 rcases h.2 with h | ⟨g, cap, cur, h1, h2, h3, h4, h5, h6, -⟩
 ·exact .inl h
 ·exact .inr ⟨g, cap, h1, h2, get_lt h3, there_block h3 (by rw [h6]; exact Nat.mul_le_mul_right _ h4)⟩
theorem rAt_len {m : List CameV} (h : ∀ c ∈ m, c.e.ok) (n : Bs) (p : Int) : (rAt (m.map CameV.cm) n p).1.length = 32 := by
 rw [rAt_of, ← hv_cm]
 cases hf : ((hv m n).map CameV.cm).reverse.find? (fun c => decide (c.2 ≤ p)) with
 | none => rfl
 | some c =>
   have h1 := List.mem_of_find?_eq_some hf
   rw [List.mem_reverse] at h1
   obtain ⟨c', hc, rfl⟩ := List.mem_map.1 h1
   exact (h c' (hv_mem hc)).2.1
set_option maxRecDepth 100000 in
set_option maxHeartbeats 8000000 in
theorem stands_c {base tb bnd bc bl b1 b2 : Nat} {t : Tb} {g lv : Bs → Option Value} (m : List CameV) (v vn vl : Value) (ns ks : List Bs) (place : Int) (w : World) (h : TBL base tb bnd bc bl t g lv w) (hbnd : bnd ≤ 1000000) (hm : CRow m v w) (ht : Tied t (m.map CameV.cm))
 (hn : w.ownsRow b1 9 1 vn ns.length (ns.map fun s => .string ⟨s.toArray⟩)) (hk : w.ownsRow b2 24 32 vl ks.length (ks.flatMap Lib.byteCells)) (hnl : ns.length ≤ 1000) (hkl : ks.length ≤ 1000) (hns : ∀ s ∈ ns, s.length ≤ maxLen) (hks : ∀ k ∈ ks, k.length = 32) :
 Calls Tryz.prog 36 #[.pointer (some ⟨tb, 0, none⟩), v, vn, vl, .int .i64 place] w fun e w' => e = .returned (.bool true) ∧ Fr NoB w w' := by
 have hnf : ∃ a c, vn = .slice a ns.length c := by
  rcases row_form' hn with ⟨rfl, h0⟩ | ⟨gb, cap, rfl, -⟩
  ·rw [h0]; exact ⟨_, _, rfl⟩
  ·exact ⟨_, _, rfl⟩
 obtain ⟨an, cn, hvn⟩ := hnf
 have hkf : ∃ a c, vl = .slice a ks.length c := by
  rcases row_form' hk with ⟨rfl, h0⟩ | ⟨gb, cap, rfl, -⟩
  ·rw [h0]; exact ⟨_, _, rfl⟩
  ·exact ⟨_, _, rfl⟩
 obtain ⟨ak, ck, hvk⟩ := hkf
 subst hvn hvk
 have HT := Lib.hid h
 have HM := Lib.hid hm
 have HTied := Lib.hid ht
 have HN := Lib.hid hn
 have HK := Lib.hid hk
 have Hns := Lib.hid hns
 have Hks := Lib.hid hks
 clear h hm ht hn hk hns hks
 go_enter Tryz.func36, Tryz.ntmps36
 go_wp2_with fail
 go_loopg [28] (ns.length + 1) (fun gf vi wr => ∃ i : Nat, vi = .int .i64 i ∧ i ≤ ns.length ∧ i + gf = ns.length + 1 ∧ Hid (Fr NoB w wr))
 case atStart => exact ⟨0, rfl, by omega, by omega, Lib.hid Fr.refl⟩
 case round =>
  obtain ⟨i, rfl, hi, hig, HFr⟩ := hrel
  obtain ⟨gko, hgko⟩ : ∃ x, x = gk := ⟨_, rfl⟩
  subst hgko
  obtain ⟨wo, rfl⟩ : ∃ wo : World, wo = wr := ⟨_, rfl⟩
  by_cases hlt : i < ns.length
  ·as_aux_lemma =>
    have hlti : decide ((i : Int) < ns.length) = true := decide_eq_true (by omega)
    obtain ⟨x, hx⟩ : ∃ x, ns[i]? = some x := ⟨_, List.getElem?_eq_getElem hlt⟩
    have hxl := Hns.out x (List.mem_of_getElem? hx)
    rcases row_form' HN.out with ⟨-, h0⟩ | ⟨gn, cpn, ean, -, hgn, -⟩
    ·omega
    injection ean with e1 e2 e3
    subst e1
    clear e2 e3
    have hstr := Fr.cell HFr.out (row_str HN.out i x hx) (fun _ h => h)
    have hbound := fun V (hV : Fr NoB w V) => bound_c x V (HT.out.keep hV) hxl
    have hrb := fun V (hV : Fr NoB w V) => refBound_c m v x V (HM.out.keep hV)
    have hat := fun V (hV : Fr NoB w V) => at_c x place V (HT.out.keep hV) hxl hbnd
    have hra := fun V (hV : Fr NoB w V) => refAt_c m v x place V (HM.out.keep hV)
    have hhi := fun V (hV : Fr NoB w V) => history_c x V (HT.out.keep hV) hxl hbnd
    have hrh := fun V (hV : Fr NoB w V) => refHist_c m v x V (HM.out.keep hV)
    have hsg := fun V (hV : Fr NoB w V) => signer17_c m v ⟨x, zero32, zero64⟩ V (HT.out.keep hV) (HM.out.keep hV) HTied.out ⟨rfl, rfl⟩ hxl
    have hbd := HTied.out.bound x
    have hbl := rBound_len HM.out.ok x
    have hat2 := HTied.out.at' x place
    have hho := hist_of HTied.out x
    obtain ⟨⟨bk, bh⟩, hbk⟩ : ∃ y, rBound (m.map CameV.cm) x = y := ⟨_, rfl⟩
    rw [hbk] at hbd hbl
    have hb1 : (t.last x).key = bk := congrArg Prod.fst hbd
    have hb2 : (t.last x).has = bh := congrArg Prod.snd hbd
    simp only [hb1, hb2] at hbound
    simp only [hbk] at hrb
    obtain ⟨⟨ck1, ch1⟩, hck⟩ : ∃ y, rAt (m.map CameV.cm) x place = y := ⟨_, rfl⟩
    rw [hck] at hat2
    simp only [hat2] at hat
    simp only [hck] at hra
    have hcl := rAt_len HM.out.ok x place
    rw [hck] at hcl
    simp only at hbl hcl
    have hK1l := byteCells_len bk
    rw [hbl] at hK1l
    have hK1o := all_oneCell_toArray (cells_one bk)
    have heq1 := fun V => eqIn_key bk bk hbl hbl V
    simp only [beq_self_eq_true] at heq1
    have hneq1 := fun V => neq_key bk bk hbl hbl V
    simp only [bne_self_eq_false] at hneq1
    have hK2l := byteCells_len ck1
    rw [hcl] at hK2l
    have hK2o := all_oneCell_toArray (cells_one ck1)
    have heq2 := fun V => eqIn_key ck1 ck1 hcl hcl V
    simp only [beq_self_eq_true] at heq2
    have hneq2 := fun V => neq_key ck1 ck1 hcl hcl V
    simp only [bne_self_eq_false] at hneq2
    obtain ⟨K1, hK1⟩ : ∃ y, Lib.byteCells bk = y := ⟨_, rfl⟩
    obtain ⟨K2, hK2⟩ : ∃ y, Lib.byteCells ck1 = y := ⟨_, rfl⟩
    simp only [hK1] at hbound hrb hK1l hK1o heq1 hneq1
    simp only [hK2] at hat hra hK2l hK2o heq2 hneq2
    have H1z : Hid ((Tryz.prog.info? 24).map (·.size) = some K1.length) := Lib.hid (by rw [Tryz.sizeKey, hK1l])
    have H1z2 : Hid ((Tryz.prog.info? 24).map (·.size) = some K1.toArray.size) := Lib.hid (by rw [Tryz.sizeKey, List.size_toArray, hK1l])
    have H1z3 : Hid ((#[.int .u8 0, .int .u8 0, .int .u8 0, .int .u8 0, .int .u8 0, .int .u8 0, .int .u8 0, .int .u8 0, .int .u8 0, .int .u8 0, .int .u8 0, .int .u8 0, .int .u8 0, .int .u8 0, .int .u8 0, .int .u8 0, .int .u8 0, .int .u8 0, .int .u8 0, .int .u8 0, .int .u8 0, .int .u8 0, .int .u8 0, .int .u8 0, .int .u8 0, .int .u8 0, .int .u8 0, .int .u8 0, .int .u8 0, .int .u8 0, .int .u8 0, .int .u8 0] : Array Value).size = K1.toArray.size) := Lib.hid (by rw [show K1.toArray.size = 32 by rw [List.size_toArray, hK1l]]; rfl)
    have H1o := Lib.hid hK1o
    have H2z : Hid ((Tryz.prog.info? 24).map (·.size) = some K2.length) := Lib.hid (by rw [Tryz.sizeKey, hK2l])
    have H2z2 : Hid ((Tryz.prog.info? 24).map (·.size) = some K2.toArray.size) := Lib.hid (by rw [Tryz.sizeKey, List.size_toArray, hK2l])
    have H2z3 : Hid ((#[.int .u8 0, .int .u8 0, .int .u8 0, .int .u8 0, .int .u8 0, .int .u8 0, .int .u8 0, .int .u8 0, .int .u8 0, .int .u8 0, .int .u8 0, .int .u8 0, .int .u8 0, .int .u8 0, .int .u8 0, .int .u8 0, .int .u8 0, .int .u8 0, .int .u8 0, .int .u8 0, .int .u8 0, .int .u8 0, .int .u8 0, .int .u8 0, .int .u8 0, .int .u8 0, .int .u8 0, .int .u8 0, .int .u8 0, .int .u8 0, .int .u8 0, .int .u8 0] : Array Value).size = K2.toArray.size) := Lib.hid (by rw [show K2.toArray.size = 32 by rw [List.size_toArray, hK2l]]; rfl)
    have H2o := Lib.hid hK2o
    have Hbound := Lib.hid hbound
    have Hrb := Lib.hid hrb
    have Hat := Lib.hid hat
    have Hra := Lib.hid hra
    have Hhi := Lib.hid hhi
    have Hrh := Lib.hid hrh
    have Hsg := Lib.hid hsg
    have Heq1 := Lib.hid heq1
    have Heq2 := Lib.hid heq2
    have Hneq1 := Lib.hid hneq1
    have Hneq2 := Lib.hid hneq2
    have Hho := Lib.hid hho
    have Hxl := Lib.hid hxl
    clear hbound hrb hat hra hhi hrh hsg heq1 heq2 hneq1 hneq2 hK1l hK1o hK2l hK2o hK1 hK2 hbl hcl hck hbk hb1 hb2 hbd hat2 hho hxl hx
    go_wp2_with fail
    refine (Hbound.out wo HFr.out).mono ?_
    rintro r w1 ⟨rfl, hF1⟩
    have hF1 := (hF1).alloc (.cells K1.toArray 24)
    have hq8 := range_block (heap_alloc_new w1 (.cells K1.toArray 24))
    rw [List.toList_toArray] at hq8
    have hqw : (w1).heap.size < (World.alloc w1 (.cells K1.toArray 24)).heap.size := by rw [World.size_alloc]; omega
    go_upto_region 5 with ((with_reducible refine wpList_store_new (w := w1) rfl 24 _ _ rfl _ K1.toArray (w1).heap.size rfl ?_ ?_ H1z2.out H1z3.out H1o.out ?_); rfl; rfl)
    change Code.wp _ _ _ _ (World.alloc w1 (.cells K1.toArray 24))
    obtain ⟨Wa, hw8⟩ : ∃ V, World.alloc w1 (.cells K1.toArray 24) = V := ⟨_, rfl⟩
    rw [hw8] at hF1 hq8 hqw ⊢
    obtain ⟨qa, hq8e⟩ : ∃ x, (w1).heap.size = x := ⟨_, rfl⟩
    rw [hq8e] at hq8 hqw ⊢
    have HQa := Lib.hid hq8
    have Hqa := Lib.hid hqw
    clear hw8 hq8e hq8 hqw
    have HFa := Lib.hid (HFr.out.trans' hF1)
    clear hF1
    go_wp2_with fail
    refine (Hrb.out Wa HFa.out).mono ?_
    rintro r w2 ⟨rfl, hF2⟩
    have hF2 := (hF2).alloc (.cells K1.toArray 24)
    have hq8 := range_block (heap_alloc_new w2 (.cells K1.toArray 24))
    rw [List.toList_toArray] at hq8
    have hqw : (w2).heap.size < (World.alloc w2 (.cells K1.toArray 24)).heap.size := by rw [World.size_alloc]; omega
    go_upto_region 6 with ((with_reducible refine wpList_store_new (w := w2) rfl 24 _ _ rfl _ K1.toArray (w2).heap.size rfl ?_ ?_ H1z2.out H1z3.out H1o.out ?_); rfl; rfl)
    change Code.wp _ _ _ _ (World.alloc w2 (.cells K1.toArray 24))
    obtain ⟨Wb, hw8⟩ : ∃ V, World.alloc w2 (.cells K1.toArray 24) = V := ⟨_, rfl⟩
    rw [hw8] at hF2 hq8 hqw ⊢
    obtain ⟨qb, hq8e⟩ : ∃ x, (w2).heap.size = x := ⟨_, rfl⟩
    rw [hq8e] at hq8 hqw ⊢
    have HQb := Lib.hid hq8
    have Hqb := Lib.hid hqw
    clear hw8 hq8e hq8 hqw
    have HFab := Lib.hid hF2
    have HFb := Lib.hid (HFa.out.trans' hF2)
    clear hF2
    go_wp2_with fail
    refine (Hat.out Wb HFb.out).mono ?_
    rintro r w3 ⟨rfl, hF3⟩
    have hF3 := (hF3).alloc (.cells K2.toArray 24)
    have hq8 := range_block (heap_alloc_new w3 (.cells K2.toArray 24))
    rw [List.toList_toArray] at hq8
    have hqw : (w3).heap.size < (World.alloc w3 (.cells K2.toArray 24)).heap.size := by rw [World.size_alloc]; omega
    go_upto_region 7 with ((with_reducible refine wpList_store_new (w := w3) rfl 24 _ _ rfl _ K2.toArray (w3).heap.size rfl ?_ ?_ H2z2.out H2z3.out H2o.out ?_); rfl; rfl)
    change Code.wp _ _ _ _ (World.alloc w3 (.cells K2.toArray 24))
    obtain ⟨Wc, hw8⟩ : ∃ V, World.alloc w3 (.cells K2.toArray 24) = V := ⟨_, rfl⟩
    rw [hw8] at hF3 hq8 hqw ⊢
    obtain ⟨qc, hq8e⟩ : ∃ x, (w3).heap.size = x := ⟨_, rfl⟩
    rw [hq8e] at hq8 hqw ⊢
    have HQc := Lib.hid hq8
    have Hqc := Lib.hid hqw
    clear hw8 hq8e hq8 hqw
    have HFbc := Lib.hid hF3
    have HFc := Lib.hid (HFb.out.trans' hF3)
    clear hF3
    go_wp2_with fail
    refine (Hra.out Wc HFc.out).mono ?_
    rintro r w4 ⟨rfl, hF4⟩
    have hF4 := (hF4).alloc (.cells K2.toArray 24)
    have hq8 := range_block (heap_alloc_new w4 (.cells K2.toArray 24))
    rw [List.toList_toArray] at hq8
    have hqw : (w4).heap.size < (World.alloc w4 (.cells K2.toArray 24)).heap.size := by rw [World.size_alloc]; omega
    go_upto_region 8 with ((with_reducible refine wpList_store_new (w := w4) rfl 24 _ _ rfl _ K2.toArray (w4).heap.size rfl ?_ ?_ H2z2.out H2z3.out H2o.out ?_); rfl; rfl)
    change Code.wp _ _ _ _ (World.alloc w4 (.cells K2.toArray 24))
    obtain ⟨Wd, hw8⟩ : ∃ V, World.alloc w4 (.cells K2.toArray 24) = V := ⟨_, rfl⟩
    rw [hw8] at hF4 hq8 hqw ⊢
    obtain ⟨qd, hq8e⟩ : ∃ x, (w4).heap.size = x := ⟨_, rfl⟩
    rw [hq8e] at hq8 hqw ⊢
    have HQd := Lib.hid hq8
    have Hqd := Lib.hid hqw
    clear hw8 hq8e hq8 hqw
    have HFcd := Lib.hid hF4
    have HFd := Lib.hid (HFc.out.trans' hF4)
    clear hF4
    go_wp2_with fail
    refine (Hhi.out Wd HFd.out).mono ?_
    rintro r w5 ⟨vh, rfl, hh5, hF5⟩
    have HFde := Lib.hid hF5
    have HFe := Lib.hid (HFd.out.trans' hF5)
    have Hh5 := Lib.hid hh5
    clear hF5 hh5
    go_wp2_with fail
    refine (Hrh.out w5 HFe.out).mono ?_
    rintro r w6 ⟨vl, rfl, hl6, hF6⟩
    obtain ⟨L, hL⟩ : ∃ L, hv m x = L := ⟨_, rfl⟩
    have hokL : ∀ c ∈ L, c.e.ok := fun c hc => HM.out.ok c (hv_mem (by rw [hL]; exact hc))
    have honL : ∀ c ∈ L, c.pv.oneCell' = true ∧ c.sv.oneCell' = true := fun c hc => HM.out.one c (hv_mem (by rw [hL]; exact hc))
    have hlL : L.length ≤ 1000 := by rw [← hL]; exact Nat.le_trans (hv_len m x) HM.out.len
    have hho := Hho.out
    rw [hL] at hho hl6
    have hh5 := Hh5.out
    rw [hho, List.length_map] at hh5
    have hCL := CRow.ofRow hl6 hlL hokL honL
    have hlb : ∀ b, vl.ownBlock = some b → w5.heap.size ≤ b := fun b e => (row_block hl6 e.symm).1
    obtain ⟨al, cl, hvl⟩ := hCL.form
    have hvh : ∃ a c, vh = .slice a L.length c := by
     rcases row_form' hh5 with ⟨rfl, h0⟩ | ⟨gb, cap, rfl, -⟩
     ·rw [h0]; exact ⟨_, _, rfl⟩
     ·exact ⟨_, _, rfl⟩
    obtain ⟨ah, ch, hvh⟩ := hvh
    subst hvl hvh
    have hst : ∀ g', ah = some ⟨g', 0, none⟩ → Wd.heap.size ≤ g' ∧ g' < w5.heap.size ∧ w6.there g' 0 (L.length * 34) ∧ ∀ j' c, L[j']? = some c → w6.rangeAt g' (j' * 34) (chgOf c).cells := fun g' e => by
     subst e
     rcases row_cells hh5 with ⟨e1, -⟩ | ⟨gb, cap, e1, e2, e3, e4⟩
     ·cases e1
     ·injection e1 with e1 _ _
      injection e1 with e1
      injection e1 with e1 _ _
      subst e1
      refine ⟨e2, e3, there_fr e4 hF6 e3 (fun _ h => h), fun j' c hj => ?_⟩
      have hr := row_chg (l := L.map chgOf) (by rw [List.length_map]; exact hh5) (fun c' hc' => by obtain ⟨c2, hc2, rfl⟩ := List.mem_map.1 hc'; exact (hokL c2 hc2).2.1) j' (chgOf c) (by rw [List.getElem?_map, hj]; rfl)
      exact range_fr hr hF6 e3 (fun _ h => h)
    have hnn : L.length = 0 ∨ ∃ g', ah = some ⟨g', 0, none⟩ := by
     rcases row_cells hh5 with ⟨-, e2⟩ | ⟨gb, cap, e1, -⟩
     ·exact .inl e2
     ·injection e1 with e1 _ _
      exact .inr ⟨gb, e1⟩
    have Hnn := Lib.hid hnn
    have Fd6 := HFde.out.trans' hF6
    have Fc6 := HFcd.out.trans' Fd6
    have Fb6 := HFbc.out.trans' Fc6
    have Fa6 := HFab.out.trans' Fb6
    have HQa6 := Lib.hid (range_fr HQa.out Fa6 Hqa.out (fun _ h => h))
    have HQb6 := Lib.hid (range_fr HQb.out Fb6 Hqb.out (fun _ h => h))
    have HQc6 := Lib.hid (range_fr HQc.out Fc6 Hqc.out (fun _ h => h))
    have HQd6 := Lib.hid (range_fr HQd.out Fd6 Hqd.out (fun _ h => h))
    have heq1 := Heq1.out w6
    have heq2 := Heq2.out w6
    have hneq1 := Hneq1.out w6
    have hneq2 := Hneq2.out w6
    have HCL := Lib.hid hCL
    have Hlb := Lib.hid hlb
    have Hst := Lib.hid hst
    have HF6 := Lib.hid (HFe.out.trans' hF6)
    have Hsz56 := Lib.hid hF6.size
    have HsW := Lib.hid (show w.heap.size ≤ Wd.heap.size from HFd.out.size)
    have HokL := Lib.hid hokL
    clear hnn hh5 hl6 hho hF6 Fd6 Fc6 Fb6 Fa6 hCL hlb hst honL hL hokL HQa HQb HQc HQd Hqa Hqb Hqc Hqd Heq1 Heq2 Hneq1 HFab HFbc HFcd HFde Hh5 Hho Hbound Hrb Hat Hra Hhi Hrh
    go_wp2_with (first
     | (with_reducible refine wpList_load_mid rfl 24 _ rfl qa 0 rfl K1 (.array 32 5) HQa6.out Tryz.underKey rfl H1z.out ?_)
     | (with_reducible refine wpList_load_mid rfl 24 _ rfl qb 0 rfl K1 (.array 32 5) HQb6.out Tryz.underKey rfl H1z.out ?_)
     | (with_reducible refine wpList_load_g 24 _ rfl qc 0 rfl K2 (.array 32 5) HQc6.out Tryz.underKey rfl H2z.out rfl ?_)
     | (with_reducible refine wpList_load_g 24 _ rfl qd 0 rfl K2 (.array 32 5) HQd6.out Tryz.underKey rfl H2z.out rfl ?_))
    clear heq1 heq2 hneq1 hneq2
    go_loopg [91] (L.length + 1) (fun gf vi wr => ∃ j : Nat, vi = .int .i64 j ∧ j ≤ L.length ∧ j + gf = L.length + 1 ∧ Hid (Fr (fun k _ => ∃ g', ah = some ⟨g', 0, none⟩ ∧ k = g') w6 wr) ∧ Hid (∀ g', ah = some ⟨g', 0, none⟩ → wr.there g' 0 (L.length * 34) ∧ ∀ j' c, j ≤ j' → L[j']? = some c → wr.rangeAt g' (j' * 34) (chgOf c).cells))
    case atStart => exact ⟨0, rfl, by omega, by omega, Lib.hid Fr.refl, Lib.hid (fun g' e => ⟨(Hst.out g' e).2.2.1, fun j' c _ hj => (Hst.out g' e).2.2.2 j' c hj⟩)⟩
    case round =>
     as_aux_lemma =>
      obtain ⟨j, rfl, hj, hjg, HFr6, HI⟩ := hrel
      by_cases hjl : j < L.length
      ·have hltj : decide ((j : Int) < L.length) = true := decide_eq_true (by omega)
       have hne : ¬ L.length = 0 := by intro h0; rw [h0] at hjl; cases hjl
       have hahs := Hnn.out.resolve_left hne
       clear hne
       obtain ⟨g', rfl⟩ := hahs
       obtain ⟨hg1, hg2, -, -⟩ := Hst.out g' rfl
       obtain ⟨hth, hrg⟩ := HI.out g' rfl
       obtain ⟨b, cap', hv', hb, hr⟩ := HCL.out.get hjl
       injection hv' with e1 e2 e3
       subst e1 e3
       clear e2
       have hbg : w5.heap.size ≤ b := Hlb.out b rfl
       have hrj := hrg j L[j] (Nat.le_refl _) (List.getElem?_eq_getElem hjl)
       obtain ⟨k0, -, k2, k3⟩ := came_at (HokL.out _ (List.getElem_mem hjl)) hr
       have hkl := (HokL.out _ (List.getElem_mem hjl)).2.1
       have hgb : ∀ ob, ¬ (fun k (_ : Obj) => ∃ g'', some (⟨g', 0, none⟩ : Addr) = some ⟨g'', 0, none⟩ ∧ k = g'') b ob := fun ob ⟨g'', e, e'⟩ => by
        injection e with e
        injection e with e _ _
        omega
       obtain ⟨c, hc⟩ : ∃ c, L[j] = c := ⟨_, rfl⟩
       rw [hc] at hrj k0 k2 k3 hkl
       have k0' := Fr.cell HFr6.out k0 hgb
       have k3' := Fr.cell HFr6.out k3 hgb
       have k2' := range_fr k2 HFr6.out hb hgb
       rw [chg_cells, range_append, range_append, range_one, range_one] at hrj
       obtain ⟨p0, p1, p2⟩ := hrj
       simp only [List.length_cons, List.length_nil, Nat.zero_add, Nat.reduceAdd, chgOf] at p0 p1 p2
       have hbl := byteCells_len c.e.key
       rw [hkl] at hbl
       have hneq := fun V => neq_key c.e.key c.e.key hkl hkl V
       simp only [bne_self_eq_false] at hneq
       obtain ⟨K, hK⟩ : ∃ K, Lib.byteCells c.e.key = K := ⟨_, rfl⟩
       rw [hK] at k2' p2 hbl
       simp only [hK] at hneq
       have Hkz : Hid ((Tryz.prog.info? 24).map (·.size) = some K.length) := Lib.hid (by rw [Tryz.sizeKey, hbl])
       have HP2 := Lib.hid p2
       have HK2 := Lib.hid k2'
       have Hneq := Lib.hid hneq
       have Hth := Lib.hid hth
       have Hrg := Lib.hid hrg
       have hgw := Nat.lt_of_lt_of_le (show g' < w6.heap.size by have := HF6.out.size; exact Nat.lt_of_lt_of_le hg2 (by have := Hsz56.out; omega)) HFr6.out.size
       have hbw := Nat.lt_of_lt_of_le hb HFr6.out.size
       have Hgw := Lib.hid hgw
       have Hbw := Lib.hid hbw
       have HTZ : Hid (wr.drew.there g' (j * 34) (#[.int .i64 0, .bool false, .int .u8 0, .int .u8 0, .int .u8 0, .int .u8 0, .int .u8 0, .int .u8 0, .int .u8 0, .int .u8 0, .int .u8 0, .int .u8 0, .int .u8 0, .int .u8 0, .int .u8 0, .int .u8 0, .int .u8 0, .int .u8 0, .int .u8 0, .int .u8 0, .int .u8 0, .int .u8 0, .int .u8 0, .int .u8 0, .int .u8 0, .int .u8 0, .int .u8 0, .int .u8 0, .int .u8 0, .int .u8 0, .int .u8 0, .int .u8 0, .int .u8 0, .int .u8 0] : Array Value).size) := Lib.hid (fun i hi => by
        have hi2 : i < 34 := hi
        have := hth (j * 34 + i) (by have : j * 34 + 34 ≤ L.length * 34 := by omega
                                     omega)
        rw [Nat.zero_add] at this
        exact this)
       clear hth hrg hg1 hg2 hb hr hbg k0 k2 k3 hkl hgb hc p2 hbl hneq hK k2' hgw hbw HI
       go_wp2_with fail
       refine wp_region_held_drew (S := fun V => Hid (Fr NoB wr V)) (by kernel_rfl) (Lib.hid Fr.refl.drew) (fun hHeld => ?_)
       simp only [qL, qL1, qL0, qR, qR1, qR0]
       iterate 31
        refine qt (v := ?_) rfl (Or.inl ⟨by rfl, ?_⟩) hHeld ?_
        rotate_left
        ·intro W hSw
         have h1 := Fr.cell hSw.out p0 (fun _ h => h); have h2 := Fr.cell hSw.out p1 (fun _ h => h); have h3 := Fr.cell hSw.out k0' (fun _ h => h); have h4 := Fr.cell hSw.out k3' (fun _ h => h); have hneq := Hneq.out
         try simp only [qG, qG0, qG1]
         go_simp
         try rw [if_neg (by omega)]
         try with_reducible rfl
        try simp only [Act.put, qS, qS0, qS1, qG, qG0, qG1, qM0, qM1]
       refine qi (i := 31) rfl (yieldsIf_load_mid (by rfl) 24 _ rfl g' (j * 34 + 2) rfl K (.array 32 5) (fun V h => range_fr HP2.out h.out Hgw.out (fun _ h => h)) Tryz.underKey rfl Hkz.out) hHeld ?_
       try simp only [Act.put, qS, qS0, qS1, qG, qG0, qG1, qM0, qM1]
       iterate 5
        refine qt (v := ?_) rfl (Or.inl ⟨by rfl, ?_⟩) hHeld ?_
        rotate_left
        ·intro W hSw
         have h1 := Fr.cell hSw.out p0 (fun _ h => h); have h2 := Fr.cell hSw.out p1 (fun _ h => h); have h3 := Fr.cell hSw.out k0' (fun _ h => h); have h4 := Fr.cell hSw.out k3' (fun _ h => h); have hneq := Hneq.out
         try simp only [qG, qG0, qG1]
         go_simp
         try rw [if_neg (by omega)]
         try with_reducible rfl
        try simp only [Act.put, qS, qS0, qS1, qG, qG0, qG1, qM0, qM1]
       refine qi (i := 37) rfl (yieldsIf_load_mid (by rfl) 24 _ rfl b (j * 71 + 37) rfl K (.array 32 5) (fun V h => range_fr HK2.out h.out Hbw.out (fun _ h => h)) Tryz.underKey rfl Hkz.out) hHeld ?_
       try simp only [Act.put, qS, qS0, qS1, qG, qG0, qG1, qM0, qM1]
       iterate 2
        refine qt (v := ?_) rfl (Or.inl ⟨by rfl, ?_⟩) hHeld ?_
        rotate_left
        ·intro W hSw
         have h1 := Fr.cell hSw.out p0 (fun _ h => h); have h2 := Fr.cell hSw.out p1 (fun _ h => h); have h3 := Fr.cell hSw.out k0' (fun _ h => h); have h4 := Fr.cell hSw.out k3' (fun _ h => h); have hneq := Hneq.out
         try simp only [qG, qG0, qG1]
         go_simp
         try rw [if_neg (by omega)]
         try with_reducible rfl
        try simp only [Act.put, qS, qS0, qS1, qG, qG0, qG1, qM0, qM1]
       refine wpAnyH_done (by kernel_rfl) ?_ _
       clear hHeld p0 p1 k0' k3' HP2 HK2 Hneq
       go_upto_region 17 with (fail)
       go_wp2_with (first
        | ((with_reducible refine wpList_buildTo ?_ 117 _ rfl _ rfl #[.int .i64 0, .bool false, .int .u8 0, .int .u8 0, .int .u8 0, .int .u8 0, .int .u8 0, .int .u8 0, .int .u8 0, .int .u8 0, .int .u8 0, .int .u8 0, .int .u8 0, .int .u8 0, .int .u8 0, .int .u8 0, .int .u8 0, .int .u8 0, .int .u8 0, .int .u8 0, .int .u8 0, .int .u8 0, .int .u8 0, .int .u8 0, .int .u8 0, .int .u8 0, .int .u8 0, .int .u8 0, .int .u8 0, .int .u8 0, .int .u8 0, .int .u8 0, .int .u8 0, .int .u8 0] ?_ ?_); rfl; kernel_rfl)
        | ((with_reducible refine wpList_store_mid rfl 117 _ _ rfl g' (j * 34) #[.int .i64 0, .bool false, .int .u8 0, .int .u8 0, .int .u8 0, .int .u8 0, .int .u8 0, .int .u8 0, .int .u8 0, .int .u8 0, .int .u8 0, .int .u8 0, .int .u8 0, .int .u8 0, .int .u8 0, .int .u8 0, .int .u8 0, .int .u8 0, .int .u8 0, .int .u8 0, .int .u8 0, .int .u8 0, .int .u8 0, .int .u8 0, .int .u8 0, .int .u8 0, .int .u8 0, .int .u8 0, .int .u8 0, .int .u8 0, .int .u8 0, .int .u8 0, .int .u8 0, .int .u8 0] ?_ ?_ HTZ.out chgZ_s chgZ_a ?_); rfl; rfl))
       go_roundg (gk - 1)
       case measure => omega
       case rel =>
        refine ⟨j + 1, by simp, by omega, by omega, Lib.hid (HFr6.out.drew.trans' ((setCells_fr g' _ _ _).mono (fun k _ h => ⟨g', rfl, h⟩))), Lib.hid (fun g'' e => ?_)⟩
        injection e with e
        injection e with e _ _
        subst e
        refine ⟨World.there_setCells ((World.there_drew _ _ _ _).2 Hth.out) _ _ _, fun j' c' hj' hcj => ?_⟩
        refine World.rangeAt_setCells_apart ((World.rangeAt_drew _ _ _ _).2 (Hrg.out j' c' (Nat.le_trans (Nat.le_succ j) hj') hcj)) _ _ _ (.inr (.inr ?_))
        show j * 34 + 34 ≤ j' * 34
        omega
      ·have hltj : decide ((j : Int) < L.length) = false := decide_eq_false (by omega)
       have hFw : Fr NoB w wr := HF6.out.trans HFr6.out (fun k _ ⟨g', e, hk⟩ => .inr (by have := (Hst.out g' e).1; have := HsW.out; omega))
       have hsg := Hsg.out wr hFw
       have hb1 := built_id x
       obtain ⟨SC, hSC⟩ : ∃ C, Sg.cells ⟨x, zero32, zero64⟩ = C := ⟨_, rfl⟩
       rw [hSC] at hsg hb1
       have Hsg1 := Lib.hid hsg
       have Hb1 := Lib.hid hb1
       have HFw := Lib.hid hFw
       clear hsg hb1 hSC hFw
       go_upto_region 19 with (fail)
       go_wp2_with ((with_reducible refine wpList_buildTo ?_ 54 _ rfl _ rfl SC ?_ ?_); rfl; (refine Eq.trans (congrArg (Tryz.prog.built 54) ?_) Hb1.out; kernel_rfl))
       refine Hsg1.out.mono ?_
       rintro r w9 ⟨rfl, hF9⟩
       have HF9 := Lib.hid (HFw.out.trans' hF9)
       clear hF9
       go_wp2_with fail
       go_roundg (gko - 1)
       case measure => omega
       case rel => exact ⟨i + 1, by simp, by omega, by omega, HF9⟩
  ·as_aux_lemma =>
    have hlti : decide ((i : Int) < ns.length) = false := decide_eq_false (by omega)
    have HF0 := HFr
    clear HFr
    go_wp2_with fail
    go_loopg [148] (ks.length + 1) (fun gf vi wr => ∃ j : Nat, vi = .int .i64 j ∧ j ≤ ks.length ∧ j + gf = ks.length + 1 ∧ Hid (Fr NoB w wr))
    case atStart => exact ⟨0, rfl, by omega, by omega, HF0⟩
    case round =>
     obtain ⟨j, rfl, hj, hjg, HFr⟩ := hrel
     by_cases hjl : j < ks.length
     ·have hltj : decide ((j : Int) < ks.length) = true := decide_eq_true (by omega)
      obtain ⟨x, hx⟩ : ∃ x, ks[j]? = some x := ⟨_, List.getElem?_eq_getElem hjl⟩
      have hxl := Hks.out x (List.mem_of_getElem? hx)
      rcases row_form' HK.out with ⟨-, h0⟩ | ⟨gk2, cpk, eak, -, hgk, -⟩
      ·rw [h0] at hjl
       cases hjl
      injection eak with e1 e2 e3
      subst e1
      clear e2 e3
      have hkr := range_fr (row_keyL HK.out Hks.out j x hx) HFr.out hgk (fun _ h => h)
      have hsp := fun V (hV : Fr NoB w V) => spent_c x V (HT.out.keep hV) hxl
      have hrs := fun V (hV : Fr NoB w V) => refSpent_c m v x V (HM.out.keep hV) hxl
      have hsg := fun V (hV : Fr NoB w V) => signer17_c m v ⟨[], x, zero64⟩ V (HT.out.keep hV) (HM.out.keep hV) HTied.out ⟨hxl, rfl⟩ (Nat.zero_le _)
      have heq : (t.life x == 2) = rSpent (m.map CameV.cm) x := by
       have h1 := HTied.out.spent x
       rw [Bool.eq_iff_iff, beq_iff_eq]
       exact h1
      obtain ⟨sp, hspe⟩ : ∃ y, rSpent (m.map CameV.cm) x = y := ⟨_, rfl⟩
      rw [hspe] at heq
      simp only [heq] at hsp
      simp only [hspe] at hrs
      have hbl := byteCells_len x
      rw [hxl] at hbl
      have ho1 := all_oneCell_toArray (cells_one x)
      have hbk := fun V => build_key x hxl V
      obtain ⟨KC, hKC⟩ : ∃ y, Lib.byteCells x = y := ⟨_, rfl⟩
      obtain ⟨SC, hSC⟩ : ∃ y, Sg.cells ⟨[], x, zero64⟩ = y := ⟨_, rfl⟩
      rw [hKC] at hkr hbl ho1
      simp only [hKC] at hsp hrs hbk
      simp only [hSC] at hsg hbk
      have Hkz : Hid ((Tryz.prog.info? 24).map (·.size) = some KC.length) := Lib.hid (by rw [Tryz.sizeKey, hbl])
      have Hkz2 : Hid ((Tryz.prog.info? 24).map (·.size) = some KC.toArray.size) := Lib.hid (by rw [Tryz.sizeKey, List.size_toArray, hbl])
      have Hkz3 : Hid ((#[.int .u8 0, .int .u8 0, .int .u8 0, .int .u8 0, .int .u8 0, .int .u8 0, .int .u8 0, .int .u8 0, .int .u8 0, .int .u8 0, .int .u8 0, .int .u8 0, .int .u8 0, .int .u8 0, .int .u8 0, .int .u8 0, .int .u8 0, .int .u8 0, .int .u8 0, .int .u8 0, .int .u8 0, .int .u8 0, .int .u8 0, .int .u8 0, .int .u8 0, .int .u8 0, .int .u8 0, .int .u8 0, .int .u8 0, .int .u8 0, .int .u8 0, .int .u8 0] : Array Value).size = KC.toArray.size) := Lib.hid (by rw [show KC.toArray.size = 32 by rw [List.size_toArray, hbl]]; rfl)
      have Ho1 := Lib.hid ho1
      have Hkr := Lib.hid hkr
      have Hsp := Lib.hid hsp
      have Hrs := Lib.hid hrs
      have Hsg := Lib.hid hsg
      have Hbk := Lib.hid hbk
      clear ho1 hkr hsp hrs hsg hbk hbl hKC hSC heq hspe hgk hx hxl HF0
      have hF8 : Fr NoB wr (wr.alloc (.cells KC.toArray 24)) := Fr.refl.alloc _
      have hq8 := range_block (heap_alloc_new wr (.cells KC.toArray 24))
      rw [List.toList_toArray] at hq8
      have hqw : wr.heap.size < (wr.alloc (.cells KC.toArray 24)).heap.size := by rw [World.size_alloc]; omega
      go_upto_region 25 with (first
       | (with_reducible refine wpList_load_mid rfl 24 _ rfl gk2 (j * 32) rfl KC (.array 32 5) Hkr.out Tryz.underKey rfl Hkz.out ?_)
       | ((with_reducible refine wpList_store_new (w := wr) rfl 24 _ _ rfl _ KC.toArray wr.heap.size rfl ?_ ?_ Hkz2.out Hkz3.out Ho1.out ?_); rfl; rfl))
      change Code.wp _ _ _ _ (wr.alloc (.cells KC.toArray 24))
      obtain ⟨w8, hw8⟩ : ∃ V, wr.alloc (.cells KC.toArray 24) = V := ⟨_, rfl⟩
      rw [hw8] at hF8 hq8 hqw ⊢
      obtain ⟨q8, hq8e⟩ : ∃ y, wr.heap.size = y := ⟨_, rfl⟩
      rw [hq8e] at hq8 hqw ⊢
      have HQ8 := Lib.hid hq8
      have Hqw := Lib.hid hqw
      have HF8 := Lib.hid (HFr.out.trans' hF8)
      clear hF8 hq8 hqw hw8 hq8e Hkr HFr
      refine wp_region_held_drew (S := fun V => Hid (Fr NoB w8 V)) (by kernel_rfl) (Lib.hid Fr.refl.drew) (fun hHeld => ?_)
      simp only [qL, qL1, qL0, qR, qR1, qR0]
      refine qt (v := ?_) rfl (Or.inl ⟨by rfl, ?_⟩) hHeld ?_
      rotate_left
      ·intro W hSw
       try simp only [qG, qG0, qG1]
       go_simp
       try rw [if_neg (by omega)]
       try with_reducible rfl
      try simp only [Act.put, qS, qS0, qS1, qG, qG0, qG1, qM0, qM1]
      refine qi (i := 1) rfl (yieldsIf_load_mid (by rfl) 24 _ rfl q8 0 rfl KC (.array 32 5) (fun V h => range_fr HQ8.out h.out Hqw.out (fun _ h => h)) Tryz.underKey rfl Hkz.out) hHeld ?_
      try simp only [Act.put, qS, qS0, qS1, qG, qG0, qG1, qM0, qM1]
      refine qi (i := 3) (v := ?_) rfl (Or.inl ⟨by rfl, ?_⟩) hHeld ?_
      rotate_left
      ·intro W hSw
       try simp only [qG, qG0, qG1]
       go_simp
       try rw [if_neg (by omega)]
       try with_reducible rfl
      try simp only [Act.put, qS, qS0, qS1, qG, qG0, qG1, qM0, qM1]
      refine qi (i := 4) rfl (yieldsIf_load_mid (by rfl) 24 _ rfl q8 0 rfl KC (.array 32 5) (fun V h => range_fr HQ8.out h.out Hqw.out (fun _ h => h)) Tryz.underKey rfl Hkz.out) hHeld ?_
      try simp only [Act.put, qS, qS0, qS1, qG, qG0, qG1, qM0, qM1]
      refine qr (i := 2) (by kernel_rfl) rfl (fun K hK => ?_)
      try simp only [qG, qG0, qG1]
      go_simp
      refine (Hsp.out _ (HF8.out.trans' hHeld.out)).mono ?_; rintro r w9 ⟨rfl, hF9⟩
      refine hK.out _ _ (Lib.hid (hHeld.out.trans' hF9)) (fun hHeld => ?_)
      clear hK K
      try simp only [Act.put, qS, qS0, qS1, qG, qG0, qG1, qM0, qM1]
      refine qr (i := 5) (by kernel_rfl) rfl (fun K hK => ?_)
      try simp only [qG, qG0, qG1]
      go_simp
      refine (Hrs.out _ (HF8.out.trans' hHeld.out)).mono ?_; rintro r w10 ⟨rfl, hF10⟩
      refine hK.out _ _ (Lib.hid (hHeld.out.trans' hF10)) (fun hHeld => ?_)
      clear hK K
      try simp only [Act.put, qS, qS0, qS1, qG, qG0, qG1, qM0, qM1]
      iterate 4
       refine qt (v := ?_) rfl (Or.inl ⟨by rfl, ?_⟩) hHeld ?_
       rotate_left
       ·intro W hSw
        try simp only [qG, qG0, qG1]
        go_simp
        try rw [if_neg (by omega)]
        try with_reducible rfl
       try simp only [Act.put, qS, qS0, qS1, qG, qG0, qG1, qM0, qM1]
      refine qi (i := 10) rfl (yieldsIf_load_mid (by rfl) 24 _ rfl q8 0 rfl KC (.array 32 5) (fun V h => range_fr HQ8.out h.out Hqw.out (fun _ h => h)) Tryz.underKey rfl Hkz.out) hHeld ?_
      try simp only [Act.put, qS, qS0, qS1, qG, qG0, qG1, qM0, qM1]
      refine wpAnyH_take (i := 11) (v := .agg SC) rfl (by kernel_rfl) (by kernel_rfl) (by kernel_rfl) (fun _ _ _ h => h) (Or.inl ⟨by rfl, ?_⟩) hHeld ?_
      ·intro V hSw
       simp only [execOp, Sem.run_bind, List.map_toArray, List.map_cons, List.map_nil, List.getElem_toArray, List.getElem_cons_zero, List.getElem_cons_succ]
       exact (congrArg (fun r => Result.andThen r fun a w' => Sem.run Tryz.prog (pure (Next.value a)) w') (Hbk.out V)).trans rfl
      try simp only [Act.put, qS, qS0, qS1, qG, qG0, qG1, qM0, qM1]
      refine qr (i := 12) (by kernel_rfl) rfl (fun K hK => ?_)
      try simp only [qG, qG0, qG1]
      go_simp
      refine (Hsg.out _ (HF8.out.trans' hHeld.out)).mono ?_; rintro r w11 ⟨rfl, hF11⟩
      refine hK.out _ _ (Lib.hid (hHeld.out.trans' hF11)) (fun hHeld => ?_)
      clear hK K
      try simp only [Act.put, qS, qS0, qS1, qG, qG0, qG1, qM0, qM1]
      iterate 2
       refine qt (v := ?_) rfl (Or.inl ⟨by rfl, ?_⟩) hHeld ?_
       rotate_left
       ·intro W hSw
        try simp only [qG, qG0, qG1]
        go_simp
        try rw [if_neg (by omega)]
        try with_reducible rfl
       try simp only [Act.put, qS, qS0, qS1, qG, qG0, qG1, qM0, qM1]
      refine wpAnyH_done (by kernel_rfl) ?_ _
      have HE := Lib.hid (HF8.out.trans' hHeld.out)
      clear hHeld HF8 HQ8 Hqw
      go_wp2_with fail
      go_roundg (gk - 1)
      case measure => omega
      case rel => exact ⟨j + 1, by simp, by omega, by omega, HE⟩
     ·have hltj : decide ((j : Int) < ks.length) = false := decide_eq_false (by omega)
      clear HF0
      go_wp2_with fail
      go_ret
      exact ⟨rfl, HFr.out⟩
end Go.Proofs.YtcddlemkimbkcaaGreatDoor
