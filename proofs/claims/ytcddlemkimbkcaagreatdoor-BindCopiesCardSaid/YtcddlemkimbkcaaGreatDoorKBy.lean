/-
 The walks of slices.Collect, SortFunc, SortedFunc at one or two signatures; EqualFunc; bind.by.
-/
import Derived.Test.YtcddlemkimbkcaaGreatDoorKSeq
import Derived.Test.YtcddlemkimbkcaaGreatDoorShelf
namespace Go.Proofs.YtcddlemkimbkcaaGreatDoor
set_option linter.unusedVariables false
set_option linter.unusedSimpArgs false
set_option linter.unusedSectionVars false
open Go.RowKit Go.Shelf
variable [OldK]
set_option maxRecDepth 100000 in
set_option maxHeartbeats 1000000 in
theorem collect_c (Bs gb cap : Nat) (xs : List Sg) (hll : xs.length ≤ 100) (hok : ∀ x ∈ xs, x.ok) (w : World) (hBs : Bs < w.heap.size)
 (hB0 : w.cell? ⟨Bs, 0, none⟩ = some (.slice (some ⟨gb, 0, none⟩) xs.length cap)) (hr : SgRow w.heap.size gb xs w) :
 Calls Tryz.prog 168 #[.func (.func 170) #[] #[.pointer (some ⟨Bs, 0, none⟩)]] w fun e W' => ∃ v, e = .returned v ∧ W'.ownsRow w.heap.size 54 97 v xs.length (sgRows xs) ∧ Fr NoB w W' := by
 have hc := Lib.hid (callsIn_wide.1 (appendSeq_in Bs w.heap.size gb cap xs hll hok w hBs rfl hB0 hr))
 clear hr hB0
 go_enter Tryz.func168, Tryz.ntmps168
 go_wp2_with fail
 refine hc.out.mono ?_
 rintro e w1 ⟨v, rfl, ho, hF⟩
 have Ho := Lib.hid ho
 have HF := Lib.hid hF
 clear ho hF
 go_wp2_with fail
 go_ret
 exact ⟨_, rfl, Ho.out, HF.out⟩
set_option maxRecDepth 100000 in
set_option maxHeartbeats 1000000 in
theorem sortFunc1_c (ad : Option Addr) (c : Nat) (w : World) :
 Calls Tryz.prog 169 #[.slice ad 1 c, .func (.func 119) #[] #[]] w fun e w' => e = .returned (.tuple #[]) ∧ Fr NoB w w' := by
 have hb := Lib.hid (fun V => Tryz.bits_Len 1 V (by decide) (by decide))
 have hp := Lib.hid (fun lim V => pdq1_c ad c lim V)
 have hw1 : IntKind.u64.wrap 1 = 1 := by decide
 go_enter Tryz.func169, Tryz.ntmps169
 go_wp2_with fail
 refine (hb.out _).mono ?_
 rintro e w1 ⟨rfl, rfl⟩
 go_wp2_with fail
 refine (hp.out _ _).mono ?_
 rintro e w1 ⟨rfl, hF⟩
 have HF := Lib.hid hF
 clear hF
 go_wp2_with fail
 go_end0
 exact ⟨rfl, HF.out⟩
set_option maxRecDepth 100000 in
set_option maxHeartbeats 1000000 in
theorem sortFunc2_c (a b : Sg) (gb c : Nat) (w : World) (ha : a.ok2) (hb : b.ok2) (h : SR2 gb a b w) (hg : gb < w.heap.size) (hc : 2 ≤ c) :
 Calls Tryz.prog 169 #[.slice (some ⟨gb, 0, none⟩) 2 c, .func (.func 119) #[] #[]] w fun e w' => e = .returned (.tuple #[]) ∧ SRs gb a b w' ∧ Fr (fun k _ => k = gb) w w' := by
 have hbl := Lib.hid (fun V => Tryz.bits_Len 2 V (by decide) (by decide))
 have hp := Lib.hid (fun lim => pdq2_c a b gb c lim w ha hb h hg hc)
 have hw1 : IntKind.u64.wrap 2 = 2 := by decide
 clear h
 go_enter Tryz.func169, Tryz.ntmps169
 go_wp2_with fail
 refine (hbl.out _).mono ?_
 rintro e w1 ⟨rfl, rfl⟩
 go_wp2_with fail
 refine (hp.out _).mono ?_
 rintro e w1 ⟨rfl, hS, hF⟩
 have HF := Lib.hid hF
 have HS := Lib.hid hS
 clear hF hS
 go_wp2_with fail
 go_end0
 exact ⟨rfl, HS.out, HF.out⟩
/-- a variable's first store -/
theorem wpList_store_new {P : Program} {ops : Array Oper} {rest : List Oper} {op : Oper} {a : Act} {w : World} {Q : Exit → Act → World → Prop} (hgd : op.guard = none) (ty : TypeId) (x y : Operand) (ho : op.op = .store ty x y) (c c' : Array Value) (N : Nat) (hN : w.heap.size = N)
 (hx : a.eval x = .pointer (some ⟨N, 0, none⟩)) (hy : a.eval y = .agg c') (hi : (P.info? ty).map (·.size) = some c'.size) (hs : c.size = c'.size) (h1 : c'.all (·.oneCell') = true)
 (h : wpList P ops Q rest (a.put op.dst undef) (w.alloc (.cells c' ty))) : wpList P ops Q (op :: rest) a (w.alloc (.cells c ty)) := by
 subst hN
 refine wpList_plain hgd fun K hK => ?_
 unfold Oper.wp execOp
 simp only [ho, hx, hy]
 rw [Sem.run_bind, run_storeAt_new w ty c c' hi hs h1]
 exact hK _ _ h
theorem own_sr {w : World} {B g c : Nat} {a b : Sg} (ha : a.ok) (hb : b.ok) (h : w.ownsRow B 54 97 (.slice (some ⟨g, 0, none⟩) 2 c) 2 (sgRows [a, b])) : SR2 g a b w ∧ g < w.heap.size ∧ 2 ≤ c := by
 have hx : sgRows [a, b] = a.cells.toList ++ b.cells.toList := by simp [sgRows, Sg.enc_ok ha, Sg.enc_ok hb]
 have la : a.cells.toList.length = 97 := by rw [Array.length_toList, Sg.size ha]
 have lb : b.cells.toList.length = 97 := by rw [Array.length_toList, Sg.size hb]
 have hcell : w.rangeAt g 0 (a.cells.toList ++ b.cells.toList) := by
  intro j v hv
  have := h.cells (g := g) rfl j v (by rw [hx]; exact hv)
  rwa [Addr.add_lit] at this
 obtain ⟨h1, h2⟩ := range_append.1 hcell
 rw [la] at h2
 rcases h.2 with ⟨e1, -⟩ | ⟨g', cp, cur, e1, e2, e3, e4, e5, e6, -⟩
 ·cases e1
 ·cases e1
  exact ⟨⟨h1, h2, there_block e3 (by rw [e6]; omega)⟩, get_lt e3, e4⟩
/-- signatures of which nothing is known but that they are ones -/
def oks (l : List Sg) : Prop := ∀ x ∈ l, x.ok2
set_option maxRecDepth 100000 in
set_option maxHeartbeats 2000000 in
theorem sortedFunc_c (Bs gb cap : Nat) (xs : List Sg) (hl : (∃ a, xs = [a]) ∨ ∃ a b, xs = [a, b]) (hok : oks xs) (w : World) (hBs : Bs < w.heap.size)
 (hB0 : w.cell? ⟨Bs, 0, none⟩ = some (.slice (some ⟨gb, 0, none⟩) xs.length cap)) (hr : SgRow w.heap.size gb xs w) :
 Calls Tryz.prog 121 #[.func (.func 170) #[] #[.pointer (some ⟨Bs, 0, none⟩)], .func (.func 119) #[] #[]] w fun e W' => ∃ v, e = .returned v ∧ GS (fun _ => True) (sort2 xs) v W' ∧ Fr NoB w W' := by
 have hc := Lib.hid (collect_c Bs gb cap xs (by rcases hl with ⟨a, rfl⟩ | ⟨a, b, rfl⟩ <;> simp) (fun x hx => (hok x hx).1) w hBs hB0 hr)
 clear hr hB0
 rcases hl with ⟨a, rfl⟩ | ⟨a, b, rfl⟩
 ·have ha := hok a (by simp)
  go_enter Tryz.func121, Tryz.ntmps121
  go_wp2_with fail
  refine hc.out.mono ?_
  rintro e w1 ⟨v, rfl, ho, hF⟩
  rcases ho.2 with ⟨-, h0⟩ | ⟨g, cp, cur, rfl, e2, e3, e4, -⟩
  ·simp at h0
  have hs := Lib.hid (fun V => sortFunc1_c (some ⟨g, 0, none⟩) cp V)
  have hR : w1.rangeAt g 0 a.cells.toList := by
   intro j x hx
   have := ho.cells (g := g) rfl j x (by simpa [sgRows, Sg.enc_ok ha.1] using hx)
   rwa [Addr.add_lit] at this
  have HR := Lib.hid hR
  have HF := Lib.hid hF
  have hg := get_lt e3
  have hcp : 1 ≤ cp := e4
  clear ho e2 e3 e4 hR hF
  go_wp2_with fail
  refine (hs.out _).mono ?_
  rintro e w2 ⟨rfl, hF2⟩
  have HF2 := Lib.hid hF2
  clear hF2
  go_wp2_with fail
  go_ret
  refine ⟨_, rfl, ⟨_, cp, rfl, hcp, .inr ⟨g, 0, rfl, trivial, Nat.lt_of_lt_of_le hg HF2.out.size, fun i hi => ?_⟩⟩, HF.out.trans' HF2.out⟩
  obtain rfl : i = 0 := by simp [sort2] at hi; exact hi
  exact range_fr HR.out HF2.out hg (fun _ h => h)
 ·have ha := hok a (by simp)
  have hb := hok b (by simp)
  go_enter Tryz.func121, Tryz.ntmps121
  go_wp2_with fail
  refine hc.out.mono ?_
  rintro e w1 ⟨v, rfl, ho, hF⟩
  rcases ho.2 with ⟨-, h0⟩ | ⟨g, cp, cur, rfl, e2, e3, e4, -⟩
  ·simp at h0
  obtain ⟨h1, h2, h3⟩ := own_sr ha.1 hb.1 ho
  have hs := Lib.hid (sortFunc2_c a b g cp w1 ha hb h1 h2 h3)
  have HF := Lib.hid hF
  clear ho e3 e4 h1 hF
  go_wp2_with fail
  refine hs.out.mono ?_
  rintro e w2 ⟨rfl, hS2, hF2⟩
  have HF2 := Lib.hid hF2
  obtain ⟨x, y, hxy, hS⟩ := hS2.sort
  have HS := Lib.hid hS
  have Hxy := Lib.hid hxy
  clear hF2 hS2 hS hxy
  go_wp2_with fail
  go_ret
  rw [Hxy.out]
  refine ⟨_, rfl, ⟨_, cp, rfl, h3, .inr ⟨g, 0, rfl, trivial, Nat.lt_of_lt_of_le h2 HF2.out.size, fun i hi => ?_⟩⟩, HF.out.trans HF2.out (fun k _ hm => .inr (by have h5 : k = g := hm; omega))⟩
  match i, hi with
  | 0, _ => exact HS.out.one
  | 1, _ => exact HS.out.two
theorem sameBy_len : ∀ (l m : List Sg), l.length ≠ m.length → sameBy l m = false
 | [], [], h => absurd rfl h
 | [], _ :: _, _ => rfl
 | _ :: _, [], _ => rfl
 | a :: l, b :: m, h => by
   rw [sameBy, sameBy_len l m (by intro h2; exact h (by simp [h2])), Bool.and_false]
end Go.Proofs.YtcddlemkimbkcaaGreatDoor
namespace Go.Proofs.YtcddlemkimbkcaaGreatDoor
set_option linter.unusedVariables false
set_option linter.unusedSimpArgs false
set_option linter.unusedSectionVars false
open Go.RowKit Go.Shelf
variable [OldK]
set_option maxRecDepth 100000 in
set_option maxHeartbeats 1000000 in
theorem equalFunc_unlike (a1 a2 : Option Addr) (n m c1 c2 : Nat) (w : World) (h : n ≠ m) :
 Calls Tryz.prog 120 #[.slice a1 n c1, .slice a2 m c2, .func (.func 117) #[] #[]] w fun e w' => e = .returned (.bool false) ∧ Fr NoB w w' := by
 have hb : ((n : Int) != (m : Int)) = true := by simp; omega
 have hb2 : (n != m) = true := by simpa using h
 clear h
 go_enter Tryz.func120, Tryz.ntmps120
 go_wp2_with fail
 go_ret
 exact ⟨rfl, Fr.refl⟩
set_option maxRecDepth 100000 in
set_option maxHeartbeats 1000000 in
theorem equalFunc_nil (a1 a2 : Option Addr) (c1 c2 : Nat) (w : World) :
 Calls Tryz.prog 120 #[.slice a1 0 c1, .slice a2 0 c2, .func (.func 117) #[] #[]] w fun e w' => e = .returned (.bool true) ∧ Fr NoB w w' := by
 go_enter Tryz.func120, Tryz.ntmps120
 go_wp2_with fail
 go_loopg [17] 0 (fun g vi wr => vi = .int .i64 0 ∧ w = wr)
 case atStart => exact ⟨rfl, rfl⟩
 case round =>
  obtain ⟨rfl, rfl⟩ := hrel
  go_wp2_with fail
  go_ret
  exact ⟨rfl, Fr.refl⟩
set_option maxRecDepth 100000 in
set_option maxHeartbeats 4000000 in
theorem equalFunc_same (l m : List Sg) (b1 o1 c1 b2 o2 c2 : Nat) (w : World) (hlm : l.length = m.length) (hl : l.length ≤ 1000) (hok1 : oks l) (hok2 : oks m) (hb1 : b1 < w.heap.size) (hb2 : b2 < w.heap.size)
 (hr1 : ∀ i (hi : i < l.length), w.rangeAt b1 (o1 + i * 97) l[i].cells.toList) (hr2 : ∀ i (hi : i < m.length), w.rangeAt b2 (o2 + i * 97) m[i].cells.toList) :
 Calls Tryz.prog 120 #[.slice (some ⟨b1, o1, none⟩) l.length c1, .slice (some ⟨b2, o2, none⟩) m.length c2, .func (.func 117) #[] #[]] w fun e w' => e = .returned (.bool (sameBy l m)) ∧ Fr NoB w w' := by
 obtain ⟨n, hn⟩ : ∃ n, l.length = n := ⟨_, rfl⟩
 rw [← hlm, hn]
 obtain ⟨d, hu, hd⟩ := Tryz.rowSg2
 have Hu := Lib.hid hu
 have Hd := Lib.hid hd
 have heg : ∀ args W, (callFunc 117 args).run Tryz.prog W = .ok (.enter 117 args) W := fun args w => by simp [go_sem]
 obtain ⟨R, hR⟩ : ∃ R, sameBy l m = R := ⟨_, rfl⟩
 rw [hR]
 have HR := Lib.hid hR
 have Hr1 := Lib.hid hr1
 have Hr2 := Lib.hid hr2
 have Hn := Lib.hid hn
 have Hlm := Lib.hid hlm
 have hn1000 : n ≤ 1000 := by omega
 clear hu hd hR hr1 hr2 hn hlm hl
 go_enter Tryz.func120, Tryz.ntmps120
 go_wp2_with fail
 go_loopg [17] (n + 1) (fun g vi wr => ∃ i : Nat, vi = .int .i64 i ∧ i ≤ n ∧ i + g = n + 1 ∧ Hid (Fr NoB w wr) ∧ Hid (sameBy (l.drop i) (m.drop i) = R))
 case atStart => exact ⟨0, rfl, by omega, by omega, Lib.hid Fr.refl, HR⟩
 case round =>
  obtain ⟨i, rfl, hi, hgk, HF, HS⟩ := hrel
  rcases Nat.lt_or_ge i n with hlt | hge
  ·have hi1 : i < l.length := by rw [Hn.out]; exact hlt
   have hi2 : i < m.length := by rw [← Hlm.out]; exact hi1
   have hS := HS.out
   rw [List.drop_eq_getElem_cons hi1, List.drop_eq_getElem_cons hi2, sameBy] at hS
   have ho1 := hok1 _ (List.getElem_mem hi1)
   have ho2 := hok2 _ (List.getElem_mem hi2)
   have hRa := range_fr (Hr1.out i hi1) HF.out hb1 (fun _ h => h)
   have hRb := range_fr (Hr2.out i hi2) HF.out hb2 (fun _ h => h)
   obtain ⟨x, hx⟩ : ∃ x, l[i] = x := ⟨_, rfl⟩
   obtain ⟨y, hy⟩ : ∃ y, m[i] = y := ⟨_, rfl⟩
   rw [hx] at hS ho1 hRa
   rw [hy] at hS ho2 hRb
   have hsame := fun V => same_c x y V ho1 ho2
   obtain ⟨bs, hbs⟩ : ∃ b, (pSigner x == pSigner y) = b := ⟨_, rfl⟩
   rw [hbs] at hS
   simp only [hbs] at hsame
   have lx : x.cells.size = 97 := Sg.size ho1.1
   have ly : y.cells.size = 97 := Sg.size ho2.1
   have Hsx1 : Hid ((Tryz.prog.info? 54).map (·.size) = some x.cells.size) := Lib.hid (by rw [Tryz.sizeSg, lx])
   have Hsx2 : Hid ((Tryz.prog.info? 54).map (·.size) = some x.cells.toList.length) := Lib.hid (by rw [Tryz.sizeSg, Array.length_toList, lx])
   have Hsy1 : Hid ((Tryz.prog.info? 54).map (·.size) = some y.cells.size) := Lib.hid (by rw [Tryz.sizeSg, ly])
   have Hsy2 : Hid ((Tryz.prog.info? 54).map (·.size) = some y.cells.toList.length) := Lib.hid (by rw [Tryz.sizeSg, Array.length_toList, ly])
   have Hx1 := Lib.hid (Sg.one x)
   have Hy1 := Lib.hid (Sg.one y)
   have hzx : sgZ.size = x.cells.size := by rw [lx]; rfl
   have hzy : sgZ.size = y.cells.size := by rw [ly]; rfl
   have hRx0 : ((wr.alloc (.cells x.cells 54)).alloc (.cells y.cells 54)).rangeAt wr.heap.size 0 x.cells.toList := World.rangeAt_alloc (range_block (heap_alloc_new wr (.cells x.cells 54))) _
   have hRy0 : ((wr.alloc (.cells x.cells 54)).alloc (.cells y.cells 54)).rangeAt (wr.heap.size + 1) 0 y.cells.toList := by
    have := range_block (heap_alloc_new (wr.alloc (.cells x.cells 54)) (.cells y.cells 54))
    rw [World.size_alloc] at this
    exact this
   have hRb1 : (wr.alloc (.cells x.cells 54)).rangeAt b2 (o2 + i * 97) y.cells.toList := World.rangeAt_alloc hRb _
   have HSx := Lib.hid hS
   have HRa := Lib.hid hRa
   have HRb := Lib.hid hRb1
   have HRx0 := Lib.hid hRx0
   have HRy0 := Lib.hid hRy0
   have Hzx := Lib.hid hzx
   have Hzy := Lib.hid hzy
   have Hsame := Lib.hid hsame
   have HF2 := Lib.hid ((HF.out.alloc (.cells x.cells 54)).alloc (.cells y.cells 54))
   clear hS hRa hRb hRb1 hRx0 hRy0 lx ly hzx hzy hsame hx hy hbs HS
   cases bs with
   | false =>
     go_wp2_with (first
      | (with_reducible refine wpList_load_mid rfl 54 _ rfl b1 (o1 + i * 97) rfl x.cells.toList d HRa.out Hu.out Hd.out Hsx2.out ?_)
      | (with_reducible refine wpList_load_mid rfl 54 _ rfl b2 (o2 + i * 97) rfl y.cells.toList d HRb.out Hu.out Hd.out Hsy2.out ?_)
      | (with_reducible refine wpList_load_mid rfl 54 _ rfl wr.heap.size 0 rfl x.cells.toList d HRx0.out Hu.out Hd.out Hsx2.out ?_)
      | (with_reducible refine wpList_load_mid rfl 54 _ rfl (wr.heap.size + 1) 0 rfl y.cells.toList d HRy0.out Hu.out Hd.out Hsy2.out ?_)
      | (refine wpList_store_new (w := wr) rfl 54 _ _ rfl sgZ x.cells wr.heap.size rfl rfl rfl Hsx1.out Hzx.out Hx1.out ?_)
      | (refine wpList_store_new (w := wr.alloc (.cells x.cells 54)) rfl 54 _ _ rfl sgZ y.cells (wr.heap.size + 1) (World.size_alloc _ _) rfl rfl Hsy1.out Hzy.out Hy1.out ?_))
     refine (Hsame.out _).mono ?_
     rintro e w7 ⟨rfl, hF7⟩
     have HF7 := Lib.hid (HF2.out.trans' hF7)
     clear hF7
     go_wp2_with fail
     go_ret
     exact ⟨by have h5 := HSx.out; simp only [Bool.false_and] at h5; subst h5; rfl, HF7.out⟩
   | true =>
     go_wp2_with (first
      | (with_reducible refine wpList_load_mid rfl 54 _ rfl b1 (o1 + i * 97) rfl x.cells.toList d HRa.out Hu.out Hd.out Hsx2.out ?_)
      | (with_reducible refine wpList_load_mid rfl 54 _ rfl b2 (o2 + i * 97) rfl y.cells.toList d HRb.out Hu.out Hd.out Hsy2.out ?_)
      | (with_reducible refine wpList_load_mid rfl 54 _ rfl wr.heap.size 0 rfl x.cells.toList d HRx0.out Hu.out Hd.out Hsx2.out ?_)
      | (with_reducible refine wpList_load_mid rfl 54 _ rfl (wr.heap.size + 1) 0 rfl y.cells.toList d HRy0.out Hu.out Hd.out Hsy2.out ?_)
      | (refine wpList_store_new (w := wr) rfl 54 _ _ rfl sgZ x.cells wr.heap.size rfl rfl rfl Hsx1.out Hzx.out Hx1.out ?_)
      | (refine wpList_store_new (w := wr.alloc (.cells x.cells 54)) rfl 54 _ _ rfl sgZ y.cells (wr.heap.size + 1) (World.size_alloc _ _) rfl rfl Hsy1.out Hzy.out Hy1.out ?_))
     refine (Hsame.out _).mono ?_
     rintro e w7 ⟨rfl, hF7⟩
     have HF7 := Lib.hid (HF2.out.trans' hF7)
     clear hF7
     go_wp2_with fail
     have HS7 : Hid (sameBy (l.drop (i + 1)) (m.drop (i + 1)) = R) := Lib.hid (by have h5 := HSx.out; simpa only [Bool.true_and] using h5)
     go_roundg (gk - 1)
     case measure => omega
     case rel => exact ⟨i + 1, by simp, by omega, by omega, HF7, HS7⟩
  ·obtain rfl : i = n := by omega
   have hR := HS.out
   rw [List.drop_eq_nil_of_le (by rw [Hn.out]; exact Nat.le_refl _), List.drop_eq_nil_of_le (by rw [← Hlm.out, Hn.out]; exact Nat.le_refl _)] at hR
   have HRt : Hid (true = R) := Lib.hid hR
   clear hR
   go_wp2_with fail
   go_ret
   exact ⟨ret_bool HRt.out, HF.out⟩
theorem equalFunc_c {S S' : Nat → Prop} {l m : List Sg} {v u : Value} {w : World} (hv : GS S l v w) (hu : GS S' m u w) (hl : l.length ≤ 1000) (hok1 : oks l) (hok2 : oks m) :
 Calls Tryz.prog 120 #[v, u, .func (.func 117) #[] #[]] w fun e w' => e = .returned (.bool (sameBy l m)) ∧ Fr NoB w w' := by
 obtain ⟨a1, c1, rfl, hc1, h1⟩ := hv
 obtain ⟨a2, c2, rfl, hc2, h2⟩ := hu
 by_cases hlm : l.length = m.length
 ·rcases h1 with rfl | ⟨b1, o1, rfl, hS1, hb1, hr1⟩
  ·obtain rfl : m = [] := List.length_eq_zero_iff.1 hlm.symm
   exact equalFunc_nil a1 a2 c1 c2 w
  ·rcases h2 with rfl | ⟨b2, o2, rfl, hS2, hb2, hr2⟩
   ·obtain rfl : l = [] := List.length_eq_zero_iff.1 hlm
    exact equalFunc_nil _ a2 c1 c2 w
   ·exact equalFunc_same l m b1 o1 c1 b2 o2 c2 w hlm hl hok1 hok2 hb1 hb2 hr1 hr2
 ·rw [sameBy_len l m hlm]
  exact equalFunc_unlike a1 a2 _ _ c1 c2 w hlm
end Go.Proofs.YtcddlemkimbkcaaGreatDoor
