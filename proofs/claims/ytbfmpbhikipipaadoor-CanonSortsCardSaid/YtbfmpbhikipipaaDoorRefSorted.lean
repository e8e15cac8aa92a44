/-
  The walk of the document's Sorted.
-/
import Derived.Test.YtbfmpbhikipipaaDoorRefPairs
import Derived.Test.YtbfmpbhikipipaaDoorFits
namespace Go.Proofs.YtbfmpbhikipipaaDoor
set_option linter.unusedVariables false
set_option linter.unusedSimpArgs false
set_option linter.unusedSectionVars false
open Go.RowKit
variable [OldK]

theorem All2.map_eq {α β : Type} {g : α → β} : ∀ {l : List α} {m : List β}, All2 (fun a b => b = g a) l m → m = l.map g
  | _, _, .nil => rfl
  | _, _, .cons h1 h2 => by rw [h1, All2.map_eq h2]; rfl
theorem All2.of_map {α β : Type} (g : α → β) : ∀ (l : List α), All2 (fun a b => b = g a) l (l.map g)
  | [] => .nil
  | x :: l => .cons rfl (All2.of_map g l)
theorem isort_map {α β : Type} {key : α → Bs} {key' : β → Bs} (g : α → β) (hk : ∀ a, key a = key' (g a)) (l : List α) : isort key' (l.map g) = (isort key l).map g :=
  (isort_rel (R := fun a b => b = g a) (key := key) (key' := key') (fun a b h => by rw [h]; exact hk a) (All2.of_map g l)).map_eq
theorem QRow.rowP {S : Nat → Prop} {N : Nat} {l : List (Bs × J)} {lv : Value} {w : World} (h : QRow S N l lv w) : ∃ a c, lv = .slice a l.length c ∧ RowP (fun k => (S k ∨ N ≤ k) ∧ k < w.heap.size) w l a := by
  obtain ⟨xs, hown, hrc⟩ := h
  rcases hown.2 with ⟨rfl, h0⟩ | ⟨g, cap, cur, rfl, hb, hg, hn, hcm, hcs, htake⟩
  · exact ⟨none, 0, by rw [h0], .inl (List.length_eq_zero_iff.1 h0)⟩
  · refine ⟨_, _, rfl, .inr ⟨g, 0, cur, (0, 0), rfl, ⟨.inr hb, get_lt hg⟩, Blk.of hg, ?_⟩⟩
    have e : (cur.toList.drop 0).take (6 * l.length) = xs := by rw [List.drop_zero, Nat.mul_comm]; exact htake
    rw [e]
    exact RP.kp (fun b o hs hb _ => ⟨⟨hs.1, get_lt hb⟩, hb⟩) l xs hrc

theorem fr_cell {w w' : World} (hF : Fr NoB w w') {a : Addr} {v : Value} (h : w.cell? a = some v) : w'.cell? a = some v := by
  cases hb : w.heap[a.block]? with
  | none => simp [World.cell?, hb] at h
  | some o =>
    have h2 := hF.block _ _ hb (fun h => h)
    simp only [World.cell?, hb] at h
    simp only [World.cell?, h2]
    exact h
/-- what the document's Sorted does, f levels deep -/
def RefSortedOk (f : Nat) : Prop := ∀ (d : Int) (S : Nat → Prop) (j : J) (v : Value) (w : World), RJ S w j v → fits 67108864 j = true → 0 ≤ d → d + f = 8 →
  Calls Tryd.prog 7 #[v, .int .i64 d] w fun e w' => ∃ x, e = .returned x ∧ RJ (fun k => S k ∨ w.heap.size ≤ k) w' (pSorts f j) x ∧ Fr NoB w w'

set_option maxRecDepth 100000 in
set_option maxHeartbeats 1000000 in
theorem refsorted_deep : RefSortedOk 0 := by
  intro d S j v w h hfit hd0 hd
  have hd8 : d = 8 := by simp at hd; omega
  subst hd8
  simp only [pSorts]
  obtain ⟨k, n, t, l, p⟩ := j
  obtain ⟨a1, c1, a2, c2, rfl, _, _⟩ := h.open
  have hb := heap_alloc_new w (.cells #[.int .i64 k, .int .i64 n, .string ⟨t.toArray⟩, .slice a1 l.length c1, .slice a2 p.length c2] 25)
  obtain ⟨b0, b1, b2, b3, b4, bz, blt⟩ := VB.at hb
  have hr := heap_alloc_new (w.alloc (.cells #[.int .i64 k, .int .i64 n, .string ⟨t.toArray⟩, .slice a1 l.length c1, .slice a2 p.length c2] 25)) (.cells #[.int .i64 k, .int .i64 n, .string ⟨t.toArray⟩, .slice a1 l.length c1, .slice a2 p.length c2] 25)
  rw [World.size_alloc] at hr
  obtain ⟨r0, r1, r2, r3, r4, rz, rlt⟩ := VB.at hr
  have hF : Fr NoB w ((w.alloc (.cells #[.int .i64 k, .int .i64 n, .string ⟨t.toArray⟩, .slice a1 l.length c1, .slice a2 p.length c2] 25)).alloc (.cells #[.int .i64 k, .int .i64 n, .string ⟨t.toArray⟩, .slice a1 l.length c1, .slice a2 p.length c2] 25)) := (Fr.refl.alloc _).alloc _
  have HF := Lib.hid hF
  have Hx := Lib.hid (RJ.kp (Kp.fr (S' := fun k => S k ∨ w.heap.size ≤ k) hF (fun _ h _ => .inl h) (fun _ _ _ _ _ h => h)) _ _ h)
  clear hF h hfit hb hr
  go_enter Tryd.func7, Tryd.ntmps7
  go_wp2_with fail
  refine bodyPost_ret (v := .agg #[.int .i64 k, .int .i64 n, .string ⟨t.toArray⟩, .slice a1 l.length c1, .slice a2 p.length c2]) (by simp [results, Tryd.results7, go_sem, r0, r1, r2, r3, r4]) rfl ?_
  exact ⟨_, rfl, Hx.out, HF.out⟩

set_option maxRecDepth 100000 in
set_option maxHeartbeats 4000000 in
theorem refsorted_succ (f : Nat) (ih : RefSortedOk f) : RefSortedOk (f + 1) := by
  intro d S j v w h hfit hd0 hd
  have hd8 : decide (8 ≤ d) = false := by rw [decide_eq_false_iff_not]; simp at hd; omega
  have hdf : d + 1 + (f : Int) = 8 := by simp at hd; omega
  have hwr : IntKind.i64.wrap (d + 1) = d + 1 := by rw [IntKind.wrap_i64]; simp at hd; omega
  obtain ⟨k, n, t, l, p⟩ := j
  simp only [pSorts]
  rw [isort_map (key := fun q : Bs × J => q.1) (fun q : Bs × J => (q.1, pSorts f q.2)) (fun _ => rfl)]
  obtain ⟨a1, c1, a2, c2, rfl, hl, hp⟩ := h.open
  have hll := (fits.open hfit).2.1
  have hpl := (fits.open hfit).2.2.1
  have Hfl := Lib.hid (fits.open hfit).2.2.2.1
  have Hfq : Hid (fitsp 67108864 (isort (fun q : Bs × J => q.1) p) = true) := Lib.hid (by
    rw [fitsp_iff]
    intro q hq
    exact fitsp_iff p |>.1 (fits.open hfit).2.2.2.2 q ((isort_mem _ _ _).1 hq))
  have Hl := Lib.hid hl.lt
  have Hp := Lib.hid hp.lt
  obtain ⟨Q, hQ⟩ : ∃ Q, isort (fun q : Bs × J => q.1) p = Q := ⟨_, rfl⟩
  have hQl : Q.length = p.length := by rw [← hQ, isort_length]
  rw [hQ] at Hfq ⊢
  have HQ := Lib.hid hQ
  clear h hfit hl hp hd hQ
  -- the world ahead of the loops
  have hb := heap_alloc_new w (.cells #[.int .i64 k, .int .i64 n, .string ⟨t.toArray⟩, .slice a1 l.length c1, .slice a2 p.length c2] 25)
  obtain ⟨b0, b1, b2, b3, b4, bz, blt⟩ := VB.at hb
  obtain ⟨W3, hW3⟩ : ∃ W3, W3 = (((w.alloc (.cells #[.int .i64 k, .int .i64 n, .string ⟨t.toArray⟩, .slice a1 l.length c1, .slice a2 p.length c2] 25)).alloc (.cells #[.int .i64 0, .int .i64 0, .string ⟨#[]⟩, .slice none 0 0, .slice none 0 0] 25)).alloc (.cells #[.int .i64 k, .int .i64 n, .string ⟨t.toArray⟩, .slice none 0 0, .slice none 0 0] 25)) := ⟨_, rfl⟩
  have hv3 : W3.heap[w.heap.size]? = some (.cells #[.int .i64 k, .int .i64 n, .string ⟨t.toArray⟩, .slice a1 l.length c1, .slice a2 p.length c2] 25 (0, 0)) := by
    rw [hW3]
    exact (((Fr.refl (M := NoB)).alloc _).alloc _).block _ _ hb (fun h => h)
  have hr3 : W3.heap[w.heap.size + 1]? = some (.cells #[.int .i64 0, .int .i64 0, .string ⟨#[]⟩, .slice none 0 0, .slice none 0 0] 25 (0, 0)) := by
    have := heap_alloc_new (w.alloc (.cells #[.int .i64 k, .int .i64 n, .string ⟨t.toArray⟩, .slice a1 l.length c1, .slice a2 p.length c2] 25)) (.cells #[.int .i64 0, .int .i64 0, .string ⟨#[]⟩, .slice none 0 0, .slice none 0 0] 25)
    rw [World.size_alloc] at this
    rw [hW3]
    exact ((Fr.refl (M := NoB)).alloc _).block _ _ this (fun h => h)
  have hb3 : W3.heap[w.heap.size + 2]? = some (.cells #[.int .i64 k, .int .i64 n, .string ⟨t.toArray⟩, .slice none 0 0, .slice none 0 0] 25 (0, 0)) := by
    have := heap_alloc_new ((w.alloc (.cells #[.int .i64 k, .int .i64 n, .string ⟨t.toArray⟩, .slice a1 l.length c1, .slice a2 p.length c2] 25)).alloc (.cells #[.int .i64 0, .int .i64 0, .string ⟨#[]⟩, .slice none 0 0, .slice none 0 0] 25)) (.cells #[.int .i64 k, .int .i64 n, .string ⟨t.toArray⟩, .slice none 0 0, .slice none 0 0] 25)
    rw [World.size_alloc, World.size_alloc] at this
    rw [hW3]
    exact this
  have hF3 : Fr NoB w W3 := by rw [hW3]; exact ((Fr.refl.alloc _).alloc _).alloc _
  have HV3 := Lib.hid hv3
  have HB3 := Lib.hid hb3
  have HR3 := Lib.hid hr3
  have HF3 := Lib.hid hF3
  clear hb hb3 hr3 hF3 hv3
  obtain ⟨i0, hi, hz0, hz1, hz2⟩ := info_parts Tryd.infoV
  go_enter Tryd.func7, Tryd.ntmps7
  go_wp2_with fail
  rw [← hW3]
  go_loopg [6] (l.length + 1) (fun g vi wr => ∃ (i : Nat) (lv : Value), vi = .int .i64 i ∧ i ≤ l.length ∧ i + g = l.length + 1 ∧
    wr.heap[w.heap.size]? = some (.cells #[.int .i64 k, .int .i64 n, .string ⟨t.toArray⟩, .slice a1 l.length c1, .slice a2 p.length c2] 25 (0, 0)) ∧
    wr.heap[w.heap.size + 2]? = some (.cells #[.int .i64 k, .int .i64 n, .string ⟨t.toArray⟩, lv, .slice none 0 0] 25 (0, 0)) ∧
    wr.heap[w.heap.size + 1]? = some (.cells #[.int .i64 0, .int .i64 0, .string ⟨#[]⟩, .slice none 0 0, .slice none 0 0] 25 (0, 0)) ∧
    LRow (fun k => S k ∧ k < w.heap.size) (w.heap.size + 3) ((l.take i).map (pSorts f)) lv wr ∧ Fr NoB w wr)
  case atStart => exact ⟨0, _, rfl, by omega, by omega, HV3.out, HB3.out, HR3.out, LRow.nil _ _ _, HF3.out⟩
  case round =>
    clear HV3 HB3 HR3 HF3 b0 b1 b2 b3 b4 bz blt
    obtain ⟨i, lv, rfl, hi', hgk, hv, hb, hr, hrow, hF⟩ := hrel
    rcases Nat.lt_or_ge i l.length with hlt | hge
    · obtain ⟨j, hj⟩ : ∃ j, l[i]? = some j := ⟨_, List.getElem?_eq_getElem hlt⟩
      have hF' := hF.trans' ((Fr.refl (M := NoB) (w := wr)).drew)
      have hkp := (Hl.out.kp (Kp.ofFr hF))
      obtain ⟨b, o, x0, x1, x2, x3, x4, rfl, hbl, e0, e1, e2, e3, e4, hrj⟩ := hkp.at hj
      have hrj' := RJ.kp (Kp.ofFr ((Fr.refl (M := NoB) (w := wr)).drew)) _ _ hrj
      have hcall := ih (d + 1) _ _ _ _ hrj' (fitsl.at l Hfl.out i _ hj) (by omega) hdf
      clear hrj hrj' hkp
      obtain ⟨⟨jk', jn', jt', jl', jp'⟩, hjs⟩ : ∃ j', pSorts f j = j' := ⟨_, rfl⟩
      rw [hjs] at hcall
      obtain ⟨xs, hown, hrc⟩ := hrow
      obtain ⟨ao, co, rfl⟩ := own_form hown
      have hbx : wr.drew.heap[w.heap.size + 2]? = _ := hb
      have hvx : wr.drew.heap[w.heap.size]? = _ := hv
      have hml : ((l.take i).map (pSorts f)).length = i := by simp; omega
      obtain ⟨v0, v1, v2, v3, v4, vz, vlt⟩ := VB.at hv
      have B3 : wr.cell? ⟨w.heap.size + 2, 3, none⟩ = some (.slice ao ((l.take i).map (pSorts f)).length co) := (VB.at hb).2.2.2.1
      rw [hml] at B3 hown
      have Hcall := Lib.hid hcall
      have Hjs := Lib.hid hjs
      have Hown := Lib.hid hown
      have Hrc := Lib.hid hrc
      have Hb := Lib.hid hb
      have Hv := Lib.hid hv
      have Hr := Lib.hid hr
      have HF := Lib.hid hF'
      have HFX : Hid (Fr NoB wr wr.drew) := Lib.hid Fr.refl.drew
      have Hbx := Lib.hid hbx
      have hwN : w.heap.size + 2 < wr.heap.size := get_lt hb
      clear hcall hjs hown hrc hb hr hv hbx hvx hml hF hF'
      go_wp2_with fail
      have hlen1 : (i + 1) * 80 ≤ 140737488355328 := by omega
      have hlen2 : i + 1 ≤ maxLen := by unfold maxLen; omega
      have hown0 := fun k hk => (own_ty Hown.out k hk).1
      have HO0 := Lib.hid hown0
      clear hown0
      go_region_law (first
        | (go_simp; go_at_call 7; refine Hcall.out.mono ?_; rintro e w1 ⟨y, rfl, hy, hF1⟩; obtain ⟨z1, m1, z2, m2, rfl, _, _⟩ := hy.open; have Hy := Lib.hid hy; have HF1 := Lib.hid hF1; have Hb1 := Lib.hid (hF1.block _ _ Hbx.out (fun h => h)); have B31 := (VB.at Hb1.out).2.2.2.1; have BZ1 := (VB.at Hb1.out).2.2.2.2.2.1 3; have BL1 := (VB.at Hb1.out).2.2.2.2.2.2; clear hy hF1)
        | (refine step_append_own rfl (.tmp 23) (.tmp 32) 22 rfl (w.heap.size + 3) 25 i0 (.agg #[.int .i64 0, .int .i64 0, .string ⟨#[]⟩, .slice none 0 0, .slice none 0 0]) 5 80 Tryd.underlying22 hi hz0 hz1 hz2 rfl (by decide) (.slice ao i co) i xs rfl (by exact ((own_fr Hown.out (HFX.out.trans' HF1.out) (fun _ _ _ _ _ h => h)).alloc _)) ⟨w1.heap.size, 0, none⟩ 1 [.int .i64 jk', .int .i64 jn', .string ⟨jt'.toArray⟩, .slice z1 jl'.length m1, .slice z2 jp'.length m2] rfl rfl (by exact cells_at w1 _ _ _ rfl) (by simp [Value.oneCell']) hlen2 hlen1 (by simp; omega) ?_; intro g cap w2 hown2 hgr2 hg2 hc2 hf2; have Hown2 := Lib.hid hown2; have Hgr2 := Lib.hid hgr2; have Hg2 := Lib.hid hg2; have Hb2 := Lib.hid (grown_keep hgr2 (alloc_keep _ Hb1.out) (fun e => by have := HO0.out _ e; omega)); have B32 := (VB.at Hb2.out).2.2.2.1; have BZ2 := (VB.at Hb2.out).2.2.2.2.2.1 3; clear hown2 hgr2 hg2 hc2 hf2))
      all_goals
        go_wp2_with fail
        go_roundg (gk - 1)
        case measure => omega
        case rel =>
          have hml : ((l.take i).map (pSorts f)).length = i := by simp; omega
          have htk : (l.take (i + 1)).map (pSorts f) = (l.take i).map (pSorts f) ++ [.mk jk' jn' jt' jl' jp'] := by
            obtain ⟨hi1, he⟩ := List.getElem?_eq_some_iff.1 hj
            rw [List.take_succ_eq_append_getElem hi1, List.map_append, he, ← Hjs.out]
            rfl
          have hg2 : (Value.slice ao i co).ownBlock = some g ∨ w1.heap.size + 1 ≤ g := by have := Hg2.out; simp only [World.size_alloc] at this; exact this
          have hgN : w.heap.size + 3 ≤ g := by
            rcases hg2 with h | h
            · exact HO0.out _ h
            · have := HF1.out.size
              simp only [World.size_drew, World.size_alloc] at this
              omega
          refine ⟨i + 1, .slice (some ⟨g, 0, none⟩) (i + 1) cap, by simp, by omega, by omega, set_keep (grown_keep Hgr2.out (alloc_keep _ (HF1.out.block _ _ (HFX.out.block _ _ Hv.out (fun h => h)) (fun h => h))) (fun e => by have := HO0.out _ e; omega)) (by omega), heap_setCell_eq (o := 3) _ Hb2.out, set_keep (grown_keep Hgr2.out (alloc_keep _ (HF1.out.block _ _ (HFX.out.block _ _ Hr.out (fun h => h)) (fun h => h))) (fun e => by have := HO0.out _ e; omega)) (by omega), ?_, ?_⟩
          · rw [htk]
            have hp := LRow.push (S := fun k => S k ∧ k < w.heap.size) (N := w.heap.size + 3) (bv := w.heap.size + 2) (g := g) (cap := cap) (l := (l.take i).map (pSorts f)) (xs := xs) (lv := .slice ao i co) (by rw [hml]; exact own_fr Hown.out (HFX.out.trans' HF1.out) (fun _ _ _ _ _ h => h)) (RC.kp (Kp.ofFr (HFX.out.trans' HF1.out)) _ _ (by have := Hrc.out; rw [hml] at this; exact this)) (fun k h => by omega) Hy.out (by simp only [World.size_drew, World.size_alloc]; omega) (fun k h => by
              obtain ⟨_, o', ho, _⟩ := own_ty Hown.out k h
              have := get_lt ho
              simp only [World.size_drew, World.size_alloc]; omega) Hgr2.out hg2 (by rw [hml]; exact Hown2.out) (by omega) (fun h => by omega) hgN 3 (X := .slice (some ⟨g, 0, none⟩) (i + 1) cap)
            rw [hml] at hp
            exact hp
          · exact (HF.out.trans' HF1.out).trans (push_fr Hgr2.out) (fun k o hm => .inr (by
              rcases hm with h | rfl
              · have := HO0.out _ h; omega
              · omega))
    · obtain rfl : i = l.length := by omega
      rw [List.take_length] at hrow
      obtain ⟨al, cl, rfl, hrv⟩ := hrow.row
      rw [List.length_map] at hb
      obtain ⟨v0, v1, v2, v3, v4, vz, vlt⟩ := VB.at hv
      have hwN : w.heap.size + 2 < wr.heap.size := get_lt hb
      have hpc := refPairs_c (fun k => S k ∧ k < w.heap.size) p a2 c2 wr (Hp.out.kp (Kp.ofFr hF)) hpl
      obtain ⟨M0, hM0⟩ : ∃ M0, M0 = wr.heap.size := ⟨_, rfl⟩
      rw [← hM0] at hpc hrv hwN
      have Hpc := Lib.hid hpc
      have Hb := Lib.hid hb
      have Hr := Lib.hid hr
      have HF := Lib.hid hF
      have Hrv := Lib.hid hrv
      have HM0 := Lib.hid hM0
      clear hb hr hF hrow hrv hpc hv hM0
      go_wp2_with fail
      refine Hpc.out.mono ?_
      rintro e w1 ⟨aq, cq, rfl, hq, hF1⟩
      rw [HQ.out] at hq
      obtain ⟨N2, hN2⟩ : ∃ N2, N2 = w1.heap.size := ⟨_, rfl⟩
      have hMN : M0 ≤ N2 := by rw [hN2, HM0.out]; exact hF1.size
      have hq2 := hq.lt
      rw [← hN2] at hq2
      have Hq2 := Lib.hid hq2
      have Hrv2 := Lib.hid ((Hrv.out.kp (Kp.ofFr hF1)).kp (S' := fun k => ((S k ∧ k < w.heap.size) ∨ w.heap.size + 3 ≤ k) ∧ k < N2) (fun b o hs hb _ => ⟨⟨hs.1, by have := hs.2; omega⟩, hb⟩))
      have Hb1 := Lib.hid (hF1.block _ _ Hb.out (fun h => h))
      have Hr1 := Lib.hid (hF1.block _ _ Hr.out (fun h => h))
      have HFw := Lib.hid (HF.out.trans' hF1)
      have HN2 := Lib.hid hN2
      clear hq hq2 hF1 Hb Hr HF Hrv Hpc hN2 v0 v1 v2 v3 v4 vz vlt
      go_wp2_with fail
      go_loopg [8] (p.length + 1) (fun g vi wr => ∃ (i : Nat) (lv : Value), vi = .int .i64 i ∧ i ≤ p.length ∧ i + g = p.length + 1 ∧
        wr.heap[w.heap.size + 2]? = some (.cells #[.int .i64 k, .int .i64 n, .string ⟨t.toArray⟩, .slice al l.length cl, lv] 25 (0, 0)) ∧
        wr.heap[w.heap.size + 1]? = some (.cells #[.int .i64 0, .int .i64 0, .string ⟨#[]⟩, .slice none 0 0, .slice none 0 0] 25 (0, 0)) ∧
        QRow (fun k => ((S k ∧ k < w.heap.size) ∨ M0 ≤ k) ∧ k < N2) N2 ((Q.take i).map fun q => (q.1, pSorts f q.2)) lv wr ∧
        RowV (fun k => ((S k ∧ k < w.heap.size) ∨ w.heap.size + 3 ≤ k) ∧ k < N2) wr (l.map (pSorts f)) al ∧
        RowP (fun k => ((S k ∧ k < w.heap.size) ∨ M0 ≤ k) ∧ k < N2) wr Q aq ∧ N2 ≤ wr.heap.size ∧ Fr NoB w wr)
      case atStart => exact ⟨0, _, rfl, by omega, by omega, Hb1.out, Hr1.out, QRow.nil _ _ _, Hrv2.out, Hq2.out, by rw [HN2.out]; exact Nat.le_refl _, HFw.out⟩
      case round =>
        clear HFw Hrv2 Hb1 Hr1 Hq2 HN2 HM0
        obtain ⟨i, lv, rfl, hi', hgk, hb, hr, hrow, hrv, hqr, hNs, hF⟩ := hrel
        rcases Nat.lt_or_ge i p.length with hlt | hge
        · obtain ⟨⟨nm, j⟩, hj⟩ : ∃ j, Q[i]? = some j := ⟨_, List.getElem?_eq_getElem (by omega)⟩
          obtain ⟨b, o, x0, x1, x2, x3, x4, rfl, hbl, e5, e0, e1, e2, e3, e4, hrj⟩ := hqr.at hj
          have hrj' := RJ.kp (Kp.ofFr ((Fr.refl (M := NoB) (w := wr)).drew)) _ _ hrj
          have hcall := ih (d + 1) _ _ _ _ hrj' (fitsp.at Q Hfq.out i _ _ hj).2 (by omega) hdf
          clear hrj hrj'
          obtain ⟨⟨jk', jn', jt', jl', jp'⟩, hjs⟩ : ∃ j', pSorts f j = j' := ⟨_, rfl⟩
          rw [hjs] at hcall
          obtain ⟨xs, hown, hrc⟩ := hrow
          obtain ⟨ao, co, rfl⟩ := own_form hown
          have hbx : wr.drew.heap[w.heap.size + 2]? = _ := hb
          have B3 : wr.cell? ⟨w.heap.size + 2, 4, none⟩ = some (.slice ao ((Q.take i).map fun q => (q.1, pSorts f q.2)).length co) := (VB.at hb).2.2.2.2.1
          have hml : ((Q.take i).map fun q => (q.1, pSorts f q.2)).length = i := by simp; omega
          rw [hml] at B3 hown
          have Hcall := Lib.hid hcall
          have Hjs := Lib.hid hjs
          have Hown := Lib.hid hown
          have Hrc := Lib.hid hrc
          have Hb := Lib.hid hb
          have Hr := Lib.hid hr
          have HF := Lib.hid (hF.trans' ((Fr.refl (M := NoB) (w := wr)).drew))
          have HFX : Hid (Fr NoB wr wr.drew) := Lib.hid Fr.refl.drew
          have Hbx := Lib.hid hbx
          have Hrv := Lib.hid hrv
          have Hqr := Lib.hid hqr
          have HNs := Lib.hid hNs
          clear hcall hjs hown hrc hb hr hbx hml hrv hqr hF
          go_wp2_with fail
          have hlen1 : (i + 1) * 96 ≤ 140737488355328 := by omega
          have hlen2 : i + 1 ≤ maxLen := by unfold maxLen; omega
          have hown0 := fun k hk => (own_ty Hown.out k hk).1
          have HO0 := Lib.hid hown0
          obtain ⟨i1, hi1, hy0, hy1, hy2⟩ := info_parts Tryd.infoP
          clear hown0
          go_region_law (first
            | (go_simp; go_at_call 7; refine Hcall.out.mono ?_; rintro e w1 ⟨y, rfl, hy, hF1⟩; obtain ⟨z1, m1, z2, m2, rfl, _, _⟩ := hy.open; have Hy := Lib.hid hy; have HF1 := Lib.hid hF1; have Hb1 := Lib.hid (hF1.block _ _ Hbx.out (fun h => h)); have B31 := (VB.at Hb1.out).2.2.2.2.1; have BZ1 := (VB.at Hb1.out).2.2.2.2.2.1 4; have BL1 := (VB.at Hb1.out).2.2.2.2.2.2; have BE1 := fr_cell (HFX.out.trans' hF1) e5; clear hy hF1)
            | (refine step_append_own rfl (.tmp 45) (.tmp 60) 23 rfl N2 31 i1 (.agg #[.string ⟨#[]⟩, .int .i64 0, .int .i64 0, .string ⟨#[]⟩, .slice none 0 0, .slice none 0 0]) 6 96 Tryd.underlying23 hi1 hy0 hy1 hy2 rfl (by decide) (.slice ao i co) i xs rfl (by exact ((own_fr Hown.out (HFX.out.trans' HF1.out) (fun _ _ _ _ _ h => h)).alloc _)) ⟨w1.heap.size, 0, none⟩ 1 [.string ⟨nm.toArray⟩, .int .i64 jk', .int .i64 jn', .string ⟨jt'.toArray⟩, .slice z1 jl'.length m1, .slice z2 jp'.length m2] rfl rfl (by exact cells_at w1 _ _ _ rfl) (by simp [Value.oneCell']) hlen2 hlen1 (by have := HF1.out.size; simp only [World.size_drew, World.size_alloc] at this ⊢; omega) ?_; intro g cap w2 hown2 hgr2 hg2 hc2 hf2; have Hown2 := Lib.hid hown2; have Hgr2 := Lib.hid hgr2; have Hg2 := Lib.hid hg2; have Hb2 := Lib.hid (grown_keep hgr2 (alloc_keep _ Hb1.out) (fun e => by have := HO0.out _ e; omega)); have B32 := (VB.at Hb2.out).2.2.2.2.1; have BZ2 := (VB.at Hb2.out).2.2.2.2.2.1 4; clear hown2 hgr2 hg2 hc2 hf2))
          all_goals
            go_wp2_with fail
            go_roundg (gk - 1)
            case measure => omega
            case rel =>
              have hml : ((Q.take i).map fun q => (q.1, pSorts f q.2)).length = i := by simp; omega
              have htk : ((Q.take (i + 1)).map fun q => (q.1, pSorts f q.2)) = ((Q.take i).map fun q => (q.1, pSorts f q.2)) ++ [(nm, .mk jk' jn' jt' jl' jp')] := by
                obtain ⟨hi1, he⟩ := List.getElem?_eq_some_iff.1 hj
                rw [List.take_succ_eq_append_getElem hi1, List.map_append, he, ← Hjs.out]
                rfl
              have hg2 : (Value.slice ao i co).ownBlock = some g ∨ w1.heap.size + 1 ≤ g := by have := Hg2.out; simp only [World.size_alloc] at this; exact this
              have hsz1 := HF1.out.size
              have hsz2 := Hgr2.out.size
              have hNs2 := HNs.out
              simp only [World.size_drew, World.size_alloc] at hsz1 hsz2
              have hgN : N2 ≤ g := by
                rcases hg2 with h | h
                · exact HO0.out _ h
                · omega
              refine ⟨i + 1, .slice (some ⟨g, 0, none⟩) (i + 1) cap, by simp, by omega, by omega, heap_setCell_eq (o := 4) _ Hb2.out, set_keep (grown_keep Hgr2.out (alloc_keep _ (HF1.out.block _ _ (HFX.out.block _ _ Hr.out (fun h => h)) (fun h => h))) (fun e => by have := HO0.out _ e; omega)) (by omega), ?_, ?_, ?_, ?_, ?_⟩
              · rw [htk]
                have hp := QRow.push (S := fun k => ((S k ∧ k < w.heap.size) ∨ M0 ≤ k) ∧ k < N2) (N := N2) (bv := w.heap.size + 2) (g := g) (cap := cap) (l := (Q.take i).map fun q => (q.1, pSorts f q.2)) (xs := xs) (lv := .slice ao i co) (nm := nm) (by rw [hml]; exact own_fr Hown.out (HFX.out.trans' HF1.out) (fun _ _ _ _ _ h => h)) (RP.kp (Kp.ofFr (HFX.out.trans' HF1.out)) _ _ (by have := Hrc.out; rw [hml] at this; exact this)) (fun k h => h.2) Hy.out (by simp only [World.size_drew, World.size_alloc]; omega) (fun k h => by
                  obtain ⟨_, o', ho, _⟩ := own_ty Hown.out k h
                  have := get_lt ho
                  simp only [World.size_drew, World.size_alloc]; omega) Hgr2.out hg2 (by rw [hml]; exact Hown2.out) (by omega) (fun h => by rcases h.1 with h | h <;> omega) hgN 4 (X := .slice (some ⟨g, 0, none⟩) (i + 1) cap)
                rw [hml] at hp
                exact hp
              · refine (Hrv.out.kp (Kp.ofFr (HFX.out.trans' HF1.out))).kp (fun b' o' hs hb' _ => ⟨hs, (push_fr Hgr2.out).block b' o' hb' ?_⟩)
                rintro (h | h)
                · have := HO0.out _ h; omega
                · omega
              · refine (Hqr.out.kp (Kp.ofFr (HFX.out.trans' HF1.out))).kp (fun b' o' hs hb' _ => ⟨hs, (push_fr Hgr2.out).block b' o' hb' ?_⟩)
                rintro (h | h)
                · have := HO0.out _ h; omega
                · omega
              · rw [World.size_setCell]; omega
              · exact (HF.out.trans' HF1.out).trans (push_fr Hgr2.out) (fun k o hm => .inr (by
                  rcases hm with h | rfl
                  · have := HO0.out _ h; omega
                  · omega))
        · obtain rfl : i = p.length := by omega
          rw [← hQl, List.take_length] at hrow
          obtain ⟨ap, cp, rfl, hrp⟩ := hrow.rowP
          rw [List.length_map, hQl] at hb
          obtain ⟨c0, c1', c2', c3, c4, cz, clt⟩ := VB.at hb
          obtain ⟨a0, a1', a2', a3, a4, fz, hlt1⟩ := VB.at hr
          have Hrv := Lib.hid hrv
          have HF := Lib.hid hF
          have Hrp := Lib.hid hrp
          clear hrow hrv hF hrp hqr
          go_wp2_with fail
          refine bodyPost_ret (v := .agg #[.int .i64 k, .int .i64 n, .string ⟨t.toArray⟩, .slice al l.length cl, .slice ap p.length cp]) (by simp [results, Tryd.results7, go_sem, a0, a1', a2', a3, a4]) rfl ?_
          refine ⟨_, rfl, ?_, HF.out.setV (by omega) _ _ _ _ _⟩
          unfold RJ
          refine ⟨al, cl, ap, cp, by rw [List.length_map, List.length_map, hQl], Hrv.out.kp (fun b' o' hs hb' _ => ?_), Hrp.out.kp (fun b' o' hs hb' _ => ?_)⟩
          · have hs1 : ((S b' ∧ b' < w.heap.size) ∨ w.heap.size + 3 ≤ b') ∧ b' < N2 := hs
            exact ⟨hs1.1.elim (fun h => .inl h.1) (fun h => .inr (by omega)), (setV_fr (w.heap.size + 1) _ _ _ _ _ _).block b' o' hb' (by
              show ¬ b' = w.heap.size + 1
              omega)⟩
          · have hs1 : ((((S b' ∧ b' < w.heap.size) ∨ M0 ≤ b') ∧ b' < N2) ∨ N2 ≤ b') ∧ b' < wr.heap.size := hs
            exact ⟨by
              show S b' ∨ w.heap.size ≤ b'
              rcases hs1.1 with h | h
              · rcases h.1 with h | h
                · exact .inl h.1
                · exact .inr (by omega)
              · exact .inr (by omega), (setV_fr (w.heap.size + 1) _ _ _ _ _ _).block b' o' hb' (by
              show ¬ b' = w.heap.size + 1
              rcases hs1.1 with h | h
              · rcases h.1 with h | h <;> omega
              · omega)⟩
theorem refsorted_c : ∀ f, RefSortedOk f := by
  intro f
  induction f with
  | zero => exact refsorted_deep
  | succ f ih => exact refsorted_succ f ih
end Go.Proofs.YtbfmpbhikipipaaDoor
