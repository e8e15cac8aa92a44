/-
  The walk of the law CanonSorts.
-/
import Derived.Test.YtbfmpbhikipipaaDoorHeavyAll
import Derived.Test.YtbfmpbhikipipaaDoorRefSorted
import Derived.Test.YtbfmpbhikipipaaDoorIsAll
import Derived.Test.YtbfmpbhikipipaaDoorStableAll
import Derived.Test.YtbfmpbhikipipaaDoorFits
import Derived.BigQuiet
namespace Go.Proofs.YtbfmpbhikipipaaDoor
set_option linter.unusedVariables false
set_option linter.unusedSimpArgs false
set_option linter.unusedSectionVars false
open Go.RowKit
variable [OldK]
theorem Tryd.infoStr : (Tryd.prog.info? 9).map (fun i => (i.zero, i.size, i.bytes)) = some (some (.string ⟨#[]⟩), 1, 16) := by kernel_rfl
/-- the pairs of a value lie in a block between B and M that may be written -/
def PairsOk (B M : Nat) (a : Option Addr) (m : Nat) (w : World) : Prop :=
  m = 0 ∨ ∃ g cs, a = some ⟨g, 0, none⟩ ∧ B ≤ g ∧ g < M ∧ w.heap[g]? = some (.cells cs 31 (0, 0)) ∧ 6 * m ≤ cs.size
def ListOk (B M : Nat) (a : Option Addr) (m : Nat) (w : World) : Prop :=
  m = 0 ∨ ∃ g cs, a = some ⟨g, 0, none⟩ ∧ B ≤ g ∧ g < M ∧ w.heap[g]? = some (.cells cs 25 (0, 0)) ∧ 5 * m ≤ cs.size
theorem PairsOk.fr {B M m : Nat} {a : Option Addr} {w w' : World} (h : PairsOk B M a m w) (hF : Fr NoB w w') : PairsOk B M a m w' := by
  rcases h with h | ⟨g, cs, ha, hb, hm, hg, hs⟩
  · exact .inl h
  · exact .inr ⟨g, cs, ha, hb, hm, hF.block _ _ hg (fun h => h), hs⟩
theorem ListOk.fr {B M m : Nat} {a : Option Addr} {w w' : World} (h : ListOk B M a m w) (hF : Fr NoB w w') : ListOk B M a m w' := by
  rcases h with h | ⟨g, cs, ha, hb, hm, hg, hs⟩
  · exact .inl h
  · exact .inr ⟨g, cs, ha, hb, hm, hF.block _ _ hg (fun h => h), hs⟩
theorem PairsOk.set {B M m : Nat} {a : Option Addr} {w : World} (h : PairsOk B M a m w) (g o : Nat) (v : Value) : PairsOk B M a m (w.setCell ⟨g, o, none⟩ v) := by
  rcases h with h | ⟨g', cs, ha, hb, hm, hg, hs⟩
  · exact .inl h
  · by_cases e : g' = g
    · subst e
      exact .inr ⟨g', _, ha, hb, hm, heap_setCell_eq _ hg, by simpa using hs⟩
    · exact .inr ⟨g', cs, ha, hb, hm, set_keep hg e, hs⟩
theorem ListOk.set {B M m : Nat} {a : Option Addr} {w : World} (h : ListOk B M a m w) (g o : Nat) (v : Value) : ListOk B M a m (w.setCell ⟨g, o, none⟩ v) := by
  rcases h with h | ⟨g', cs, ha, hb, hm, hg, hs⟩
  · exact .inl h
  · by_cases e : g' = g
    · subst e
      exact .inr ⟨g', _, ha, hb, hm, heap_setCell_eq _ hg, by simpa using hs⟩
    · exact .inr ⟨g', cs, ha, hb, hm, set_keep hg e, hs⟩
theorem PairsOk.at {B M m : Nat} {a : Option Addr} {w : World} (h : PairsOk B M a m w) {i : Nat} (hi : i < m) :
    ∃ g x, a = some ⟨g, 0, none⟩ ∧ B ≤ g ∧ g < M ∧ w.cell? ⟨g, i * 6, none⟩ = some x ∧ (∀ o, w.frozen? ⟨g, o, none⟩ = false) ∧ g < w.heap.size := by
  rcases h with h | ⟨g, cs, ha, hb, hm, hg, hs⟩
  · omega
  · refine ⟨g, cs[i * 6]'(by omega), ha, hb, hm, ?_, ?_, get_lt hg⟩
    · simp [World.cell?, hg]
    · intro o; simp [World.frozen?, hg]
theorem ListOk.at {B M m : Nat} {a : Option Addr} {w : World} (h : ListOk B M a m w) {i : Nat} (hi : i < m) :
    ∃ g, a = some ⟨g, 0, none⟩ ∧ B ≤ g ∧ g < M ∧ (∃ x, w.cell? ⟨g, i * 5, none⟩ = some x) ∧ (∃ x, w.cell? ⟨g, i * 5 + 1, none⟩ = some x) ∧ (∃ x, w.cell? ⟨g, i * 5 + 2, none⟩ = some x) ∧ (∃ x, w.cell? ⟨g, i * 5 + 3, none⟩ = some x) ∧
      (∃ x, w.cell? ⟨g, i * 5 + 4, none⟩ = some x) ∧ (∀ o, w.frozen? ⟨g, o, none⟩ = false) ∧ g < w.heap.size := by
  rcases h with h | ⟨g, cs, ha, hb, hm, hg, hs⟩
  · omega
  · refine ⟨g, ha, hb, hm, ⟨cs[i * 5]'(by omega), ?_⟩, ⟨cs[i * 5 + 1]'(by omega), ?_⟩, ⟨cs[i * 5 + 2]'(by omega), ?_⟩, ⟨cs[i * 5 + 3]'(by omega), ?_⟩, ⟨cs[i * 5 + 4]'(by omega), ?_⟩, ?_, get_lt hg⟩
    all_goals first | (simp [World.cell?, hg]; done) | (intro o; simp [World.frozen?, hg])
theorem RP.len {S : Nat → Prop} {w : World} : ∀ (l : List (Bs × J)) (xs : List Value), RP S w l xs → xs.length = 6 * l.length
  | [], xs, h => by unfold RP at h; simp [h]
  | (_, j) :: l, xs, h => by
    unfold RP at h
    obtain ⟨c0, c1, c2, c3, c4, ys, rfl, _, hr⟩ := h
    have := RP.len l ys hr
    simp only [List.length_cons]
    omega
theorem RC.len {S : Nat → Prop} {w : World} : ∀ (l : List J) (xs : List Value), RC S w l xs → xs.length = 5 * l.length
  | [], xs, h => by unfold RC at h; simp [h]
  | j :: l, xs, h => by
    unfold RC at h
    obtain ⟨c0, c1, c2, c3, c4, ys, rfl, _, hr⟩ := h
    have := RC.len l ys hr
    simp only [List.length_cons]
    omega
theorem pairs_ok {B B' M : Nat} {S : Nat → Prop} {w : World} {k n t : Value} {a1 a2 : Option Addr} {m c1 c2 : Nat} {p : List (Bs × J)} (h : TopN B w (.agg #[k, n, t, .slice a1 m c1, .slice a2 p.length c2])) (hp : RowP S w p a2) (hB : B' ≤ B) (hM : M = w.heap.size) :
    PairsOk B' M a2 p.length w := by
  obtain ⟨k', n', t', a1', n1, c1', a2', n2, c2', e, _, h2⟩ := h
  obtain ⟨rfl, rfl, rfl, ⟨rfl, rfl, rfl⟩, rfl, rfl, rfl⟩ : k' = k ∧ n' = n ∧ t' = t ∧ (a1' = a1 ∧ n1 = m ∧ c1' = c1) ∧ a2' = a2 ∧ n2 = p.length ∧ c2' = c2 := by
    simp at e
    grind
  rcases h2 with h | ⟨g, cs, ha, hb, hg⟩
  · exact .inl h
  · rcases hp with rfl | ⟨b, o, cs', f, hab, hs, hblk, hr⟩
    · exact .inl rfl
    · rw [ha] at hab
      obtain ⟨rfl, rfl⟩ : b = g ∧ o = 0 := by simp at hab; exact ⟨hab.1.symm, hab.2.symm⟩
      obtain ⟨T, hbl, _⟩ := hblk
      rw [hg] at hbl
      obtain ⟨rfl, rfl, rfl⟩ : cs = cs' ∧ 31 = T ∧ (0, 0) = f := by simpa using hbl
      have := RP.len _ _ hr
      rw [List.length_take, List.length_drop] at this
      have ecs : cs.toList.length = cs.size := by simp
      exact .inr ⟨b, cs, ha, by omega, by rw [hM]; exact get_lt hg, hg, by omega⟩
theorem vals_ok {B B' M : Nat} {S : Nat → Prop} {w : World} {k n t : Value} {a1 a2 : Option Addr} {m c1 c2 : Nat} {l : List J} (h : TopN B w (.agg #[k, n, t, .slice a1 l.length c1, .slice a2 m c2])) (hp : RowV S w l a1) (hB : B' ≤ B) (hM : M = w.heap.size) :
    ListOk B' M a1 l.length w := by
  obtain ⟨k', n', t', a1', n1, c1', a2', n2, c2', e, h2, _⟩ := h
  obtain ⟨rfl, rfl, rfl, ⟨rfl, rfl, rfl⟩, rfl, rfl, rfl⟩ : k' = k ∧ n' = n ∧ t' = t ∧ (a1' = a1 ∧ n1 = l.length ∧ c1' = c1) ∧ a2' = a2 ∧ n2 = m ∧ c2' = c2 := by
    simp at e
    grind
  rcases h2 with h | ⟨g, cs, ha, hb, hg⟩
  · exact .inl h
  · rcases hp with rfl | ⟨b, o, cs', f, hab, hs, hblk, hr⟩
    · exact .inl rfl
    · rw [ha] at hab
      obtain ⟨rfl, rfl⟩ : b = g ∧ o = 0 := by simp at hab; exact ⟨hab.1.symm, hab.2.symm⟩
      obtain ⟨T, hbl, _⟩ := hblk
      rw [hg] at hbl
      obtain ⟨rfl, rfl, rfl⟩ : cs = cs' ∧ 25 = T ∧ (0, 0) = f := by simpa using hbl
      have := RC.len _ _ hr
      rw [List.length_take, List.length_drop] at this
      have ecs : cs.toList.length = cs.size := by simp
      exact .inr ⟨b, cs, ha, by omega, by rw [hM]; exact get_lt hg, hg, by omega⟩
set_option maxRecDepth 100000 in
set_option maxHeartbeats 4000000 in
theorem sorts_c (S : Nat → Prop) (j : J) (v : Value) (w : World) (h : RJ S w j v) (hi : ints j = true) (hg : Gl w) :
    Calls Tryd.prog 3 #[v] w fun e w' => e = .returned (.bool true) ∧ Fr NoB w w' := by
  by_cases hhv : pHeavy j = true
  · obtain ⟨k, n, t, l, p⟩ := j
    obtain ⟨a1, c1, a2, c2, rfl, hl, hp⟩ := h.open
    have hx := heap_alloc_new w (.cells #[.int .i64 k, .int .i64 n, .string ⟨t.toArray⟩, .slice a1 l.length c1, .slice a2 p.length c2] 25)
    have hF0 := (Fr.refl (M := NoB)).alloc (w := w) (.cells #[.int .i64 k, .int .i64 n, .string ⟨t.toArray⟩, .slice a1 l.length c1, .slice a2 p.length c2] 25)
    obtain ⟨d0, d1, d2, d3, d4, dz, dlt⟩ := VB.at hx
    have Hal := Lib.hid (alive_c 67108864 (by decide) sort_all _ (hg.alloc (.cells #[.int .i64 k, .int .i64 n, .string ⟨t.toArray⟩, .slice a1 l.length c1, .slice a2 p.length c2] 25)))
    have Hx := Lib.hid hx
    have HF0 := Lib.hid hF0
    have Hh := Lib.hid h
    have Hhv := Lib.hid hhv
    clear hx hF0 h hhv hl hp
    go_enter Tryd.func3, Tryd.ntmps3
    go_wp2_with fail
    refine Hal.out.mono ?_
    rintro e w1 ⟨rfl, hF1⟩
    obtain ⟨d0, d1, d2, d3, d4, dz, dlt⟩ := VB.at (hF1.block _ _ Hx.out (fun h => h))
    have HF1 := Lib.hid (HF0.out.trans' hF1)
    clear hF1
    go_wp2_with fail
    refine (heavy_c S _ _ _ (RJ.kp (Kp.ofFr HF1.out) _ _ Hh.out)).mono ?_
    rintro e w2 ⟨rfl, hF2⟩
    rw [Hhv.out]
    have HF2 := Lib.hid (HF1.out.trans' hF2)
    clear hF2
    go_wp2_with fail
    go_ret
    exact ⟨rfl, HF2.out⟩
  · have hhv' : pHeavy j = false := by simpa using hhv
    have hfit : fits 67108864 j = true := by
      unfold pHeavy at hhv'
      rw [Bool.or_eq_false_iff, decide_eq_false_iff_not] at hhv'
      exact fits_light j 200 (by decide) hi hhv'.2 (by omega)
    obtain ⟨j', hj'⟩ : ∃ j', pSorts 8 j = j' := ⟨_, rfl⟩
    obtain ⟨k, n, t, l, p⟩ := j
    obtain ⟨k', n', t', l', p'⟩ := j'
    obtain ⟨a1, c1, a2, c2, rfl, hl, hp⟩ := h.open
    have hpl := (fits.open hfit).2.2.1
    have hx := heap_alloc_new w (.cells #[.int .i64 k, .int .i64 n, .string ⟨t.toArray⟩, .slice a1 l.length c1, .slice a2 p.length c2] 25)
    have hF0 := (Fr.refl (M := NoB)).alloc (w := w) (.cells #[.int .i64 k, .int .i64 n, .string ⟨t.toArray⟩, .slice a1 l.length c1, .slice a2 p.length c2] 25)
    obtain ⟨d0, d1, d2, d3, d4, dz, dlt⟩ := VB.at hx
    have Hal := Lib.hid (alive_c 67108864 (by decide) sort_all _ (hg.alloc (.cells #[.int .i64 k, .int .i64 n, .string ⟨t.toArray⟩, .slice a1 l.length c1, .slice a2 p.length c2] 25)))
    have Hx := Lib.hid hx
    have HF0 := Lib.hid hF0
    have Hh := Lib.hid h.lt
    have Hhv := Lib.hid hhv'
    have Hj' := Lib.hid hj'
    have Hfit := Lib.hid hfit
    have Hp := Lib.hid hp.lt
    clear hx hF0 h hhv hhv' hl hp hj' hfit
    go_enter Tryd.func3, Tryd.ntmps3
    go_wp2_with fail
    refine Hal.out.mono ?_
    rintro e w1 ⟨rfl, hF1⟩
    have Hx1 := Lib.hid (hF1.block _ _ Hx.out (fun h => h))
    obtain ⟨d0, d1, d2, d3, d4, dz, dlt⟩ := VB.at Hx1.out
    have HF1 := Lib.hid (HF0.out.trans' hF1)
    clear hF1
    go_wp2_with fail
    refine (heavy_c S _ _ _ (RJ.kp (Kp.ofFr HF1.out) _ _ (RJ.kp (S' := S) (Kp.fr (Fr.refl (M := NoB)) (fun _ h _ => h.1) (fun _ _ _ _ _ h => h)) _ _ Hh.out))).mono ?_
    rintro e w2 ⟨rfl, hF2⟩
    rw [Hhv.out]
    have Hx2 := Lib.hid (hF2.block _ _ Hx1.out (fun h => h))
    obtain ⟨d0, d1, d2, d3, d4, dz, dlt⟩ := VB.at Hx2.out
    have HF2 := Lib.hid (HF1.out.trans' hF2)
    clear hF2
    go_wp2_with fail
    refine (refsorted_c 8 0 (fun k => S k ∧ k < w.heap.size) _ _ _ (RJ.kp (Kp.ofFr HF2.out) _ _ Hh.out) Hfit.out (by decide) (by decide)).mono ?_
    rintro e w3 ⟨y, rfl, hy, hF3⟩
    rw [Hj'.out] at hy
    obtain ⟨z1, m1, z2, m2, rfl, _, _⟩ := hy.open
    have Hy := Lib.hid hy.lt
    have Hx3 := Lib.hid (hF3.block _ _ Hx2.out (fun h => h))
    obtain ⟨d0, d1, d2, d3, d4, dz, dlt⟩ := VB.at Hx3.out
    have HF3 := Lib.hid (HF2.out.trans' hF3)
    clear hF3 hy
    obtain ⟨M3, hM3⟩ : ∃ M3, M3 = w3.heap.size := ⟨_, rfl⟩
    obtain ⟨wa, hwa⟩ : ∃ wa, wa = w3.alloc (.cells #[.int .i64 k', .int .i64 n', .string ⟨t'.toArray⟩, .slice z1 l'.length m1, .slice z2 p'.length m2] 25) := ⟨_, rfl⟩
    have hFa : Fr NoB w3 wa := by rw [hwa]; exact Fr.refl.alloc _
    have hwas : wa.heap[M3]? = some (.cells #[.int .i64 k', .int .i64 n', .string ⟨t'.toArray⟩, .slice z1 l'.length m1, .slice z2 p'.length m2] 25 (0, 0)) := by rw [hwa, hM3]; exact heap_alloc_new w3 _
    have hsza : wa.heap.size = M3 + 1 := by rw [hwa, hM3, World.size_alloc]
    have Hwas := Lib.hid hwas
    have Hxa := Lib.hid (hFa.block _ _ Hx3.out (fun h => h))
    have HFa := Lib.hid (HF3.out.trans' hFa)
    have Hya := Lib.hid (RJ.kp (Kp.ofFr hFa) _ _ Hy.out)
    obtain ⟨M3', hM3'⟩ : ∃ M3', M3' = w2.heap.size := ⟨_, rfl⟩
    have HYA : Hid (RJ (fun k => ((S k ∧ k < w.heap.size) ∨ M3' ≤ k) ∧ k < M3) wa (.mk k' n' t' l' p') (.agg #[.int .i64 k', .int .i64 n', .string ⟨t'.toArray⟩, .slice z1 l'.length m1, .slice z2 p'.length m2])) := by
      rw [hM3', hM3]
      exact Hya
    clear hM3'
    have hown0 : (wa.alloc (.cells #[] 9)).ownsRow (M3 + 1) 9 1 (.slice (some ⟨M3 + 1, 0, none⟩) 0 0) 0 [] :=
      ⟨rfl, .inr ⟨_, 0, _, rfl, Nat.le_refl _, by have := heap_alloc_new wa (.cells #[] 9); rw [hsza] at this; exact this, Nat.le_refl _, Nat.zero_le _, rfl, rfl⟩⟩
    have Hown0 := Lib.hid hown0
    have HFs : Hid (Fr NoB wa (wa.alloc (.cells #[] 9))) := Lib.hid (Fr.refl.alloc _)
    have hMw : w.heap.size ≤ M3 := by rw [hM3]; exact HF3.out.size
    have HM3 := Lib.hid hM3
    have Hwa := Lib.hid hwa
    clear hwas hown0 hFa hM3 hwa
    obtain ⟨is, his, hs0, hs1, hs2⟩ := info_parts Tryd.infoStr
    go_wp2_with fail
    rw [← Hwa.out, ← HM3.out]
    clear d0 d1 d2 d3 d4 dz dlt
    go_loopg [4, 22] (p.length + 1) (fun g vn vi wr => ∃ (i : Nat), vi = .int .i64 i ∧ i ≤ p.length ∧ i + g = p.length + 1 ∧ wr.ownsRow (M3 + 1) 9 1 vn i ((p.take i).map fun q => Value.string ⟨q.1.toArray⟩) ∧ Fr NoB wa wr)
    case atStart => exact ⟨0, rfl, by omega, by omega, Hown0.out, HFs.out⟩
    case round =>
      obtain ⟨i, rfl, hi', hgk, hown, hF⟩ := hrel
      rcases Nat.lt_or_ge i p.length with hlt | hge
      · obtain ⟨⟨nm, j⟩, hj⟩ : ∃ j, p[i]? = some j := ⟨_, List.getElem?_eq_getElem hlt⟩
        obtain ⟨b, o, x0, x1, x2, x3, x4, rfl, hbl, e5, e0, e1, e2, e3, e4, hrj⟩ := (Hp.out.kp (Kp.ofFr (HFa.out.trans' hF))).at hj
        obtain ⟨jk, jn, jt, jl, jp⟩ := j
        obtain ⟨y1, n1, y2, n2, hval, _, _⟩ := hrj.open
        obtain ⟨rfl, rfl, rfl, rfl, rfl⟩ : x0 = .int .i64 jk ∧ x1 = .int .i64 jn ∧ x2 = .string ⟨jt.toArray⟩ ∧ x3 = .slice y1 jl.length n1 ∧ x4 = .slice y2 jp.length n2 := by simpa using hval
        obtain ⟨f', f0, f1, f2, f3, f4, fz, flt⟩ := PB.at (heap_alloc_new wr (.cells #[.string ⟨nm.toArray⟩, .int .i64 jk, .int .i64 jn, .string ⟨jt.toArray⟩, .slice y1 jl.length n1, .slice y2 jp.length n2] 31))
        have hFp := (Fr.refl (M := NoB)).alloc (w := wr) (.cells #[.string ⟨nm.toArray⟩, .int .i64 jk, .int .i64 jn, .string ⟨jt.toArray⟩, .slice y1 jl.length n1, .slice y2 jp.length n2] 31)
        have Hown := Lib.hid (own_fr hown hFp (fun _ _ _ _ _ h => h))
        have HFp := Lib.hid (hF.trans' hFp)
        have hszr : M3 + 1 ≤ wr.heap.size := by rw [← hsza]; exact hF.size
        clear hown hrj hval hF hFp
        go_wp2_with (at_builtin; refine wpList_append_own _ rfl _ _ 29 rfl (M3 + 1) 9 is (.string ⟨#[]⟩) 1 16 Tryd.underlying29 his hs0 hs1 hs2 rfl (by decide) _ _ _ rfl (Hown.out.alloc _) ⟨_, 0, none⟩ 1 1 [.string ⟨nm.toArray⟩] rfl rfl ?c1 ?c2 ?c3 ?c4 ?c5 ?_)
        case c1 => exact cells_at _ _ _ _ (by simp)
        case c2 => simp [Value.oneCell']
        case c3 => unfold maxLen; omega
        case c4 => omega
        case c5 => simp only [World.size_alloc]; omega
        intro v' w5 hown5 hgr5 _
        have hF5 : Fr NoB wa w5 := (HFp.out.alloc (.cells #[.string ⟨nm.toArray⟩] 9)).trans (Fr.ofGrown hgr5) (fun k o hm => .inr (by
          have := (own_ty Hown.out k hm.symm).1
          omega))
        have Hown5 := Lib.hid hown5
        clear hgr5 hown5
        go_wp2_with fail
        go_roundg (gk - 1)
        case measure => omega
        case rel =>
          refine ⟨i + 1, by simp, by omega, by omega, ?_, hF5⟩
          obtain ⟨hi1, he⟩ := List.getElem?_eq_some_iff.1 hj
          rw [List.take_succ_eq_append_getElem hi1, List.map_append, he]
          simpa using Hown5.out
      · obtain rfl : i = p.length := by omega
        rw [List.take_length] at hown
        have Hown := Lib.hid hown
        have HF := Lib.hid hF
        obtain ⟨d0, d1, d2, d3, d4, dz, dlt⟩ := VB.at (hF.block _ _ Hxa.out (fun h => h))
        clear hown hF
        go_wp2_with fail
        have hszr : M3 + 1 ≤ wr.heap.size := by rw [← hsza]; exact HF.out.size
        refine (Sorted_c 67108864 sort_all (fun k => S k ∧ k < w.heap.size) _ _ _ (RJ.kp (Kp.ofFr (HFa.out.trans' HF.out)) _ _ Hh.out) Hfit.out (few_of_fits _ Hfit.out)).mono ?_
        rintro e w4 ⟨y, rfl, hz, hF4, hT4⟩
        rw [Hj'.out] at hz
        obtain ⟨q1, r1, q2, r2, rfl, hz1, hz2⟩ := hz.open
        have Hz := Lib.hid hz
        have HT := Lib.hid hT4
        have HF4 := Lib.hid (HF.out.trans' hF4)
        have Hown4 := Lib.hid (own_fr Hown.out hF4 (fun _ _ _ _ _ h => h))
        have hwas4 := (HF.out.trans' hF4).block _ _ Hwas.out (fun h => h)
        have Hwas4 := Lib.hid hwas4
        clear d0 d1 d2 d3 d4 dz dlt hF4 hz hT4
        obtain ⟨d0, d1, d2, d3, d4, dz, dlt⟩ := VB.at hwas4
        clear hwas4
        have Hz1 := Lib.hid hz1
        have Hz2 := Lib.hid hz2
        clear hz1 hz2
        obtain ⟨M1, hM1⟩ : ∃ M1, M1 = wr.heap.size := ⟨_, rfl⟩
        obtain ⟨M4, hM4⟩ : ∃ M4, M4 = w4.heap.size := ⟨_, rfl⟩
        obtain ⟨wb, hwb⟩ : ∃ wb, wb = w4.alloc (.cells #[.int .i64 k', .int .i64 n', .string ⟨t'.toArray⟩, .slice q1 l'.length r1, .slice q2 p'.length r2] 25) := ⟨_, rfl⟩
        have hFb : Fr NoB w4 wb := by rw [hwb]; exact Fr.refl.alloc _
        have hw4 : wb.heap[M4]? = some (.cells #[.int .i64 k', .int .i64 n', .string ⟨t'.toArray⟩, .slice q1 l'.length r1, .slice q2 p'.length r2] 25 (0, 0)) := by rw [hwb, hM4]; exact heap_alloc_new w4 _
        have hPO : PairsOk M1 M4 q2 p'.length wb := (pairs_ok HT.out Hz2.out (by rw [hM1]; exact Nat.le_refl _) hM4).fr hFb
        have hLO : ListOk M1 M4 q1 l'.length wb := (vals_ok HT.out Hz1.out (by rw [hM1]; exact Nat.le_refl _) hM4).fr hFb
        have HPO := Lib.hid hPO
        have HLO := Lib.hid hLO
        have Hw4 := Lib.hid hw4
        have hfit' : fits 67108864 (.mk k' n' t' l' p') = true := by rw [← Hj'.out]; exact fits_sorts 8 _ Hfit.out
        have hex := exact_c _ _ (Nat.lt_succ_self _) _ _ _ _ wb (RJ.kp (Kp.ofFr hFb) _ _ Hz.out) (RJ.kp (Kp.ofFr (HF4.out.trans' hFb)) _ _ Hya.out) hfit'
        have Hex := Lib.hid hex
        have HFb := Lib.hid hFb
        have Hfit' := Lib.hid hfit'
        have hMM : M3 + 1 ≤ M1 := by rw [hM1]; exact hszr
        have hol : ∀ k, u4.ownBlock = some k → k < M1 := fun k hk => by
          obtain ⟨_, o', ho, _⟩ := own_ty Hown.out k hk
          rw [hM1]; exact get_lt ho
        have HOL := Lib.hid hol
        clear hol
        have HM4 := Lib.hid hM4
        have HM1 := Lib.hid hM1
        have Hwb := Lib.hid hwb
        clear hFb hw4 hPO hLO hex hfit' hM4 hM1 hwb
        go_wp2_with fail
        rw [← Hwb.out, ← HM4.out]
        refine Hex.out.mono ?_
        rintro e w5 ⟨rfl, hF5⟩
        have HF5 := Lib.hid (HFb.out.trans' hF5)
        have HPO5 := Lib.hid (HPO.out.fr hF5)
        have HLO5 := Lib.hid (HLO.out.fr hF5)
        have Hw5 := Lib.hid (hF5.block _ _ Hw4.out (fun h => h))
        clear d0 d1 d2 d3 d4 dz dlt hF5
        obtain ⟨d0, d1, d2, d3, d4, dz, dlt⟩ := VB.at Hw5.out
        go_wp2_with fail
        have hpl' := (fits.open Hfit'.out).2.2.1
        have hll' := (fits.open Hfit'.out).2.1
        clear d0 d1 d2 d3 d4 dz dlt
        go_loopg [8, 41] (p'.length + 1) (fun g v8 vi wq => ∃ (i : Nat), vi = .int .i64 i ∧ i ≤ p'.length ∧ i + g = p'.length + 1 ∧
          wq.heap[M4]? = some (.cells #[.int .i64 k', .int .i64 n', .string ⟨t'.toArray⟩, .slice q1 l'.length r1, .slice q2 p'.length r2] 25 (0, 0)) ∧
          PairsOk M1 M4 q2 p'.length wq ∧ ListOk M1 M4 q1 l'.length wq ∧ Fr (fun k _ => M1 ≤ k) w5 wq)
        case atStart => exact ⟨0, rfl, by omega, by omega, Hw5.out, HPO5.out, HLO5.out, Fr.refl⟩
        case round =>
          obtain ⟨i, rfl, hi', hgk, hw, hpo, hlo, hFq⟩ := hrel
          obtain ⟨d0, d1, d2, d3, d4, dz, dlt⟩ := VB.at hw
          rcases Nat.lt_or_ge i p'.length with hlt | hge
          · obtain ⟨g, x, rfl, hBg, hgM, hc, hfz, hgs⟩ := hpo.at hlt
            have Hw := Lib.hid hw
            have HPOi := Lib.hid hpo
            have HLOi := Lib.hid hlo
            have HFq := Lib.hid hFq
            clear hw hpo hlo hFq
            go_wp2_with fail
            go_roundg (gk - 1)
            case measure => omega
            case rel => exact ⟨i + 1, by simp, by omega, by omega, set_keep Hw.out (by omega), HPOi.out.set _ _ _, HLOi.out.set _ _ _, HFq.out.setCell _ _ (fun _ _ => hBg)⟩
          · obtain rfl : i = p'.length := by omega
            have Hw := Lib.hid hw
            have HLOi := Lib.hid hlo
            have HFq := Lib.hid hFq
            clear hw hpo hlo hFq
            go_wp2_with fail
            clear d0 d1 d2 d3 d4 dz dlt
            have HF6 : Hid (Fr (fun k _ => M1 ≤ k) w4 wr) := Lib.hid ((HF5.out.mono (fun _ _ h => h.elim)).trans' HFq.out)
            go_loopg [9, 53] (l'.length + 1) (fun g v9 vi wq => ∃ (i : Nat), vi = .int .i64 i ∧ i ≤ l'.length ∧ i + g = l'.length + 1 ∧
              wq.heap[M4]? = some (.cells #[.int .i64 k', .int .i64 n', .string ⟨t'.toArray⟩, .slice q1 l'.length r1, .slice q2 p'.length r2] 25 (0, 0)) ∧
              ListOk M1 M4 q1 l'.length wq ∧ Fr (fun k _ => M1 ≤ k) w4 wq)
            case atStart => exact ⟨0, rfl, by omega, by omega, Hw.out, HLOi.out, HF6.out⟩
            case round =>
              clear hi' hgk HF6 HFq
              obtain ⟨i, rfl, hi', hgk, hw, hlo, hFq⟩ := hrel
              obtain ⟨d0, d1, d2, d3, d4, dz, dlt⟩ := VB.at hw
              rcases Nat.lt_or_ge i l'.length with hlt | hge
              · obtain ⟨g, rfl, hBg, hgM, ⟨x0, hc0⟩, ⟨x1, hc1⟩, ⟨x2, hc2⟩, ⟨x3, hc3⟩, ⟨x4, hc4⟩, hfz, hgs⟩ := hlo.at hlt
                have Hw := Lib.hid hw
                have HLOi := Lib.hid hlo
                have HFq := Lib.hid hFq
                clear hw hlo hFq
                go_wp2_with fail
                go_roundg (gk - 1)
                case measure => omega
                case rel => exact ⟨i + 1, by simp, by omega, by omega, set_keep (set_keep (set_keep (set_keep (set_keep Hw.out (by omega)) (by omega)) (by omega)) (by omega)) (by omega), ((((HLOi.out.set _ _ _).set _ _ _).set _ _ _).set _ _ _).set _ _ _, ((((HFq.out.setCell _ _ (fun _ _ => hBg)).setCell _ _ (fun _ _ => hBg)).setCell _ _ (fun _ _ => hBg)).setCell _ _ (fun _ _ => hBg)).setCell _ _ (fun _ _ => hBg)⟩
              · obtain rfl : i = l'.length := by omega
                have HF7 := Lib.hid hFq
                have hx7 := hFq.block _ _ (HF4.out.block _ _ Hxa.out (fun h => h)) (by
                  show ¬ M1 ≤ w.heap.size
                  omega)
                clear d0 d1 d2 d3 d4 dz dlt
                obtain ⟨d0, d1, d2, d3, d4, dz, dlt⟩ := VB.at hx7
                clear hw hlo hFq hx7
                go_wp2_with fail
                clear d0 d1 d2 d3 d4 dz dlt
                go_loopg [10, 65] (p.length + 1) (fun g v10 vi wq => ∃ (i : Nat), vi = .int .i64 i ∧ i ≤ p.length ∧ i + g = p.length + 1 ∧ Fr (fun k _ => M1 ≤ k) w4 wq)
                case atStart => exact ⟨0, rfl, by omega, by omega, HF7.out⟩
                case round =>
                  clear hi' hgk HF7
                  obtain ⟨i, rfl, hi', hgk, hFq⟩ := hrel
                  rcases Nat.lt_or_ge i p.length with hlt | hge
                  · obtain ⟨⟨nm, j⟩, hj⟩ : ∃ j, p[i]? = some j := ⟨_, List.getElem?_eq_getElem hlt⟩
                    have hKp : Kp (fun k => S k ∧ k < w.heap.size) (fun k => S k ∧ k < w.heap.size) w4 wr := fun b o hs hb _ => ⟨hs, hFq.block _ _ hb (by
                      show ¬ M1 ≤ b
                      have := hs.2
                      omega)⟩
                    obtain ⟨b, o, x0, x1, x2, x3, x4, rfl, hbl, e5, e0, e1, e2, e3, e4, hrj⟩ := ((Hp.out.kp (Kp.ofFr (HFa.out.trans' HF4.out))).kp hKp).at hj
                    obtain ⟨jk, jn, jt, jl, jp⟩ := j
                    obtain ⟨y1, n1, y2, n2, hval, _, _⟩ := hrj.open
                    obtain ⟨rfl, rfl, rfl, rfl, rfl⟩ : x0 = .int .i64 jk ∧ x1 = .int .i64 jn ∧ x2 = .string ⟨jt.toArray⟩ ∧ x3 = .slice y1 jl.length n1 ∧ x4 = .slice y2 jp.length n2 := by simpa using hval
                    obtain ⟨f', f0, f1, f2, f3, f4, fz, flt⟩ := PB.at (heap_alloc_new wr (.cells #[.string ⟨nm.toArray⟩, .int .i64 jk, .int .i64 jn, .string ⟨jt.toArray⟩, .slice y1 jl.length n1, .slice y2 jp.length n2] 31))
                    have hown := Hown4.out
                    rcases hown.2 with ⟨rfl, h0⟩ | ⟨g, cap, cur, rfl, hBg, hg4, hn, hcm, hcs, htake⟩
                    · omega
                    have hgM := HOL.out g rfl
                    have hg7 := ((Fr.refl (M := NoB)).alloc (w := wr) (.cells #[.string ⟨nm.toArray⟩, .int .i64 jk, .int .i64 jn, .string ⟨jt.toArray⟩, .slice y1 jl.length n1, .slice y2 jp.length n2] 31)).block _ _ (hFq.block _ _ hg4 (by show ¬ M1 ≤ g; omega)) (fun h => h)
                    have hcur : cur[i]? = some (.string ⟨nm.toArray⟩) := by
                      have h1 : ((p.map fun q => Value.string ⟨q.1.toArray⟩))[i]? = some (.string ⟨nm.toArray⟩) := by rw [List.getElem?_map, hj]; rfl
                      rw [← htake, List.getElem?_take, if_pos (by omega)] at h1
                      simpa using h1
                    have hnc : (wr.alloc (.cells #[.string ⟨nm.toArray⟩, .int .i64 jk, .int .i64 jn, .string ⟨jt.toArray⟩, .slice y1 jl.length n1, .slice y2 jp.length n2] 31)).cell? ⟨g, i, none⟩ = some (.string ⟨nm.toArray⟩) := by
                      simp [World.cell?, hg7, hcur]
                    have hFn : Fr (fun k _ => M1 ≤ k) w4 (wr.alloc (.cells #[.string ⟨nm.toArray⟩, .int .i64 jk, .int .i64 jn, .string ⟨jt.toArray⟩, .slice y1 jl.length n1, .slice y2 jp.length n2] 31)) := hFq.alloc _
                    have HFn := Lib.hid hFn
                    clear hFn hown hg4 hg7 hcur htake hcs hrj hval hFq hKp
                    go_wp2_with fail
                    go_quiet (fail)
                    go_wp2_with fail
                    go_roundg (gk - 1)
                    case measure => omega
                    case rel => exact ⟨i + 1, by simp, by omega, by omega, HFn.out.trans' ((drewN_fr _ nq).mono (fun _ _ h => h.elim))⟩
                  · obtain rfl : i = p.length := by omega
                    have hKp : Kp (fun k => S k ∧ k < w.heap.size) (fun k => S k ∧ k < w.heap.size) w4 wr := fun b o hs hb _ => ⟨hs, hFq.block _ _ hb (by
                      show ¬ M1 ≤ b
                      have := hs.2
                      omega)⟩
                    have hx7 := hFq.block _ _ (HF4.out.block _ _ Hxa.out (fun h => h)) (by
                      show ¬ M1 ≤ w.heap.size
                      omega)
                    have hwas7 := hFq.block _ _ Hwas4.out (by
                      show ¬ M1 ≤ M3
                      omega)
                    have hv7 := RJ.kp hKp _ _ (RJ.kp (Kp.ofFr (HFa.out.trans' HF4.out)) _ _ Hh.out)
                    have hFd : Fr NoB wr wr.drew := Fr.refl.drew
                    have hcall := refsorted_c 8 0 _ _ _ _ (RJ.kp (Kp.ofFr hFd) _ _ hv7) Hfit.out (by decide) (by decide)
                    have hyw := RJ.kp (S' := fun k => ((S k ∧ k < w.heap.size) ∨ M3' ≤ k) ∧ k < M3) (w' := wr) (fun b o hs hb _ => ⟨hs, hFq.block _ _ hb (by
                      show ¬ M1 ≤ b
                      have : b < M3 := hs.2
                      omega)⟩) _ _ (RJ.kp (Kp.ofFr HF4.out) _ _ HYA.out)
                    have Hyw := Lib.hid hyw
                    have Hcall := Lib.hid hcall
                    have HF8 := Lib.hid hFq
                    have HFd := Lib.hid hFd
                    have Hwas7 := Lib.hid hwas7
                    have Hx7 := Lib.hid hx7
                    obtain ⟨d0, d1, d2, d3, d4, dz, dlt⟩ := VB.at hx7
                    obtain ⟨m0, m1', m2', m3', m4', mz, mlt⟩ := VB.at hwas7
                    clear hx7 hwas7 hv7 hcall hFq hKp hyw hFd
                    go_wp2_with fail
                    go_region_law (first
                      | (go_simp; go_at_call 7; refine Hcall.out.mono ?_; rintro e w8 ⟨y, rfl, hy, hF9⟩; rw [Hj'.out] at hy; obtain ⟨u1', v1', u2', v2', rfl, _, _⟩ := hy.open; have Hy9 := Lib.hid hy; have HF9 := Lib.hid (HFd.out.trans' hF9); have hwas9 := (HFd.out.trans' hF9).block _ _ Hwas7.out (fun h => h); have B0 := (VB.at hwas9).1; have B1 := (VB.at hwas9).2.1; have B2 := (VB.at hwas9).2.2.1; have B3 := (VB.at hwas9).2.2.2.1; have B4 := (VB.at hwas9).2.2.2.2.1; clear hy hF9 hwas9)
                      | (go_simp; go_at_call 9; refine (exact_c _ _ (Nat.lt_succ_self _) _ _ _ _ _ Hy9.out (RJ.kp (Kp.ofFr HF9.out) _ _ Hyw.out) Hfit'.out).mono ?_; rintro e w9 ⟨rfl, hF10⟩; have HF10 := Lib.hid (HF9.out.trans' hF10); clear hF10))
                    all_goals
                      go_wp2_with fail
                      go_ret
                      have hA : Fr NoB w wr := (HFa.out.trans' HF4.out).trans HF8.out (fun k o hm => .inr (by
                        have : M1 ≤ k := hm
                        omega))
                      first
                        | exact ⟨rfl, hA.trans' HF10.out⟩
                        | exact ⟨rfl, (hA.trans' HF10.out).drew⟩
end Go.Proofs.YtbfmpbhikipipaaDoor
