/-
 From a value that can be read as data to a value of package api: a tree.
-/
import Derived.Test.YtcddlemkimbkcaaGreatDoorKCellRows
import Derived.Test.YtcddlemkimbkcaaGreatDoorKMapsClone
import Derived.Lib.LaidU8
import Derived.ProofKit
import Derived.Deep.MidRow
namespace Go.Proofs.YtcddlemkimbkcaaGreatDoor
set_option linter.unusedVariables false
set_option linter.unusedSimpArgs false
set_option linter.unusedSectionVars false
open Go.RowKit
variable [OldK]

theorem Tryz.cellsV : Tryz.prog.cellsOf 220 = 5 := by kernel_rfl
theorem Tryz.cellsPr : Tryz.prog.cellsOf 306 = 6 := by kernel_rfl
theorem Tryz.cellsI : Tryz.prog.cellsOf 3 = 1 := by kernel_rfl
theorem Tryz.cellsS : Tryz.prog.cellsOf 9 = 1 := by kernel_rfl
theorem Tryz.cellsLV : Tryz.prog.cellsOf 217 = 1 := by kernel_rfl
theorem Tryz.cellsLP : Tryz.prog.cellsOf 218 = 1 := by kernel_rfl

theorem five {cs : List Value} (h : cs.length = 5) : ∃ c0 c1 c2 c3 c4, cs = [c0, c1, c2, c3, c4] := by
 match cs, h with
 | [c0, c1, c2, c3, c4], _ => exact ⟨c0, c1, c2, c3, c4, rfl⟩
theorem six {cs : List Value} (h : cs.length = 6) : ∃ c0 c1 c2 c3 c4 c5, cs = [c0, c1, c2, c3, c4, c5] := by
 match cs, h with
 | [c0, c1, c2, c3, c4, c5], _ => exact ⟨c0, c1, c2, c3, c4, c5, rfl⟩
theorem cells?_get {w : World} {base n : Nat} {a : Addr} {cs : List Value} (h : w.cells? base a n = some cs) : cs.length = n ∧ ∀ i, i < n → w.cell? (a.add i) = cs[i]? :=
 (World.cells?_some h).2
/-- a row of cells that can be read lies in one block -/
theorem cells_row {w : World} {a : Addr} {n k : Nat} (hn : 0 < n) (hk : 0 < k) {G : Nat → List Value} (h : ∀ i, i < n → w.cells? 0 (a.add (i * k)) k = some (G i)) :
 ∃ b o C T f, a = ⟨b, o, none⟩ ∧ w.heap[b]? = some (.cells C T f) ∧ ∀ i, i < n → (C.toList.drop (o + i * k)).take k = G i := by
 obtain ⟨b, o, sp⟩ := a
 obtain ⟨hl0, hg0⟩ := cells?_get (h 0 hn)
 have h00 := hg0 0 hk
 have e0 : ((⟨b, o, sp⟩ : Addr).add (0 * k)).add 0 = ⟨b, o, sp⟩ := by simp [Addr.add]
 rw [e0, List.getElem?_eq_getElem (by omega)] at h00
 obtain rfl := Go.Proofs.cell_spot h00
 unfold World.cell? at h00
 split at h00
 ·rename_i C T f hb
  refine ⟨b, o, C, T, f, rfl, hb, fun i hi => ?_⟩
  obtain ⟨hl, hg⟩ := cells?_get (h i hi)
  apply List.ext_getElem?
  intro j
  rw [List.getElem?_take]
  split
  ·rename_i hj
   have := hg j hj
   rw [Addr.add_mid, Addr.add_mid] at this
   rw [List.getElem?_drop, ← this]
   simp [World.cell?, hb]
  ·rw [List.getElem?_eq_none (by omega)]
 all_goals simp at h00
theorem intsl_append : ∀ {l : List J} {j : J}, intsl l = true → ints j = true → intsl (l ++ [j]) = true
 | [], j, _, h => by simp only [List.nil_append, intsl, h]; rfl
 | x :: l, j, h1, h => by
   simp only [intsl, Bool.and_eq_true] at h1
   simp only [List.cons_append, intsl, h1.1, Bool.true_and]
   exact intsl_append h1.2 h
theorem intsp_append : ∀ {l : List (Bs × J)} {nm : Bs} {j : J}, intsp l = true → ints j = true → intsp (l ++ [(nm, j)]) = true
 | [], nm, j, _, h => by simp only [List.nil_append, intsp, h]; rfl
 | (_, x) :: l, nm, j, h1, h => by
   simp only [intsp, Bool.and_eq_true] at h1
   simp only [List.cons_append, intsp, h1.1, Bool.true_and]
   exact intsp_append h1.2 h
theorem build_rc {w : World} {C : List Value} {o : Nat} : ∀ (n : Nat), (∀ i, i < n → ∃ j c0 c1 c2 c3 c4, (C.drop (o + i * 5)).take 5 = [c0, c1, c2, c3, c4] ∧ RJ (fun _ => True) w j (.agg #[c0, c1, c2, c3, c4]) ∧ ints j = true) →
 ∃ l : List J, l.length = n ∧ RC (fun _ => True) w l ((C.drop o).take (5 * n)) ∧ intsl l = true := by
 intro n
 induction n with
 | zero => intro _; exact ⟨[], rfl, by unfold RC; simp, rfl⟩
 | succ n ih =>
   intro h
   obtain ⟨l, hl, hr, hn⟩ := ih (fun i hi => h i (by omega))
   obtain ⟨j, c0, c1, c2, c3, c4, hc, hj, hi⟩ := h n (by omega)
   refine ⟨l ++ [j], by simp [hl], ?_, intsl_append hn hi⟩
   rw [show 5 * (n + 1) = 5 * n + 5 by omega, List.take_add, List.drop_drop, show o + 5 * n = o + n * 5 by omega, hc]
   exact RC.append l _ [j] _ hr (RC.one hj)
theorem build_rp {w : World} {C : List Value} {o : Nat} : ∀ (n : Nat), (∀ i, i < n → ∃ (nm : Bs) (j : J) (c0 c1 c2 c3 c4 : Value), (C.drop (o + i * 6)).take 6 = [.string ⟨nm.toArray⟩, c0, c1, c2, c3, c4] ∧ RJ (fun _ => True) w j (.agg #[c0, c1, c2, c3, c4]) ∧ ints j = true) →
 ∃ l : List (Bs × J), l.length = n ∧ RP (fun _ => True) w l ((C.drop o).take (6 * n)) ∧ intsp l = true := by
 intro n
 induction n with
 | zero => intro _; exact ⟨[], rfl, by unfold RP; simp, rfl⟩
 | succ n ih =>
   intro h
   obtain ⟨l, hl, hr, hn⟩ := ih (fun i hi => h i (by omega))
   obtain ⟨nm, j, c0, c1, c2, c3, c4, hc, hj, hi⟩ := h n (by omega)
   refine ⟨l ++ [(nm, j)], by simp [hl], ?_, intsp_append hn hi⟩
   rw [show 6 * (n + 1) = 6 * n + 6 by omega, List.take_add, List.drop_drop, show o + 6 * n = o + n * 6 by omega, hc]
   exact RP.append l _ [(nm, j)] _ hr (RP.one hj)
section
variable {H : Type} {enc : TypeId × Value → H} {sp : Nat → Bool} {held : Bool} {w : World}
theorem bind_some {α β : Type} {o : Option α} {f : α → Option β} {y : β} (h : o.bind f = some y) : ∃ x, o = some x ∧ f x = some y := by
 cases o with
 | none => simp at h
 | some x => exact ⟨x, rfl, by simpa using h⟩
/-- what can be read as a value is one -/
theorem read_value (hK : w.heap.size ≤ OldK.k) : ∀ (fuel : Nat) (cs : List Value) (x : DataW H × List MemPlace), DataW.trod enc Tryz.prog w 0 sp held fuel 220 cs = some x →
 ∃ c0 c1 c2 c3 c4 j, cs = [c0, c1, c2, c3, c4] ∧ RJ (fun _ => True) w j (.agg #[c0, c1, c2, c3, c4]) ∧ ints j = true := by
 intro fuel
 induction fuel using Nat.strongRecOn with
 | _ fuel ih =>
   intro cs x h
   obtain ⟨xs, n, rfl, hx, hl, hxl, hf⟩ := DataW.trod_struct Tryz.underlying220 h
   rw [Tryz.cellsV] at hl
   obtain ⟨c0, c1, c2, c3, c4, rfl⟩ := five hl
   have get : ∀ i, i < 5 → ∃ y, xs[i]? = some y := fun i hi => ⟨_, List.getElem?_eq_getElem (by rw [hxl]; exact hi)⟩
   obtain ⟨y0, hy0⟩ := get 0 (by decide)
   obtain ⟨y1, hy1⟩ := get 1 (by decide)
   obtain ⟨y2, hy2⟩ := get 2 (by decide)
   obtain ⟨y3, hy3⟩ := get 3 (by decide)
   obtain ⟨y4, hy4⟩ := get 4 (by decide)
   have f0 : DataW.trod enc Tryz.prog w 0 sp held n 3 (([c0, c1, c2, c3, c4].drop 0).take (Tryz.prog.cellsOf 3)) = xs[0]? := hf 0 _ rfl
   have f1 : DataW.trod enc Tryz.prog w 0 sp held n 3 (([c0, c1, c2, c3, c4].drop 1).take (Tryz.prog.cellsOf 3)) = xs[1]? := hf 1 _ rfl
   have f2 : DataW.trod enc Tryz.prog w 0 sp held n 9 (([c0, c1, c2, c3, c4].drop 2).take (Tryz.prog.cellsOf 9)) = xs[2]? := hf 2 _ rfl
   have f3 : DataW.trod enc Tryz.prog w 0 sp held n 217 (([c0, c1, c2, c3, c4].drop 3).take (Tryz.prog.cellsOf 217)) = xs[3]? := hf 3 _ rfl
   have f4 : DataW.trod enc Tryz.prog w 0 sp held n 218 (([c0, c1, c2, c3, c4].drop 4).take (Tryz.prog.cellsOf 218)) = xs[4]? := hf 4 _ rfl
   rw [hy0] at f0
   rw [hy1] at f1
   rw [hy2] at f2
   rw [hy3] at f3
   rw [hy4] at f4
   obtain ⟨k, e0, _, _⟩ := DataW.trod_int Tryz.underlying3 f0
   obtain ⟨nn, e1, _, hwf⟩ := DataW.trod_int Tryz.underlying3 f1
   obtain ⟨s, e2, _, _⟩ := DataW.trod_string Tryz.underlying9 f2
   simp only [Tryz.cellsI, Tryz.cellsS] at e0 e1 e2
   obtain rfl : c0 = .int .i64 k := by simpa using e0
   obtain rfl : c1 = .int .i64 nn := by simpa using e1
   obtain rfl : c2 = .string s := by simpa using e2
   have hs : s = ⟨s.data.toList.toArray⟩ := by simp
   have hlist : ∃ (l : List J) (a : Option Addr) (c : Nat), c3 = .slice a l.length c ∧ RowV (fun _ => True) w l a ∧ intsl l = true := by
    rcases DataW.trod_slice Tryz.underlying217 f3 with ⟨e3, _⟩ | ⟨a, len, cap, elems, rest, m, hm, e3, _, _, _, _, hel, hE, _, _⟩
    ·simp only [Tryz.cellsLV] at e3
     obtain rfl : c3 = .slice none 0 0 := by simpa using e3
     exact ⟨[], none, 0, rfl, .inl rfl, rfl⟩
    ·simp only [Tryz.cellsLV] at e3
     obtain rfl : c3 = .slice (some a) len cap := by simpa using e3
     rcases Nat.eq_zero_or_pos len with rfl | hpos
     ·exact ⟨[], some a, cap, rfl, .inl rfl, rfl⟩
     ·have hcell : ∀ i, i < len → ∃ g, w.cells? 0 (a.add (i * 5)) 5 = some g ∧ ∃ y, DataW.trod enc Tryz.prog w 0 sp held m 220 g = some y := by
       intro i hi
       have h1 := hE i hi
       rw [List.getElem?_eq_getElem (by omega), Tryz.cellsV] at h1
       obtain ⟨g, hg, h2⟩ := bind_some h1
       exact ⟨g, hg, _, h2⟩
      let G : Nat → List Value := fun i => if hi : i < len then (hcell i hi).choose else []
      have hG : ∀ i, i < len → w.cells? 0 (a.add (i * 5)) 5 = some (G i) := fun i hi => by
       simp only [G, dif_pos hi]
       exact (hcell i hi).choose_spec.1
      obtain ⟨b, o, C, T, f, rfl, hb, hC⟩ := cells_row hpos (by decide) hG
      obtain ⟨l, hll, hrc, hin⟩ := build_rc (w := w) (C := C.toList) (o := o) len (fun i hi => by
       have h2 := (hcell i hi).choose_spec.2
       obtain ⟨y, hy⟩ := h2
       obtain ⟨d0, d1, d2, d3, d4, j, hd, hj, hij⟩ := ih m (by omega) _ _ hy
       refine ⟨j, d0, d1, d2, d3, d4, ?_, hj, hij⟩
       rw [hC i hi, ← hd]
       simp only [G, dif_pos hi])
      refine ⟨l, _, cap, by rw [hll], .inr ⟨b, o, C, f, rfl, trivial, ⟨T, hb, .inr (Nat.lt_of_lt_of_le (get_lt hb) hK)⟩, by rw [hll]; exact hrc⟩, hin⟩
   have hpairs : ∃ (p : List (Bs × J)) (a : Option Addr) (c : Nat), c4 = .slice a p.length c ∧ RowP (fun _ => True) w p a ∧ intsp p = true := by
    rcases DataW.trod_slice Tryz.underlying218 f4 with ⟨e4, _⟩ | ⟨a, len, cap, elems, rest, m, hm, e4, _, _, _, _, hel, hE, _, _⟩
    ·simp only [Tryz.cellsLP] at e4
     obtain rfl : c4 = .slice none 0 0 := by simpa using e4
     exact ⟨[], none, 0, rfl, .inl rfl, rfl⟩
    ·simp only [Tryz.cellsLP] at e4
     obtain rfl : c4 = .slice (some a) len cap := by simpa using e4
     rcases Nat.eq_zero_or_pos len with rfl | hpos
     ·exact ⟨[], some a, cap, rfl, .inl rfl, rfl⟩
     ·have hcell : ∀ i, i < len → ∃ g, w.cells? 0 (a.add (i * 6)) 6 = some g ∧ ∃ y, DataW.trod enc Tryz.prog w 0 sp held m 306 g = some y := by
       intro i hi
       have h1 := hE i hi
       rw [List.getElem?_eq_getElem (by omega), Tryz.cellsPr] at h1
       obtain ⟨g, hg, h2⟩ := bind_some h1
       exact ⟨g, hg, _, h2⟩
      let G : Nat → List Value := fun i => if hi : i < len then (hcell i hi).choose else []
      have hG : ∀ i, i < len → w.cells? 0 (a.add (i * 6)) 6 = some (G i) := fun i hi => by
       simp only [G, dif_pos hi]
       exact (hcell i hi).choose_spec.1
      obtain ⟨b, o, C, T, f, rfl, hb, hC⟩ := cells_row hpos (by decide) hG
      obtain ⟨l, hll, hrc, hin⟩ := build_rp (w := w) (C := C.toList) (o := o) len (fun i hi => by
       obtain ⟨y, hy⟩ := (hcell i hi).choose_spec.2
       obtain ⟨zs, m', hm', hz, hzl, hzn, hzf⟩ := DataW.trod_struct Tryz.underlying306 hy
       rw [Tryz.cellsPr] at hzl
       obtain ⟨p0, p1, p2, p3, p4, p5, hp⟩ := six hzl
       have hz0 : ∃ y, zs[0]? = some y := ⟨_, List.getElem?_eq_getElem (by rw [hzn]; decide)⟩
       have hz1 : ∃ y, zs[1]? = some y := ⟨_, List.getElem?_eq_getElem (by rw [hzn]; decide)⟩
       obtain ⟨v0, hv0⟩ := hz0
       obtain ⟨v1, hv1⟩ := hz1
       have g0 : DataW.trod enc Tryz.prog w 0 sp held m' 9 (((hcell i hi).choose.drop 0).take (Tryz.prog.cellsOf 9)) = zs[0]? := hzf 0 _ rfl
       have g1 : DataW.trod enc Tryz.prog w 0 sp held m' 220 (((hcell i hi).choose.drop 1).take (Tryz.prog.cellsOf 220)) = zs[1]? := hzf 1 _ rfl
       rw [hv0] at g0
       rw [hv1] at g1
       obtain ⟨q, e5, _, _⟩ := DataW.trod_string Tryz.underlying9 g0
       simp only [Tryz.cellsS] at e5
       rw [hp] at e5 g1
       obtain rfl : p0 = .string q := by simpa using e5
       obtain ⟨d0, d1, d2, d3, d4, j, hd, hj, hij⟩ := ih m' (by omega) _ _ g1
       simp only [Tryz.cellsV] at hd
       have hq : q = ⟨q.data.toList.toArray⟩ := by simp
       refine ⟨q.data.toList, j, d0, d1, d2, d3, d4, ?_, hj, hij⟩
       rw [hC i hi]
       simp only [G, dif_pos hi]
       rw [hp, ← hq]
       simpa using hd)
      refine ⟨l, _, cap, by rw [hll], .inr ⟨b, o, C, f, rfl, trivial, ⟨T, hb, .inr (Nat.lt_of_lt_of_le (get_lt hb) hK)⟩, by rw [hll]; exact hrc⟩, hin⟩
   obtain ⟨l, a1, k1, rfl, hl1, hil⟩ := hlist
   obtain ⟨p, a2, k2, rfl, hp1, hip⟩ := hpairs
   refine ⟨_, _, _, _, _, .mk k nn s.data.toList l p, rfl, ?_, ?_⟩
   ·unfold RJ
    exact ⟨a1, k1, a2, k2, by rw [← hs], hl1, hp1⟩
   ·unfold ints
    rw [hil, hip]
    have hh : -9223372036854775808 ≤ nn ∧ nn ≤ 9223372036854775807 := by
     have h1 := hwf
     unfold Lit.wf at h1
     rw [Bool.and_eq_true, decide_eq_true_eq, decide_eq_true_eq] at h1
     exact h1
    simp [hh.1, hh.2]
end
end Go.Proofs.YtcddlemkimbkcaaGreatDoor
