/-
 From an array of bytes that can be read as data to bytes; a world in which the tables lie; what a walk keeps.
-/
import Derived.Test.YtcddlemkimbkcaaGreatDoorKEnAt
import Derived.Test.YtcddlemkimbkcaaGreatDoorRows
import Derived.Lib.LaidU8
import Derived.ProofKit
import Derived.OpenShut
import Derived.Deep.DeepHandedRow
import Derived.Test.YtcddlemkimbkcaaGreatDoorKSpecBind
import Derived.Test.YtcddlemkimbkcaaGreatDoorKGet
import Derived.Test.YtcddlemkimbkcaaGreatDoorKReadV
namespace Go.Proofs.YtcddlemkimbkcaaGreatDoor
set_option linter.unusedVariables false
set_option linter.unusedSimpArgs false
set_option linter.unusedSectionVars false
open Go.ChangeShapes Go.WideShapes Go.ChangeAt Go.RowKit
section
variable {H : Type} {enc : TypeId × Value → H}
theorem Tryz.cellsU8 : Tryz.prog.cellsOf 5 = 1 := by kernel_rfl
theorem Tryz.cellsSum : Tryz.prog.cellsOf 23 = 32 := by kernel_rfl
theorem Tryz.cellsKey : Tryz.prog.cellsOf 24 = 32 := by kernel_rfl
theorem Tryz.cellsWide : Tryz.prog.cellsOf 52 = 64 := by kernel_rfl
/-- the cells of an array of bytes that is read -/
theorem read_arr_cells {W : World} {base : Nat} {sp : Nat → Bool} {held : Bool} {T n fuel : Nat} (hT : Tryz.prog.underlying T = some (.array n 5)) {cs : List Value} {x : DataW H × List MemPlace} (hl : cs.length = n)
 (h : DataW.trod enc Tryz.prog W base sp held fuel T cs = some x) : ∃ l : Bs, l.length = n ∧ cs = Lib.byteCells l := by
 obtain ⟨xs, m, rfl, rfl, -, hxl, hx⟩ := DataW.trod_array hT h
 have hc : ∀ i, i < n → ∃ a : Int, cs[i]? = some (.int .u8 a) ∧ 0 ≤ a ∧ a ≤ 255 := fun i hi => by
  have h1 := hx i hi
  rw [Tryz.cellsU8, Nat.mul_one, List.getElem?_eq_getElem (by omega)] at h1
  obtain ⟨a, ea, -, wa⟩ := DataW.trod_int Tryz.underlying5 h1
  have h0 := congrArg (·[0]?) ea
  simp only [List.getElem?_take, List.getElem?_drop, List.getElem?_cons_zero, Nat.add_zero, Nat.zero_lt_one, if_true] at h0
  exact ⟨a, h0, bounds_u8 wa⟩
 refine ⟨cs.map (fun c => match c with | .int _ z => UInt8.ofNat z.toNat | _ => 0), by simpa using hl, ?_⟩
 apply List.ext_getElem?
 intro i
 unfold Lib.byteCells
 rw [List.getElem?_map, List.getElem?_map]
 rcases Nat.lt_or_ge i n with hi | hi
 ·obtain ⟨a, ha, h0, h1⟩ := hc i hi
  have e : ((UInt8.ofNat a.toNat).toNat : Int) = a := by
   have h2 : (UInt8.ofNat a.toNat).toNat = a.toNat % 256 := by simp
   omega
  rw [ha, Option.map_some, Option.map_some]
  show some (Value.int .u8 a) = some (Value.int .u8 ((UInt8.ofNat a.toNat).toNat : Int))
  rw [e]
 ·rw [List.getElem?_eq_none (by omega)]
  rfl
set_option maxRecDepth 100000 in
theorem read_arr {W : World} {base : Nat} {T n : Nat} (hT : Tryz.prog.underlying T = some (.array n 5)) (hc : Tryz.prog.cellsOf T = n) {v : Value} {d : DataW H} {p : List MemPlace} (hval : Value.okWide Tryz.prog W .any base T v)
 (h : DataW.Trod enc Tryz.prog W 0 (fun _ => true) true T v d p) : ∃ l : Bs, l.length = n ∧ v = .agg (Lib.byteCells l).toArray := by
 simp only [Value.okWide, hT] at hval
 obtain ⟨cs, rfl, hsz, -⟩ := hval
 obtain ⟨fuel, hf⟩ := h
 obtain ⟨l, hl, he⟩ := read_arr_cells hT (by simpa [Value.cells] using hsz.trans hc) hf
 exact ⟨l, hl, by rw [← he]; simp [Value.cells]⟩
end
/-- what a walk that turns nothing of old keeps, as the form says it -/
theorem fr_kept2 {w w' : World} (h : Fr NoB w w') (may : MemPlace → Prop) : w.keptBut w' may := by
 refine ⟨h.os, h.output, fun i hi => ?_⟩
 obtain ⟨o, ho⟩ := get_some hi
 rw [ho, h.block i o ho (fun h => h)]
 cases o <;> simp
/-- these cells in a variable's block -/
def setCs2 (cs : Array Value) : Obj → Obj
 | .cells _ t f => .cells cs t f
 | o => o
def u8s2 (zs : List Int) : Array Value := (zs.map fun z => Value.int .u8 z).toArray
def acceptCells2 : Array Value := ((List.range 16).flatMap fun i => [Value.int .u8 (Lib.accLo i : Int), Value.int .u8 (Lib.accHi i : Int)]).toArray
/-- a world in which the two tables lie -/
noncomputable def laidWorld2 (os : Os) : World :=
 { World.holding Tryz.prog os ⟨#[], #[], []⟩ with heap := (((World.holding Tryz.prog os ⟨#[], #[], []⟩).heap.modify 1 (setCs2 (u8s2 Lib.firstTab))).modify 2 (setCs2 acceptCells2)) }
end Go.Proofs.YtcddlemkimbkcaaGreatDoor
namespace Go.Proofs.YtcddlemkimbkcaaGreatDoor
set_option linter.unusedVariables false
set_option linter.unusedSimpArgs false
set_option linter.unusedSectionVars false
open Go.ChangeShapes Go.WideShapes Go.ChangeAt Go.RowKit
variable [OldK]
/-- what was there when the law began -/
def Old : Nat → Prop := fun k => k < OldK.k
/-- the entry e, in the world w: pv, sv are its payload and its signatures -/
def EnIn (w : World) (e : En) (pv sv : Value) : Prop := e.ok ∧ SB Old e.payload pv w ∧ GS Old e.sigs sv w
theorem EnIn.fr {M : Nat → Obj → Prop} {w w' : World} {e : En} {pv sv : Value} (h : EnIn w e pv sv) (hF : Fr M w w') (hM : ∀ k o, k < OldK.k → ¬ M k o) : EnIn w' e pv sv :=
 ⟨h.1, h.2.1.fr hF (fun b o hs _ => hM b o hs), h.2.2.fr hF hM⟩
theorem drop_split {α : Type} (l : List α) (a n : Nat) : l.drop a = (l.drop a).take n ++ l.drop (a + n) := by
 rw [← List.drop_drop, List.take_append_drop]
section
variable {H : Type} {enc : TypeId × Value → H} {sp : Nat → Bool} {held : Bool} {w : World} {fuel : Nat}
theorem Tryz.cellsEn : Tryz.prog.cellsOf 39 = 70 := by kernel_rfl
theorem Tryz.cellsSg : Tryz.prog.cellsOf 54 = 97 := by kernel_rfl
theorem Tryz.cellsLB : Tryz.prog.cellsOf 36 = 1 := by kernel_rfl
theorem Tryz.cellsLS : Tryz.prog.cellsOf 37 = 1 := by kernel_rfl
theorem byteCells_inj : ∀ {l m : Bs}, Lib.byteCells l = Lib.byteCells m → l = m := by
 intro l
 induction l with
 | nil => intro m h; cases m with
   | nil => rfl
   | cons x m => cases h
 | cons x l ih =>
   intro m h
   cases m with
   | nil => cases h
   | cons y m =>
     unfold Lib.byteCells at h
     simp only [List.map_cons, List.cons.injEq, Value.int.injEq, true_and] at h
     rw [ih h.2, UInt8.toNat_inj.1 (by omega : x.toNat = y.toNat)]
/-- a slice of bytes inside of what is read -/
theorem read_bytes_in (hK : w.heap.size ≤ OldK.k) {cs : List Value} {x : DataW H × List MemPlace} (h : DataW.trod enc Tryz.prog w 0 (fun _ => true) true fuel 36 cs = some x) : ∃ (l : Bs) (v : Value), cs = [v] ∧ SB Old l v w := by
 rcases open_ints Tryz.underlying36 Tryz.underlying5 Tryz.cellsU8 h with ⟨hcs, hx⟩ | ⟨a, len, cap, zs, hcs, _, hl, hm, hz, hx, hcell, hwz⟩
 ·exact ⟨[], .slice none 0 0, hcs, SB.nil _ _ _⟩
 ·simp only [if_true] at hz
  rcases Nat.eq_zero_or_pos len with rfl | hpos
  ·exact ⟨[], _, hcs, ⟨some a, cap, rfl, Nat.zero_le _, .inl rfl⟩⟩
  ·have hlen : ((zs.take len).map fun n => UInt8.ofNat n.toNat).length = len := by simp; omega
   obtain ⟨b, o, spot⟩ := a
   have h0 := hcell 0 (by omega)
   have e0 : (⟨b, o, spot⟩ : Addr).add 0 = ⟨b, o, spot⟩ := by simp [Addr.add]
   rw [e0] at h0
   obtain rfl := Go.Proofs.cell_spot h0
   have hc0 := h0
   obtain ⟨C, T, f, hb⟩ : ∃ C T f, w.heap[b]? = some (.cells C T f) := by
    unfold World.cell? at hc0
    split at hc0
    ·rename_i C T f hb
     exact ⟨_, _, _, hb⟩
    all_goals simp at hc0
   refine ⟨(zs.take len).map fun n => UInt8.ofNat n.toNat, _, hcs, ⟨some ⟨b, o, none⟩, cap, by rw [hlen], by rw [hlen]; exact hl, .inr ⟨b, o, C, T, f, rfl, Nat.lt_of_lt_of_le (get_lt hb) hK, ⟨hb, .inr (Nat.lt_of_lt_of_le (get_lt hb) hK)⟩, fun j hj => ?_⟩⟩⟩
   rw [hlen] at hj
   have hcj := hcell j (by omega)
   rw [Addr.add_lit] at hcj
   have hcj2 : C[o + j]? = some (.int .u8 (zs.getD j 0)) := by
    have h := hcj
    simp only [World.cell?, hb] at h
    exact h
   rw [hcj2]
   have hr := range_u8 hwz j
   simp only [List.getElem_map, List.getElem_take]
   have e : zs.getD j 0 = zs[j]'(by omega) := by simp [List.getD, List.getElem?_eq_getElem (show j < zs.length by omega)]
   rw [List.getD_eq_getElem?_getD] at e
   rw [e] at hr
   rw [List.getD_eq_getElem?_getD, e]
   congr 2
   simp only [UInt8.toNat_ofNat']
   omega
/-- a signature inside of what is read -/
theorem read_sig_in {cs : List Value} {x : DataW H × List MemPlace} (h : DataW.trod enc Tryz.prog w 0 (fun _ => true) true fuel 54 cs = some x) : ∃ s : Sg, s.ok ∧ cs = s.cells.toList := by
 obtain ⟨xs, n, rfl, hx, hl, hxl, hf⟩ := DataW.trod_struct Tryz.underlying54 h
 rw [Tryz.cellsSg] at hl
 have get : ∀ i, i < 3 → ∃ y, xs[i]? = some y := fun i hi => ⟨_, List.getElem?_eq_getElem (by rw [hxl]; exact hi)⟩
 obtain ⟨y0, hy0⟩ := get 0 (by decide)
 obtain ⟨y1, hy1⟩ := get 1 (by decide)
 obtain ⟨y2, hy2⟩ := get 2 (by decide)
 have f0 : DataW.trod enc Tryz.prog w 0 (fun _ => true) true n 9 ((cs.drop 0).take (Tryz.prog.cellsOf 9)) = xs[0]? := hf 0 _ rfl
 have f1 : DataW.trod enc Tryz.prog w 0 (fun _ => true) true n 24 ((cs.drop 1).take (Tryz.prog.cellsOf 24)) = xs[1]? := hf 1 _ rfl
 have f2 : DataW.trod enc Tryz.prog w 0 (fun _ => true) true n 52 ((cs.drop 33).take (Tryz.prog.cellsOf 52)) = xs[2]? := hf 2 _ rfl
 rw [hy0, Tryz.cellsS] at f0
 rw [hy1, Tryz.cellsKey] at f1
 rw [hy2, Tryz.cellsWide] at f2
 obtain ⟨s, e0, _, _⟩ := DataW.trod_string Tryz.underlying9 f0
 obtain ⟨k, hk, e1⟩ := read_arr_cells Tryz.underKey (by rw [List.length_take, List.length_drop]; omega) f1
 obtain ⟨g, hg, e2⟩ := read_arr_cells Tryz.underWide (by rw [List.length_take, List.length_drop]; omega) f2
 have hs : s = ⟨s.data.toList.toArray⟩ := by simp
 refine ⟨⟨s.data.toList, k, g⟩, ⟨hk, hg⟩, ?_⟩
 have h1 : cs = (cs.drop 0).take 1 ++ ((cs.drop 1).take 32 ++ (cs.drop 33).take 64) := by
  have e3 : (cs.drop 33).take 64 = cs.drop 33 := List.take_of_length_le (by rw [List.length_drop]; omega)
  rw [e3, ← drop_split cs 1 32, ← drop_split cs 0 1]
  rfl
 rw [h1, e0, e1, e2, hs]
 unfold Sg.cells
 simp
set_option maxRecDepth 100000 in
/-- a slice of signatures inside of what is read -/
theorem read_sigs_in (hK : w.heap.size ≤ OldK.k) {cs : List Value} {x : DataW H × List MemPlace} (h : DataW.trod enc Tryz.prog w 0 (fun _ => true) true fuel 37 cs = some x) : ∃ (l : List Sg) (v : Value), cs = [v] ∧ GS Old l v w ∧ ∀ s ∈ l, s.ok := by
 rcases DataW.trod_slice Tryz.underlying37 h with ⟨e3, _⟩ | ⟨a, len, cap, elems, rest, m, hm, e3, _, _, hlc, _, hel, hE, _, _⟩
 ·exact ⟨[], _, e3, ⟨none, 0, rfl, Nat.zero_le _, .inl rfl⟩, fun s hs => by cases hs⟩
 ·rcases Nat.eq_zero_or_pos len with rfl | hpos
  ·exact ⟨[], _, e3, ⟨some a, cap, rfl, Nat.zero_le _, .inl rfl⟩, fun s hs => by cases hs⟩
  ·have hcell : ∀ i, i < len → ∃ g, w.cells? 0 (a.add (i * 97)) 97 = some g ∧ ∃ s : Sg, s.ok ∧ g = s.cells.toList := by
    intro i hi
    have h1 := hE i hi
    rw [List.getElem?_eq_getElem (by omega), Tryz.cellsSg] at h1
    obtain ⟨g, hg, h2⟩ := bind_some h1
    exact ⟨g, hg, read_sig_in h2⟩
   let G : Nat → List Value := fun i => if hi : i < len then (hcell i hi).choose else []
   have hG : ∀ i, i < len → w.cells? 0 (a.add (i * 97)) 97 = some (G i) := fun i hi => by
    simp only [G, dif_pos hi]
    exact (hcell i hi).choose_spec.1
   obtain ⟨b, o, C, T, f, rfl, hb, hC⟩ := cells_row hpos (by decide) hG
   obtain ⟨l, hll, hx⟩ := list_choose (fun i (s : Sg) => s.ok ∧ (C.toList.drop (o + i * 97)).take 97 = s.cells.toList) len (fun i hi => by
    obtain ⟨s, hs, e⟩ := (hcell i hi).choose_spec.2
    refine ⟨s, hs, ?_⟩
    rw [hC i hi]
    simp only [G, dif_pos hi]
    exact e)
   refine ⟨l, _, e3, ⟨some ⟨b, o, none⟩, cap, by rw [hll], by rw [hll]; exact hlc, .inr ⟨b, o, rfl, Nat.lt_of_lt_of_le (get_lt hb) hK, get_lt hb, fun i hi => ?_⟩⟩, fun s hs => ?_⟩
   ·obtain ⟨-, he⟩ := hx i _ (List.getElem?_eq_getElem hi)
    intro j v hv
    rw [← he, List.getElem?_take] at hv
    split at hv
    ·rw [List.getElem?_drop, Array.getElem?_toList] at hv
     simp [World.cell?, hb, hv]
    ·cases hv
   ·obtain ⟨i, hi⟩ := List.getElem?_of_mem hs
    exact (hx i s hi).1
/-- an entry inside of what is read -/
theorem read_entry_in (hK : w.heap.size ≤ OldK.k) {cs : List Value} {x : DataW H × List MemPlace} (h : DataW.trod enc Tryz.prog w 0 (fun _ => true) true fuel 39 cs = some x) : ∃ (e : En) (pv sv : Value), EnIn w e pv sv ∧ cs = e.cells pv sv := by
 obtain ⟨xs, n, rfl, hx, hl, hxl, hf⟩ := DataW.trod_struct Tryz.underlying39 h
 rw [Tryz.cellsEn] at hl
 have get : ∀ i, i < 8 → ∃ y, xs[i]? = some y := fun i hi => ⟨_, List.getElem?_eq_getElem (by rw [hxl]; exact hi)⟩
 obtain ⟨y0, hy0⟩ := get 0 (by decide)
 obtain ⟨y1, hy1⟩ := get 1 (by decide)
 obtain ⟨y2, hy2⟩ := get 2 (by decide)
 obtain ⟨y3, hy3⟩ := get 3 (by decide)
 obtain ⟨y4, hy4⟩ := get 4 (by decide)
 obtain ⟨y5, hy5⟩ := get 5 (by decide)
 obtain ⟨y6, hy6⟩ := get 6 (by decide)
 obtain ⟨y7, hy7⟩ := get 7 (by decide)
 have f0 : DataW.trod enc Tryz.prog w 0 (fun _ => true) true n 3 ((cs.drop 0).take (Tryz.prog.cellsOf 3)) = xs[0]? := hf 0 _ rfl
 have f1 : DataW.trod enc Tryz.prog w 0 (fun _ => true) true n 23 ((cs.drop 1).take (Tryz.prog.cellsOf 23)) = xs[1]? := hf 1 _ rfl
 have f2 : DataW.trod enc Tryz.prog w 0 (fun _ => true) true n 9 ((cs.drop 33).take (Tryz.prog.cellsOf 9)) = xs[2]? := hf 2 _ rfl
 have f3 : DataW.trod enc Tryz.prog w 0 (fun _ => true) true n 36 ((cs.drop 34).take (Tryz.prog.cellsOf 36)) = xs[3]? := hf 3 _ rfl
 have f4 : DataW.trod enc Tryz.prog w 0 (fun _ => true) true n 3 ((cs.drop 35).take (Tryz.prog.cellsOf 3)) = xs[4]? := hf 4 _ rfl
 have f5 : DataW.trod enc Tryz.prog w 0 (fun _ => true) true n 9 ((cs.drop 36).take (Tryz.prog.cellsOf 9)) = xs[5]? := hf 5 _ rfl
 have f6 : DataW.trod enc Tryz.prog w 0 (fun _ => true) true n 24 ((cs.drop 37).take (Tryz.prog.cellsOf 24)) = xs[6]? := hf 6 _ rfl
 have f7 : DataW.trod enc Tryz.prog w 0 (fun _ => true) true n 37 ((cs.drop 69).take (Tryz.prog.cellsOf 37)) = xs[7]? := hf 7 _ rfl
 rw [hy0, Tryz.cellsI] at f0
 rw [hy1, Tryz.cellsSum] at f1
 rw [hy2, Tryz.cellsS] at f2
 rw [hy3, Tryz.cellsLB] at f3
 rw [hy4, Tryz.cellsI] at f4
 rw [hy5, Tryz.cellsS] at f5
 rw [hy6, Tryz.cellsKey] at f6
 rw [hy7, Tryz.cellsLS] at f7
 obtain ⟨k, e0, _, _⟩ := DataW.trod_int Tryz.underlying3 f0
 obtain ⟨d, hd, e1⟩ := read_arr_cells Tryz.underSum (by rw [List.length_take, List.length_drop]; omega) f1
 obtain ⟨ty, e2, _, _⟩ := DataW.trod_string Tryz.underlying9 f2
 obtain ⟨p, pv, e3, hp⟩ := read_bytes_in hK f3
 obtain ⟨op, e4, _, _⟩ := DataW.trod_int Tryz.underlying3 f4
 obtain ⟨idn, e5, _, _⟩ := DataW.trod_string Tryz.underlying9 f5
 obtain ⟨ky, hky, e6⟩ := read_arr_cells Tryz.underKey (by rw [List.length_take, List.length_drop]; omega) f6
 obtain ⟨l, sv, e7, hl7, hok⟩ := read_sigs_in hK f7
 have hty : ty = ⟨ty.data.toList.toArray⟩ := by simp
 have hid : idn = ⟨idn.data.toList.toArray⟩ := by simp
 refine ⟨⟨k, d, ty.data.toList, p, op, idn.data.toList, ky, l⟩, pv, sv, ⟨⟨hd, hky, hok⟩, hp, hl7⟩, ?_⟩
 have h1 : cs = (cs.drop 0).take 1 ++ ((cs.drop 1).take 32 ++ ((cs.drop 33).take 1 ++ ((cs.drop 34).take 1 ++ ((cs.drop 35).take 1 ++ ((cs.drop 36).take 1 ++ ((cs.drop 37).take 32 ++ (cs.drop 69).take 1)))))) := by
  have e8 : (cs.drop 69).take 1 = cs.drop 69 := List.take_of_length_le (by rw [List.length_drop]; omega)
  rw [e8, ← drop_split cs 37 32, ← drop_split cs 36 1, ← drop_split cs 35 1, ← drop_split cs 34 1, ← drop_split cs 33 1, ← drop_split cs 1 32, ← drop_split cs 0 1]
  rfl
 rw [h1, e0, e1, e2, e3, e4, e5, e6, e7]
 unfold En.cells
 simp only [List.cons_append, List.nil_append]
theorem Tryz.cellsCame : Tryz.prog.cellsOf 41 = 71 := by kernel_rfl
end
/-- an entry that came, and its place -/
structure CameV where
 e : En
 pv : Value
 sv : Value
 pos : Int
def CameV.cells (c : CameV) : List Value := c.e.cells c.pv c.sv ++ [.int .i64 c.pos]
/-- v is what came -/
def CameS (l : List CameV) (v : Value) (w : World) : Prop := ∃ a cap, v = .slice a l.length cap ∧ l.length ≤ cap ∧
 (l = [] ∨ ∃ b o, a = some ⟨b, o, none⟩ ∧ b < OldK.k ∧ b < w.heap.size ∧ ∀ i (hi : i < l.length), w.rangeAt b (o + i * 71) l[i].cells ∧ EnIn w l[i].e l[i].pv l[i].sv)
section
variable {H : Type} {enc : TypeId × Value → H} {w : World} {fuel : Nat}
theorem read_came_in (hK : w.heap.size ≤ OldK.k) {cs : List Value} {x : DataW H × List MemPlace} (h : DataW.trod enc Tryz.prog w 0 (fun _ => true) true fuel 41 cs = some x) : ∃ c : CameV, EnIn w c.e c.pv c.sv ∧ cs = c.cells := by
 obtain ⟨xs, n, rfl, hx, hl, hxl, hf⟩ := DataW.trod_struct Tryz.underlying41 h
 rw [Tryz.cellsCame] at hl
 have get : ∀ i, i < 2 → ∃ y, xs[i]? = some y := fun i hi => ⟨_, List.getElem?_eq_getElem (by rw [hxl]; exact hi)⟩
 obtain ⟨y0, hy0⟩ := get 0 (by decide)
 obtain ⟨y1, hy1⟩ := get 1 (by decide)
 have f0 : DataW.trod enc Tryz.prog w 0 (fun _ => true) true n 39 ((cs.drop 0).take (Tryz.prog.cellsOf 39)) = xs[0]? := hf 0 _ rfl
 have f1 : DataW.trod enc Tryz.prog w 0 (fun _ => true) true n 3 ((cs.drop 70).take (Tryz.prog.cellsOf 3)) = xs[1]? := hf 1 _ rfl
 rw [hy0, Tryz.cellsEn] at f0
 rw [hy1, Tryz.cellsI] at f1
 obtain ⟨e, pv, sv, he, e0⟩ := read_entry_in hK f0
 obtain ⟨k, e1, _, _⟩ := DataW.trod_int Tryz.underlying3 f1
 refine ⟨⟨e, pv, sv, k⟩, he, ?_⟩
 have h1 : cs = (cs.drop 0).take 70 ++ (cs.drop 70).take 1 := by
  have e8 : (cs.drop 70).take 1 = cs.drop 70 := List.take_of_length_le (by rw [List.length_drop]; omega)
  rw [e8, ← drop_split cs 0 70]
  rfl
 rw [h1, e0, e1]
 rfl
set_option maxRecDepth 100000 in
theorem read_script (hK : w.heap.size ≤ OldK.k) {base : Nat} {v : Value} {d : DataW H} {p : List MemPlace} (hval : Value.okWide Tryz.prog w .any base 31 v) (h : DataW.Trod enc Tryz.prog w 0 (fun _ => true) true 31 v d p) : ∃ l : List CameV, CameS l v w := by
 obtain ⟨fuel, h⟩ := h
 obtain ⟨a0, len0, cap0, rfl⟩ := okWide_slice Tryz.underlying31 hval
 rcases DataW.trod_slice Tryz.underlying31 h with ⟨e3, _⟩ | ⟨a, len, cap, elems, rest, m, hm, e3, _, _, hlc, _, hel, hE, _, _⟩
 ·obtain ⟨rfl, rfl, rfl⟩ : a0 = none ∧ len0 = 0 ∧ cap0 = 0 := by simpa [Value.cells] using e3
  exact ⟨[], ⟨none, 0, rfl, Nat.zero_le _, .inl rfl⟩⟩
 ·obtain ⟨h1, h2, h3⟩ : a0 = some a ∧ len0 = len ∧ cap0 = cap := by simpa [Value.cells] using e3
  rw [h1, h2, h3]
  clear h1 h2 h3 hval e3 h
  rcases Nat.eq_zero_or_pos len with rfl | hpos
  ·exact ⟨[], ⟨some a, cap, rfl, Nat.zero_le _, .inl rfl⟩⟩
  ·have hcell : ∀ i, i < len → ∃ g, w.cells? 0 (a.add (i * 71)) 71 = some g ∧ ∃ c : CameV, EnIn w c.e c.pv c.sv ∧ g = c.cells := by
    intro i hi
    have h1 := hE i hi
    rw [List.getElem?_eq_getElem (by omega), Tryz.cellsCame] at h1
    obtain ⟨g, hg, h2⟩ := bind_some h1
    exact ⟨g, hg, read_came_in hK h2⟩
   let G : Nat → List Value := fun i => if hi : i < len then (hcell i hi).choose else []
   have hG : ∀ i, i < len → w.cells? 0 (a.add (i * 71)) 71 = some (G i) := fun i hi => by
    simp only [G, dif_pos hi]
    exact (hcell i hi).choose_spec.1
   obtain ⟨b, o, C, T, f, rfl, hb, hC⟩ := cells_row hpos (by decide) hG
   obtain ⟨l, hll, hx⟩ := list_choose (fun i (c : CameV) => EnIn w c.e c.pv c.sv ∧ (C.toList.drop (o + i * 71)).take 71 = c.cells) len (fun i hi => by
    obtain ⟨s, hs, e⟩ := (hcell i hi).choose_spec.2
    refine ⟨s, hs, ?_⟩
    rw [hC i hi]
    simp only [G, dif_pos hi]
    exact e)
   refine ⟨l, ⟨some ⟨b, o, none⟩, cap, by rw [hll], by rw [hll]; exact hlc, .inr ⟨b, o, rfl, Nat.lt_of_lt_of_le (get_lt hb) hK, get_lt hb, fun i hi => ?_⟩⟩⟩
   obtain ⟨h1, he⟩ := hx i _ (List.getElem?_eq_getElem hi)
   refine ⟨?_, h1⟩
   intro j v hv
   rw [← he, List.getElem?_take] at hv
   split at hv
   ·rw [List.getElem?_drop, Array.getElem?_toList] at hv
    simp [World.cell?, hb, hv]
   ·cases hv
end
end Go.Proofs.YtcddlemkimbkcaaGreatDoor
