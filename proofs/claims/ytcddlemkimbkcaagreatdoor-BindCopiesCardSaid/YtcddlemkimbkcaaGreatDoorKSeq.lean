/-
 The walks of slices.Values, AppendSeq, Collect at signatures: a range over a function.
-/
import Derived.RangeFuncNested
import Derived.RangeFuncBound
import Derived.RangeFuncCalls
import Derived.RangeFuncLeaves
import Derived.Shelf.Abstract
import Derived.Shelf.RegionOpen
import Derived.OwnWalkIn
import Derived.TacticsInMore
import Derived.LoopNIn
import Derived.LoopIn
import Derived.Deep.WholeRow
import Derived.Great.Walk
import Derived.Test.YtcddlemkimbkcaaGreatDoorKGet
import Derived.Test.YtcddlemkimbkcaaGreatDoorKSubjects
import Derived.Test.YtcddlemkimbkcaaGreatDoorKSort2
namespace Go.Proofs.YtcddlemkimbkcaaGreatDoor
set_option linter.unusedVariables false
set_option linter.unusedSimpArgs false
set_option linter.unusedSectionVars false
open Go.RowKit Go.Shelf
variable [OldK]
attribute [local go_sem] Oper.semAt_some
/-- the walk stops here -/
theorem stop_here {p : Prop} (h : Hid p) : p := h.out
section
variable {F : Fence} {nF : Nat} {P : Program} {ops : Array Oper} {rest : List Oper} {op : Oper} {a : Act} {w : World} {Q : Exit → Act → World → Prop}
/-- a load of many cells, inside a fence -/
theorem wpListIn_load_mid (hgd : op.guard = none) (ty : TypeId) (x : Operand) (ho : op.op = .load ty x)
 (b o : Nat) (hx : a.eval x = .pointer (some ⟨b, o, none⟩)) (cs : List Value) (d : TypeDesc) (hc : w.rangeAt b o cs)
 (hu : P.underlying ty = some d) (hd : d.isRow = true) (hi : (P.info? ty).map (·.size) = some cs.length)
 (h : wpListIn F nF P ops Q rest (a.put op.dst (.agg cs.toArray)) w) : wpListIn F nF P ops Q (op :: rest) a w := by
 refine wpListIn_plain hgd fun K hK => ?_
 unfold Oper.wpIn
 refine ⟨by simp [Oper.about, ho], ?_⟩
 rw [Oper.semAt_plain F _ _ (by rw [ho]; intro c hc'; cases hc')]
 simp only [execOp, ho, hx]
 rw [Sem.run_bind, run_loadAt_mid w b o ty cs d hc hu hd hi]
 exact hK _ _ h
/-- a variable's first store, inside a fence -/
theorem wpListIn_store_new (hgd : op.guard = none) (ty : TypeId) (x y : Operand) (ho : op.op = .store ty x y) (c c' : Array Value)
 (hx : a.eval x = .pointer (some ⟨w.heap.size, 0, none⟩)) (hy : a.eval y = .agg c') (hi : (P.info? ty).map (·.size) = some c'.size) (hs : c.size = c'.size) (h1 : c'.all (·.oneCell') = true)
 (h : wpListIn F nF P ops Q rest (a.put op.dst undef) (w.alloc (.cells c' ty))) : wpListIn F nF P ops Q (op :: rest) a (w.alloc (.cells c ty)) := by
 refine wpListIn_plain hgd fun K hK => ?_
 unfold Oper.wpIn
 refine ⟨by simp [Oper.about, ho], ?_⟩
 rw [Oper.semAt_plain F _ _ (by rw [ho]; intro c hc'; cases hc')]
 simp only [execOp, ho, hx, hy]
 rw [Sem.run_bind, run_storeAt_new w ty c c' hi hs h1]
 exact hK _ _ h
/-- a slice literal, inside a fence -/
theorem wpListIn_buildSliceTo (hgd : op.guard = none) (t e : TypeId) (len : Nat) (parts : Array (Nat × Operand)) (ho : op.op = .buildSlice t len parts)
 (hu : P.underlying t = some (.slice e)) (cells : Array Value) (hf : P.builtSlice e len (parts.map fun (i, x) => (i, a.eval x)).toList = some cells)
 (h : wpListIn F nF P ops Q rest (a.put op.dst (.slice (some ⟨w.heap.size, 0, none⟩) len len)) (w.alloc (.cells cells e))) : wpListIn F nF P ops Q (op :: rest) a w := by
 refine wpListIn_plain hgd fun K hK => ?_
 unfold Program.builtSlice at hf
 cases hie : P.info? e with
 | none => simp [hie] at hf
 | some ie =>
   simp only [hie] at hf
   cases hz : ie.zero with
   | none => simp [hz] at hf
   | some z =>
     simp only [hz] at hf
     by_cases hc : len * ie.size > 2 ^ 24 ∨ len * ie.size = 0
     ·simp [hc] at hf
     ·rw [if_neg hc] at hf
      unfold Oper.wpIn
      refine ⟨by simp [Oper.about, ho], ?_⟩
      rw [Oper.semAt_plain F _ _ (by rw [ho]; intro c hc'; cases hc')]
      simp only [execOp, ho]
      rw [Sem.run_bind, run_buildSlice w t e len _ cells ie z hu hie hz (fun h' => hc (Or.inl h')) (fun h' => hc (Or.inr h')) hf]
      exact hK _ _ h
end
/-- what a literal of whole parts holds -/
theorem built_list {P : Program} {T : TypeId} {i : TypeInfo} {z : Value} {s len : Nat} (hi : P.info? T = some i) (hz : i.zero = some z) (hs : i.size = s) (hzs : z.cells.size = s) (h0 : 0 < s) (hl : 0 < len) (hsm : len * s ≤ 2 ^ 24) (vs : List Value) (h1 : ∀ v ∈ vs, v.cells.size = s) (hlen : vs.length = len) :
 P.builtSlice T len ((vs.zipIdx 0).map fun x => (x.2, x.1)) = some (vs.flatMap fun v => v.cells.toList).toArray := by
 subst hs hlen
 unfold Program.builtSlice
 rw [hi]
 simp only [hz]
 rw [if_neg (by
  rintro (h | h)
  ·omega
  ·rcases Nat.mul_eq_zero.1 h with h | h <;> omega)]
 exact Great.fill_whole h0 vs _ h1 (by simp)
def sgZ : Array Value := #[.string ⟨#[]⟩, .int .u8 0, .int .u8 0, .int .u8 0, .int .u8 0, .int .u8 0, .int .u8 0, .int .u8 0, .int .u8 0, .int .u8 0, .int .u8 0, .int .u8 0, .int .u8 0, .int .u8 0, .int .u8 0, .int .u8 0, .int .u8 0, .int .u8 0, .int .u8 0, .int .u8 0, .int .u8 0, .int .u8 0, .int .u8 0, .int .u8 0, .int .u8 0, .int .u8 0, .int .u8 0, .int .u8 0, .int .u8 0, .int .u8 0, .int .u8 0, .int .u8 0, .int .u8 0, .int .u8 0, .int .u8 0, .int .u8 0, .int .u8 0, .int .u8 0, .int .u8 0, .int .u8 0, .int .u8 0, .int .u8 0, .int .u8 0, .int .u8 0, .int .u8 0, .int .u8 0, .int .u8 0, .int .u8 0, .int .u8 0, .int .u8 0, .int .u8 0, .int .u8 0, .int .u8 0, .int .u8 0, .int .u8 0, .int .u8 0, .int .u8 0, .int .u8 0, .int .u8 0, .int .u8 0, .int .u8 0, .int .u8 0, .int .u8 0, .int .u8 0, .int .u8 0, .int .u8 0, .int .u8 0, .int .u8 0, .int .u8 0, .int .u8 0, .int .u8 0, .int .u8 0, .int .u8 0, .int .u8 0, .int .u8 0, .int .u8 0, .int .u8 0, .int .u8 0, .int .u8 0, .int .u8 0, .int .u8 0, .int .u8 0, .int .u8 0, .int .u8 0, .int .u8 0, .int .u8 0, .int .u8 0, .int .u8 0, .int .u8 0, .int .u8 0, .int .u8 0, .int .u8 0, .int .u8 0, .int .u8 0, .int .u8 0, .int .u8 0, .int .u8 0]
/-- 97 cells in any case -/
def Sg.enc (x : Sg) : List Value := if x.cells.size = 97 then x.cells.toList else sgZ.toList
theorem Sg.enc_len (x : Sg) : x.enc.length = 97 := by
 unfold Sg.enc
 split
 ·rename_i h
  rw [Array.length_toList, h]
 ·rfl
theorem Sg.enc_ok {x : Sg} (h : x.ok) : x.enc = x.cells.toList := if_pos (Sg.size h)
theorem Sg.enc_one (x : Sg) : x.enc.toArray.all (·.oneCell') = true := by
 unfold Sg.enc
 split
 ·simpa using Sg.one x
 ·kernel_rfl
theorem Sg.enc_mem (x : Sg) : ∀ u ∈ x.enc, u.oneCell' = true := by
 have h := Sg.enc_one x
 intro u hu
 simp only [List.all_toArray, List.all_eq_true] at h
 exact h u hu
def SgRow (n₀ gb : Nat) (xs : List Sg) (W : World) : Prop := gb < n₀ ∧ ∀ (i : Nat) (x : Sg), xs[i]? = some x → W.rangeAt gb (i * 97) x.cells.toList
theorem SgRow.below {n₀ gb : Nat} {xs : List Sg} {A B : World} (h : SgRow n₀ gb xs A) (hb : Below n₀ A B) : SgRow n₀ gb xs B :=
 ⟨h.1, fun i x hx => range_same (h.2 i x hx) (hb.block gb h.1)⟩
theorem grown_none {w w' : World} (h : Fr NoB w w') : w.grownBy w' none :=
 ⟨h.os, h.tape, h.output, h.size, fun k hk _ => by
  obtain ⟨o, ho⟩ := get_some hk
  rw [ho]
  exact h.block k o ho (fun h => h)⟩
set_option maxRecDepth 100000 in
set_option maxHeartbeats 2000000 in
theorem vals1_in (F : Fence) (n : Nat) (h7 : F.fn 170) (hro : F.round = none) (hn : 1 ≤ n) (l Bs n₀ gb len cap : Nat) (xs : List Sg) (hlen : xs.length = len) (hll : len ≤ 67108864) (hok : ∀ x ∈ xs, x.ok) (J Jx : List Sg → World → Prop)
 (hY : ∀ pre x W, J pre W → pre.length < len → YieldAt F (n - 1) Tryz.prog l #[.agg x.enc.toArray] W fun e W' =>
   (e = .returned (.bool true) ∧ J (pre ++ [x]) W' ∧ Below n₀ W W') ∨ (e = .returned (.bool false) ∧ Jx (pre ++ [x]) W'))
 (W : World) (hBs : Bs < n₀) (hn₀ : n₀ ≤ W.heap.size) (hB0 : W.cell? ⟨Bs, 0, none⟩ = some (.slice (some ⟨gb, 0, none⟩) len cap)) (hr : SgRow n₀ gb xs W) (h0 : J [] W)
 (hJ : AbidesFrom W.heap.size J) :
 CallsIn F n Tryz.prog 170 #[.func (.yield l) #[] #[], .pointer (some ⟨Bs, 0, none⟩)] W fun e W' => (∃ v, e = .returned v) ∧
  ((∃ ys, ys = xs ∧ J ys W') ∨ (∃ pre, pre <+: xs ∧ Jx pre W')) := by
 obtain ⟨d, hu, hd⟩ := Tryz.rowSg2
 have Hu := Lib.hid hu
 have Hd := Lib.hid hd
 clear hu hd
 refine callsIn_of_wp Tryz.func170 rfl h7 ?_ hro
 simp only [Tryz.ntmps170, List.size_toArray, List.length_cons, List.length_nil, Nat.reduceAdd, Nat.reduceSub, Array.replicate_succ, Array.replicate_zero, List.push_toArray, List.append_toArray, List.nil_append, List.cons_append]
 gi_wp2
 gi_loopw [7] (fun i wr => ∃ k : Nat, k ≤ len ∧ i = .int .i64 k ∧ J (xs.take k) wr ∧ Below n₀ W wr ∧ W.heap.size ≤ wr.heap.size)
  (fun i _ => len - (intOf i).toNat)
 case atStart => exact ⟨0, Nat.zero_le _, rfl, h0, Below.refl _ _, Nat.le_refl _⟩
 case round =>
  obtain ⟨k, hk, rfl, hJs, hnx, hsz⟩ := hrel
  by_cases hlt : k < len
  ·obtain ⟨x, hx⟩ : ∃ x, xs[k]? = some x := ⟨_, List.getElem?_eq_getElem (by omega)⟩
   have hR := (hr.below hnx).2 k x hx
   have hxok := hok x (List.mem_of_getElem? hx)
   rw [← Sg.enc_ok hxok] at hR
   obtain ⟨C, hC⟩ : ∃ C, x.enc = C := ⟨_, rfl⟩
   have hCl : C.length = 97 := by rw [← hC]; exact Sg.enc_len x
   have hC1 : C.toArray.all (·.oneCell') = true := by rw [← hC]; exact Sg.enc_one x
   have hJ1 := hJ _ _ (wr.alloc (.cells C.toArray 54)) none hJs (World.grownBy_alloc wr _ none) (fun r e => by cases e)
   obtain ⟨fn, tmps, assign, body, hy, hRr⟩ := hY _ x _ hJ1 (by rw [List.length_take]; omega)
   rw [hC] at hR hy
   have HR := Lib.hid hR
   have HR2 := Lib.hid (show (wr.alloc (.cells C.toArray 54)).rangeAt wr.heap.size 0 C by simpa using range_block (heap_alloc_new wr (.cells C.toArray 54)))
   have Hs1 : Hid ((Tryz.prog.info? 54).map (·.size) = some C.length) := Lib.hid (by rw [Tryz.sizeSg, hCl])
   have Hs2 : Hid ((Tryz.prog.info? 54).map (·.size) = some C.toArray.size) := Lib.hid (by rw [Tryz.sizeSg, List.size_toArray, hCl])
   have Hs3 : Hid (sgZ.size = C.toArray.size) := Lib.hid (by rw [show C.toArray.size = 97 by rw [List.size_toArray, hCl]]; rfl)
   have HC1 := Lib.hid hC1
   have HX := Lib.hid hx
   have Hnx := Lib.hid hnx
   clear hx hnx hJs hJ1 hR hC hCl hC1 hxok
   gi_wp2_with (first
    | (with_reducible refine wpListIn_load_mid rfl 54 _ rfl gb (k * 97) rfl C d HR.out Hu.out Hd.out Hs1.out ?_)
    | (refine wpListIn_store_new rfl 54 _ _ rfl sgZ C.toArray rfl rfl Hs2.out Hs3.out HC1.out ?_)
    | (with_reducible refine wpListIn_load_mid rfl 54 _ rfl wr.heap.size 0 rfl C d HR2.out Hu.out Hd.out Hs1.out ?_))
   refine hRr.mono ?_
   rintro e W3 (⟨rfl, hJ3, hk3⟩ | ⟨rfl, hJx3⟩)
   ·have hB3 : Below n₀ W W3 := (Hnx.out.trans ((Below.refl n₀ wr).alloc (by omega) _)).trans hk3
    have hs3 := hk3.size
    rw [World.size_alloc] at hs3
    have HB3 := Lib.hid hB3
    clear hB3 hk3
    gi_wp2
    go_roundw
    case rel => exact ⟨k + 1, by omega, by simp, by rw [List.take_add_one, HX.out]; exact hJ3, HB3.out, by omega⟩
    case measure => simp [intOf]; omega
   ·gi_wp2
    refine bodyPost_ret (results_none rfl _ _ _) rfl ?_
    exact ⟨⟨_, rfl⟩, .inr ⟨_, ⟨xs.drop (k + 1), by
     have h2 := HX.out
     obtain ⟨h3, rfl⟩ := List.getElem?_eq_some_iff.1 h2
     rw [List.append_assoc, List.singleton_append, ← List.drop_eq_getElem_cons h3, List.take_append_drop]⟩, hJx3⟩⟩
  ·obtain rfl : k = len := by omega
   have e : xs.take k = xs := List.take_of_length_le (by omega)
   rw [e] at hJs
   gi_wp2
   go_end0
   exact ⟨⟨_, rfl⟩, .inl ⟨_, rfl, hJs⟩⟩
set_option maxHeartbeats 1000000 in
theorem values_c (a : Option Addr) (n c : Nat) (w : World) :
 Calls Tryz.prog 122 #[.slice a n c] w fun e w' => e = .returned (.func (.func 170) #[] #[.pointer (some ⟨w.heap.size, 0, none⟩)]) ∧ w' = w.alloc (.cells #[.slice a n c] 37) := by
 go_enter Tryz.func122, Tryz.ntmps122
 go_wp2_with fail
 go_ret
 exact ⟨rfl, rfl⟩
theorem vals_stops (F : Fence) (n : Nat) (h7 : F.fn 170) (hro : F.round = none) (hn : 1 ≤ n) (Bs n₀ gb cap : Nat) (xs : List Sg) (hll : xs.length ≤ 67108864) (hok : ∀ x ∈ xs, x.ok) (w : World) (hBs : Bs < n₀) (hn₀ : n₀ ≤ w.heap.size)
 (hB0 : w.cell? ⟨Bs, 0, none⟩ = some (.slice (some ⟨gb, 0, none⟩) xs.length cap)) (hr : SgRow n₀ gb xs w) :
 SeqStopsK F n Tryz.prog 170 #[.pointer (some ⟨Bs, 0, none⟩)] (fun x : Sg => #[Value.agg x.enc.toArray]) (Below n₀) (fun ys => ys = xs) (fun pre => pre <+: xs) xs.length w := fun l J Jx W hW hJ _ hY h0 => by
 have hWn := hW.mono hn₀
 exact vals1_in F n h7 hro hn l Bs n₀ gb xs.length cap xs rfl hll hok J Jx hY W hBs (Nat.le_trans hn₀ hW.size) ((hWn.cell (p := ⟨Bs, 0, none⟩) hBs).trans hB0) (hr.below hWn) h0 hJ
/-- the cells of signatures, one behind the other -/
def sgRows (l : List Sg) : List Value := l.flatMap Sg.enc
theorem Tryz.infoSg : (Tryz.prog.info? 54).map (fun i => (i.zero, i.size, i.bytes)) = some (some (.agg sgZ), 97, 112) := by kernel_rfl
set_option maxRecDepth 100000 in
set_option maxHeartbeats 4000000 in
theorem appendSeq_in (Bs n₀ gb cap : Nat) (xs : List Sg) (hll : xs.length ≤ 100) (hok : ∀ x ∈ xs, x.ok) (w : World) (hBs : Bs < n₀) (hn₀ : n₀ = w.heap.size)
 (hB0 : w.cell? ⟨Bs, 0, none⟩ = some (.slice (some ⟨gb, 0, none⟩) xs.length cap)) (hr : SgRow n₀ gb xs w) :
 CallsIn Fence.wide 5 Tryz.prog 208 #[.slice none 0 0, .func (.func 170) #[] #[.pointer (some ⟨Bs, 0, none⟩)]] w fun e W' => ∃ v, e = .returned v ∧ W'.ownsRow n₀ 54 97 v xs.length (sgRows xs) ∧ Fr NoB w W' := by
 subst hn₀
 obtain ⟨W0, hW0⟩ : ∃ W0, w.alloc (.cells #[.slice none 0 0] 37) = W0 := ⟨_, rfl⟩
 have hs0 : W0.heap.size = w.heap.size + 1 := by rw [← hW0, World.size_alloc]
 have hBel : Below w.heap.size w W0 := by rw [← hW0]; exact (Below.refl _ w).alloc (Nat.le_refl _) _
 have hb1 : W0.heap[w.heap.size]? = some (.cells #[.slice none 0 0] 37 (0, 0)) := by rw [← hW0]; exact heap_alloc_new _ _
 have hq0 := (hBel.cell (p := ⟨Bs, 0, none⟩) hBs).trans hB0
 obtain ⟨i0, hi, hz0, hz1, hz2⟩ := info_parts Tryz.infoSg
 obtain ⟨d, hu, hd⟩ := Tryz.rowSg2
 refine callsIn_of_wp_marks Tryz.func208 rfl trivial ?_ rfl
 simp only [Tryz.ntmps208, List.size_toArray, List.length_cons, List.length_nil, Nat.reduceAdd, Nat.reduceSub, Array.replicate_succ, Array.replicate_zero, List.push_toArray, List.append_toArray, List.nil_append, List.cons_append]
 have Hb1 := Lib.hid hb1
 have HBel := Lib.hid hBel
 have Hu := Lib.hid hu
 have Hd := Lib.hid hd
 have Hr := Lib.hid hr
 have Hq0 := Lib.hid hq0
 clear hb1 hBel hu hd hr hq0 hB0
 gi_wp2_with fail
 refine wpIn_rangeFunc_ownH (w := W0) rfl (by omega) (gf := 170) (lb := #[.pointer (some ⟨Bs, 0, none⟩)]) rfl trivial (enters_of Tryz.func170 (by kernel_rfl) rfl)
  (vals_stops Fence.wide 4 trivial rfl (by omega) Bs w.heap.size gb cap xs (by omega) hok W0 hBs (by omega) Hq0.out (Hr.out.below HBel.out))
  belowK_t (belowK_b (by omega)) (Below.refl _ _) (fun _ => rfl)
  (fun pre W => (∃ v, W.heap[w.heap.size]? = some (.cells #[v] 37 (0, 0)) ∧ W.ownsRow w.heap.size 54 97 v pre.length (sgRows pre) ∧ v.ownBlock ≠ some w.heap.size ∧ ∃ a c, v = .slice a pre.length c) ∧ Below w.heap.size w W ∧ W0.heap.size ≤ W.heap.size)
  (fun c pre W => False)
  ?hI (fun _ s A B row hs hg hr => hs.elim)
  ⟨⟨_, Hb1.out, ⟨rfl, .inl ⟨rfl, rfl⟩⟩, by simp [Value.ownBlock], none, 0, rfl⟩, HBel.out, Nat.le_refl _⟩
  (fun x a' W => ∃ Bx, W0.heap.size ≤ Bx ∧ W.heap[Bx]? = some (.cells x.enc.toArray 54 (0, 0)) ∧ a' = { tmps := #[.slice none 0 0, .func (.func 170) #[] #[.pointer (some ⟨Bs, 0, none⟩)], .pointer (some ⟨w.heap.size, 0, none⟩), undef, .slice none 0 0, .pointer (some ⟨Bx, 0, none⟩), .func (.func 170) #[] #[.pointer (some ⟨Bs, 0, none⟩)], .agg x.enc.toArray, undef, undef, undef, undef, undef], defers := [] })
  (fun x a' s A B row hs hg hr => by
    obtain ⟨Bx, h1, h2, h3⟩ := hs
    exact ⟨Bx, h1, own_block (β := Unit) _ _ _ _ () A B row h2 hg (fun r e => (hr r e).2), h3⟩) ?assign ?body ?done ?stop
 case hI =>
  rintro s A B row ⟨⟨v, h1, h2, h3, h4⟩, h5, h6⟩ hg hrw
  refine ⟨⟨v, own_block (β := Unit) _ _ _ _ () A B row h1 hg (fun r e => (hrw r e).2), ⟨h2.1, h2.2.imp id ?_⟩, h3, h4⟩, ?_, Nat.le_trans h6 hg.size⟩
  ·rintro ⟨g, cp, cur, e1, e2, e3, e4⟩
   exact ⟨g, cp, cur, e1, e2, own_block (β := Unit) _ _ _ _ () A B row e3 hg (fun r e => (hrw r e).2), e4⟩
  ·exact ownFrom_below (β := Unit) (n₀ := w.heap.size) (B := W0.heap.size) (w₀ := w) (Nat.le_refl _) (by omega) () A B row h5 hg hrw
 case assign =>
  rintro l pre x W K ⟨⟨v, h1, h2, h3, h4⟩, hB, hsz⟩ hK
  have Hi : Hid (((∃ v, (W.alloc (.cells x.enc.toArray 54)).heap[w.heap.size]? = some (.cells #[v] 37 (0, 0)) ∧ (W.alloc (.cells x.enc.toArray 54)).ownsRow w.heap.size 54 97 v pre.length (sgRows pre) ∧ v.ownBlock ≠ some w.heap.size ∧ ∃ a c, v = .slice a pre.length c) ∧ Below w.heap.size w (W.alloc (.cells x.enc.toArray 54)) ∧ W0.heap.size ≤ (W.alloc (.cells x.enc.toArray 54)).heap.size)) :=
   Lib.hid ⟨⟨v, (Fr.refl (M := NoB).alloc _).block _ _ h1 (fun h => h), h2.alloc _, h3, h4⟩, hB.alloc hB.size _, by rw [World.size_alloc]; omega⟩
  have HK := Lib.hid hK
  have HC1 := Lib.hid (Sg.enc_one x)
  have Hs2 : Hid ((Tryz.prog.info? 54).map (·.size) = some x.enc.toArray.size) := Lib.hid (by rw [Tryz.sizeSg, List.size_toArray, Sg.enc_len])
  have Hs3 : Hid (sgZ.size = x.enc.toArray.size) := Lib.hid (by rw [show x.enc.toArray.size = 97 by rw [List.size_toArray, Sg.enc_len]]; rfl)
  have hle : w.heap.size ≤ W.heap.size := by omega
  clear hK h1 h2 h3 h4 hB
  gi_wp2_with (refine wpListIn_store_new rfl 54 _ _ rfl sgZ x.enc.toArray rfl rfl Hs2.out Hs3.out HC1.out ?_)
  exact HK.out _ _ ((KeepsOthers.alloc _ _).from _) ((Below.refl _ W).alloc hle _) Hi.out ⟨W.heap.size, hsz, heap_alloc_new W _, rfl⟩
 case body =>
  rintro l pre x a' W hl ⟨r, hr'⟩ ⟨⟨v, h1, h2, h3, a1, c1, rfl⟩, hB, hsz⟩ ⟨Bx, hBx, hbx, rfl⟩ hlt
  have hC := Sg.enc_mem x
  have hCl := Sg.enc_len x
  obtain ⟨C, hCe⟩ : ∃ C, x.enc = C := ⟨_, rfl⟩
  have hrows : sgRows (pre ++ [x]) = sgRows pre ++ C := by rw [← hCe]; simp [sgRows]
  rw [hCe] at hbx hC hCl
  have hb1 := built_list (P := Tryz.prog) hi hz0 hz1 (by rfl) (by decide) (by decide : 0 < 1) (by decide) [.agg C.toArray] (fun v hv => by
   obtain rfl : v = .agg C.toArray := by simpa using hv
   show C.toArray.size = 97
   rw [List.size_toArray, hCl]) rfl
  have Hbl : Hid (Tryz.prog.builtSlice 54 1 [(0, .agg C.toArray)] = some C.toArray) := Lib.hid (by
   have e : ([Value.agg C.toArray].flatMap fun v => v.cells.toList).toArray = C.toArray := by simp [Value.cells]
   rw [e] at hb1
   exact hb1)
  have HR := Lib.hid (show W.rangeAt Bx 0 C by simpa using range_block hbx)
  have Hs1 : Hid ((Tryz.prog.info? 54).map (·.size) = some C.length) := Lib.hid (by rw [Tryz.sizeSg, hCl])
  have v0 : W.cell? ⟨w.heap.size, 0, none⟩ = some (.slice a1 pre.length c1) := by simp [World.cell?, h1]
  have vz : W.frozen? ⟨w.heap.size, 0, none⟩ = false := by simp [World.frozen?, h1]
  have H2 := Lib.hid h2
  have H1 := Lib.hid h1
  have H3 := Lib.hid h3
  have HC := Lib.hid hC
  have HCl := Lib.hid hCl
  have HB := Lib.hid hB
  have Hrows := Lib.hid hrows
  have hwW : w.heap.size < W.heap.size := get_lt h1
  clear hbx hC hCl hb1 h1 h2 h3 hB hrows hCe hr' hl
  gi_wp2_with (first
   | (with_reducible refine wpListIn_load_mid rfl 54 _ rfl Bx 0 rfl C d HR.out Hu.out Hd.out Hs1.out ?_)
   | ((with_reducible refine wpListIn_buildSliceTo ?_ 37 54 1 _ rfl Tryz.underlying37 C.toArray ?_ ?_); rfl; (refine Eq.trans (congrArg (Tryz.prog.builtSlice 54 1) ?_) Hbl.out; kernel_rfl))
   | (gi_at_builtin; refine stop_here ?_))
  refine Lib.hid ?_
  refine wpListIn_append_own _ rfl _ _ 37 rfl w.heap.size 54 i0 (.agg sgZ) 97 112 Tryz.underlying37 hi hz0 hz1 hz2 rfl (by decide) (.slice a1 pre.length c1) pre.length (sgRows pre) (by rfl) (H2.out.alloc _) ⟨W.heap.size, 0, none⟩ 1 1 C (by rfl) (by rw [HCl.out]) (lit_cells W C 54) HC.out (by unfold maxLen; omega) (by omega) (by rw [World.size_alloc]; omega) ?_
  intro v' w1 hown1 hgr1 hnil
  rcases hown1.2 with ⟨rfl, h0⟩ | ⟨g1, cp1, cur1, rfl, hg1, hgb, hgr⟩
  ·omega
  have hle1 := fun k (hk : some k = (Value.slice a1 pre.length c1).ownBlock) => ownsRow_le H2.out hk
  have hne1 : some w.heap.size ≠ (Value.slice a1 pre.length c1).ownBlock := fun h => H3.out h.symm
  have hbx1 := (hgr1.block w.heap.size (by rw [World.size_alloc]; omega) hne1).trans ((Fr.refl (M := NoB).alloc (.cells C.toArray 54)).block _ _ H1.out (fun h => h))
  have hB1 : Below w.heap.size W w1 := ((Below.refl _ W).alloc (by omega) _).grown hgr1 (by rw [World.size_alloc]; omega) (fun j hj => by have := hle1 j hj.symm; omega)
  have hkp : KeepsOthers W w1 := (KeepsOthers.alloc _ _).trans (KeepsOthers.of_grownBy hgr1 (fun j o hj ho => by
   rcases H2.out.2 with ⟨e1, -⟩ | ⟨g2, cp2, cur2, e1, e2, e3, -⟩
   ·rw [e1] at hj; cases hj
   ·rw [e1] at hj
    obtain rfl : g2 = j := by simpa [Value.ownBlock] using hj
    have := (Fr.refl (M := NoB).alloc (.cells C.toArray 54)).block _ _ e3 (fun h => h)
    rw [this] at ho
    cases ho
    rfl))
  have y0 : w1.cell? ⟨w.heap.size, 0, none⟩ = some (.slice a1 pre.length c1) := by simp [World.cell?, hbx1]
  have yz : w1.frozen? ⟨w.heap.size, 0, none⟩ = false := by simp [World.frozen?, hbx1]
  have hg1w : g1 ≠ w.heap.size := fun h => by
   rw [h, hbx1] at hgb
   injection hgb with hgb
   injection hgb with _ hgb _
   revert hgb; decide
  have Hgb := Lib.hid hgb
  have Hgr := Lib.hid hgr
  have Hown1 := Lib.hid hown1
  have Hbx1 := Lib.hid hbx1
  have HB1 := Lib.hid hB1
  have Hkp := Lib.hid hkp
  clear hown1 hbx1 hB1 hkp hgr1 hnil v0 vz hgb hgr
  gi_wp2
  refine ⟨(Hkp.out.trans (KeepsOthers.setCell _ _ _)).from _, HB1.out.setCell (p := ⟨w.heap.size, 0, none⟩) (Nat.le_refl _) _, ⟨.slice (some ⟨g1, 0, none⟩) (pre.length + 1) cp1, heap_setCell_eq (o := 0) (.slice (some ⟨g1, 0, none⟩) (pre.length + 1) cp1) Hbx1.out, ⟨?_, .inr ⟨g1, cp1, cur1, by simp, hg1, ?_, ?_⟩⟩, (fun h => hg1w (by simpa [Value.ownBlock] using h)), _, _, by rw [List.length_append]; rfl⟩, HB.out.trans (HB1.out.setCell (p := ⟨w.heap.size, 0, none⟩) (Nat.le_refl _) _), ?_⟩
  ·rw [Hrows.out]
   simpa using Hown1.out.1
  ·rw [Below.heap_setCell _ _ _ _ (by simpa using hg1w)]
   exact Hgb.out
  ·rw [Hrows.out]
   simpa using Hgr.out
  ·have := HB1.out.size
   simp
   omega
 case done =>
  rintro D ys W hD rfl ⟨⟨v, hv, ho, -, a1, c1, rfl⟩, hB, -⟩ hK
  have v0 : W.cell? ⟨w.heap.size, 0, none⟩ = some (.slice a1 ys.length c1) := by simp [World.cell?, hv]
  have Ho := Lib.hid ho
  have HB := Lib.hid hB
  have HK := Lib.hid hK
  have Hv := Lib.hid hv
  clear ho hB hK hv
  gi_wp2
  refine ⟨by simp, .inl ⟨_, _, rfl, run_takeDeferred HK.out, ?_⟩⟩
  refine ⟨.slice a1 ys.length c1, by simp [results, Tryz.f208, go_sem], _, rfl, ⟨Ho.out.1, Ho.out.2.imp id ?_⟩, Fr.ofBelow (HB.out.trans (belowK_b (w := W0) (by omega) W D _ _ hD HK.out rfl rfl))⟩
  rintro ⟨g, cp, cur, e1, e2, e3, e4⟩
  exact ⟨g, cp, cur, e1, e2, own_block (β := Unit) _ _ _ _ () _ _ _ e3 (grownBy_putObj' W D (.deferred none)) (fun r e => by cases e; exact ⟨_, HK.out, rfl⟩), e4⟩
 case stop =>
  rintro D c pre W hD hpre h hK
  exact h.elim
end Go.Proofs.YtcddlemkimbkcaaGreatDoor
