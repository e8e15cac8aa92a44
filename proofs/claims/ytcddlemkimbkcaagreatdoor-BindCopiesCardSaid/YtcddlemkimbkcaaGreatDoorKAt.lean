/-
 What a table says of places that are past (BindPast), as plain data.
-/
import Derived.Test.YtcddlemkimbkcaaGreatDoorKSpecBind
import Derived.Test.YtcddlemkimbkcaaGreatDoorKBackward
namespace Go.Proofs.YtcddlemkimbkcaaGreatDoor
set_option linter.unusedVariables false
set_option linter.unusedSimpArgs false
set_option linter.unusedSectionVars false
/-- the key that an identity had at a place -/
def pAt (l : List Chg) (p : Int) : Bs × Bool := match l.reverse.find? (fun c => decide (c.pos ≤ p)) with | some c => (c.key, c.has) | none => (zero32, false)
def Tb.bound (t : Tb) (n : Bs) : Bs × Bool := ((t.last n).key, (t.last n).has)
/-- these come, at the places from i on -/
def Tb.runs (sub : Bs → Bool) : Tb → Nat → List En → Tb
 | t, _, [] => t
 | t, i, e :: r => Tb.runs sub (t.take sub e i) (i + 1) r
theorem take_hist (sub : Bs → Bool) (t : Tb) (e : En) (p : Int) (n : Bs) : ∃ x, (t.take sub e p).hist n = t.hist n ++ x ∧ ∀ c ∈ x, c.pos = p := by
 unfold Tb.take
 split
 ·by_cases h : n = e.ident
  ·subst h
   refine ⟨[newC e p], upd_same _ _ _, fun c hc => ?_⟩
   obtain rfl : c = newC e p := by simpa using hc
   unfold newC
   split <;> rfl
  ·exact ⟨[], by rw [List.append_nil]; exact upd_other _ _ h, fun c hc => by cases hc⟩
 ·exact ⟨[], by simp, fun c hc => by cases hc⟩
theorem runs_hist (sub : Bs → Bool) (n : Bs) : ∀ (l : List En) (t : Tb) (i : Nat), ∃ x, (t.runs sub i l).hist n = t.hist n ++ x ∧ ∀ c ∈ x, (i : Int) ≤ c.pos ∧ c.pos < i + l.length := by
 intro l
 induction l with
 | nil => intro t i; exact ⟨[], by simp [Tb.runs], fun c hc => by cases hc⟩
 | cons e r ih =>
   intro t i
   obtain ⟨x, h1, h2⟩ := take_hist sub t e i n
   obtain ⟨y, h3, h4⟩ := ih (t.take sub e i) (i + 1)
   refine ⟨x ++ y, by rw [Tb.runs, h3, h1, List.append_assoc], fun c hc => ?_⟩
   rw [List.length_cons]
   rcases List.mem_append.1 hc with h | h
   ·have := h2 c h
    omega
   ·have := h4 c h
    omega
theorem pAt_ext (l x : List Chg) (p : Int) (h : ∀ c ∈ x, p < c.pos) : pAt (l ++ x) p = pAt l p := by
 unfold pAt
 rw [List.reverse_append, List.find?_append]
 have : x.reverse.find? (fun c => decide (c.pos ≤ p)) = none := by
  rw [List.find?_eq_none]
  intro c hc
  have := h c (by simpa using hc)
  simp; omega
 rw [this]
 rfl
theorem pAt_all (l : List Chg) (p : Int) (h : ∀ c ∈ l, c.pos ≤ p) : pAt l p = ((lastC l).key, (lastC l).has) := by
 unfold pAt lastC
 cases hl : l.reverse with
 | nil =>
   have : l = [] := by simpa using hl
   subst this
   rfl
 | cons c r =>
   have e : l = r.reverse ++ [c] := by
    have := congrArg List.reverse hl
    simpa using this
   have hc := h c (by rw [e]; simp)
   rw [e]
   simp [hc]
theorem pAt_none (l : List Chg) (p : Int) (h : ∀ c ∈ l, p < c.pos) : pAt l p = (zero32, false) := by
 have := pAt_ext [] l p h
 rw [List.nil_append] at this
 exact this
theorem runs_append (sub : Bs → Bool) : ∀ (l m : List En) (t : Tb) (i : Nat), t.runs sub i (l ++ m) = (t.runs sub i l).runs sub (i + l.length) m := by
 intro l
 induction l with
 | nil => intro m t i; rfl
 | cons e r ih =>
   intro m t i
   rw [List.cons_append, Tb.runs, ih, Tb.runs, List.length_cons, Nat.add_right_comm, Nat.add_assoc]
/-- what the table says of a place is what it said when so much had come -/
theorem past_at (sub : Bs → Bool) (l : List En) (n : Bs) (i : Nat) (hi : i < l.length) : pAt ((Tb.new.runs sub 0 l).hist n) i = (Tb.new.runs sub 0 (l.take (i + 1))).bound n := by
 have e : l = l.take (i + 1) ++ l.drop (i + 1) := (List.take_append_drop _ _).symm
 have hl : (l.take (i + 1)).length = i + 1 := by rw [List.length_take]; omega
 obtain ⟨x, h1, h2⟩ := runs_hist sub n (l.drop (i + 1)) (Tb.new.runs sub 0 (l.take (i + 1))) (i + 1)
 have e2 : (Tb.new.runs sub 0 l).hist n = (Tb.new.runs sub 0 (l.take (i + 1))).hist n ++ x := by
  rw [← h1]
  conv => lhs; rw [e]
  rw [runs_append, hl, Nat.zero_add]
 obtain ⟨y, h3, h4⟩ := runs_hist sub n (l.take (i + 1)) Tb.new 0
 rw [e2, pAt_ext _ _ _ (fun c hc => by have := h2 c hc; omega), pAt_all _ _ (fun c hc => by
  rw [h3] at hc
  have hc2 : c ∈ y := by simpa [Tb.new] using hc
  have := h4 c hc2
  rw [hl] at this
  omega)]
 rfl
theorem past_none (sub : Bs → Bool) (l : List En) (n : Bs) : pAt ((Tb.new.runs sub 0 l).hist n) (-1) = (zero32, false) := by
 obtain ⟨y, h3, h4⟩ := runs_hist sub n l Tb.new 0
 refine pAt_none _ _ (fun c hc => ?_)
 rw [h3] at hc
 have hc2 : c ∈ y := by simpa [Tb.new] using hc
 have := h4 c hc2
 omega
end Go.Proofs.YtcddlemkimbkcaaGreatDoor
namespace Go.Proofs.YtcddlemkimbkcaaGreatDoor
set_option linter.unusedVariables false
set_option linter.unusedSimpArgs false
set_option linter.unusedSectionVars false
open Go.RowKit Go.Shelf
variable [OldK]
attribute [local go_sem] Oper.semAt_some
/-- the changes as they are yielded: the last one first -/
def ncList (l : List Chg) : List (Nat × Chg) := (l.zipIdx 0).reverse.map (fun p => (p.2, p.1))
theorem ncList_len (l : List Chg) : (ncList l).length = l.length := by simp [ncList]
theorem ncList_at (l : List Chg) (j : Nat) (x : Nat × Chg) (h : (ncList l)[j]? = some x) : x.1 = l.length - 1 - j ∧ l[x.1]? = some x.2 := by
 have hj : j < l.length := by rw [← ncList_len]; exact (List.getElem?_eq_some_iff.1 h).1
 unfold ncList at h
 rw [List.getElem?_map, List.getElem?_reverse (by simpa using hj), List.length_zipIdx, List.getElem?_zipIdx] at h
 rw [List.getElem?_eq_getElem (by omega)] at h
 simp only [Option.map_some, Option.some.injEq] at h
 subst h
 simp only [Nat.zero_add]
 exact ⟨trivial, List.getElem?_eq_getElem (by omega)⟩
theorem ncList_snd (l : List Chg) : (ncList l).map (·.2) = l.reverse := by
 unfold ncList
 rw [List.map_map]
 have : ((fun x : Nat × Chg => x.2) ∘ fun p : Chg × Nat => (p.2, p.1)) = fun p => p.1 := rfl
 rw [this, List.map_reverse, List.zipIdx_map_fst]
theorem pAt_some {l : List Chg} {p : Int} {ini rest : List (Nat × Chg)} {x : Nat × Chg} (h : ncList l = ini ++ x :: rest) (h1 : ∀ y ∈ ini, ¬ y.2.pos ≤ p) (h2 : x.2.pos ≤ p) : pAt l p = (x.2.key, x.2.has) := by
 unfold pAt
 rw [← ncList_snd, h, List.map_append, List.find?_append]
 have : (ini.map (·.2)).find? (fun c => decide (c.pos ≤ p)) = none := by
  rw [List.find?_eq_none]
  intro c hc
  obtain ⟨y, hy, rfl⟩ := List.mem_map.1 hc
  simpa using h1 y hy
 rw [this]
 simp [h2]
theorem pAt_nothing {l : List Chg} {p : Int} (h1 : ∀ y ∈ ncList l, ¬ y.2.pos ≤ p) : pAt l p = (zero32, false) := by
 unfold pAt
 rw [← ncList_snd]
 have : ((ncList l).map (·.2)).find? (fun c => decide (c.pos ≤ p)) = none := by
  rw [List.find?_eq_none]
  intro c hc
  obtain ⟨y, hy, rfl⟩ := List.mem_map.1 hc
  simpa using h1 y hy
 rw [this]
/-- a change of 32 bytes in any case -/
def Chg.nrm (c : Chg) : Chg := if c.cells.length = 34 then c else Chg.zero
theorem Chg.nrm_ok (c : Chg) : c.nrm.ok := by
 unfold Chg.nrm
 split
 ·rename_i h
  simp only [Chg.cells, List.length_append, byteCells_len, List.length_cons, List.length_nil] at h
  show c.key.length = 32
  omega
 ·rfl
theorem Chg.enc_nrm (c : Chg) : c.enc = c.nrm.cells := by
 unfold Chg.enc Chg.nrm
 split
 ·rfl
 ·rfl
theorem Chg.nrm_eq {c : Chg} (h : c.ok) : c.nrm = c := if_pos (Chg.size h)
theorem setCells_block {b : Nat} {e : TypeId} {f : Nat × Nat} : ∀ (vs : List Value) (o : Nat) (w : World) (cs : Array Value), w.heap[b]? = some (.cells cs e f) → ∃ cs', (w.setCells b o vs).heap[b]? = some (.cells cs' e f)
 | [], _, _, _, h => ⟨_, h⟩
 | v :: r, o, w, cs, h => by
   rw [World.setCells]
   exact setCells_block r (o + 1) _ _ (heap_setCell_eq v h)
theorem results_cell2 {fn : Func} {p q : Tmp} {ty ty' : TypeId} (h : fn.results = #[.cell p ty, .cell q ty']) (tmps : Array Value) (P : Program) (w : World) :
 (results fn tmps).run P w = ((asAddr (tmps.getD p undef)).run P w).andThen fun a w₁ => ((loadVar ty a).run P w₁).andThen fun v w₂ => ((asAddr (tmps.getD q undef)).run P w₂).andThen fun b w₃ => ((loadVar ty' b).run P w₃).andThen fun u w₄ => .ok (.tuple #[v, u]) w₄ := by
 simp only [results, h]
 simp [Sem.run_bind, Result.andThen]
theorem Tryz.loadBool (w : World) (b : Nat) (x : Bool) (h : w.cell? ⟨b, 0, none⟩ = some (.bool x)) : (loadVar 4 ⟨b, 0, none⟩).run Tryz.prog w = .ok (.bool x) w := by
 simp [go_sem, h]
/-- none of these is of this place or an earlier one -/
def AtI (place : Int) (pre : List (Nat × Chg)) : Prop := ∀ y ∈ pre, ¬ (Chg.nrm y.2).pos ≤ place
/-- the last of these is the first that is, and it has been written -/
def AtX (h : Nat) (place : Int) (pre : List (Nat × Chg)) (W : World) : Prop := ∃ ini x, pre = ini ++ [x] ∧ AtI place ini ∧ (Chg.nrm (Prod.snd x)).pos ≤ place ∧ (∃ cs, W.heap[h + 1]? = some (.cells cs 24 (0, 0))) ∧ W.rangeAt (h + 1) 0 (Lib.byteCells (Chg.nrm x.2).key) ∧ W.heap[h + 1 + 1]? = some (.cells #[.bool (Chg.nrm x.2).has] 4 (0, 0))
section
variable {F : Fence} {nF : Nat} {P : Program} {ops : Array Oper} {rest : List Oper} {op : Oper} {a : Act} {w : World} {Q : Exit → Act → World → Prop}
/-- a store of many cells, inside a fence -/
theorem wpListIn_store_mid (hgd : op.guard = none) (ty : TypeId) (x y : Operand) (ho : op.op = .store ty x y) (b o : Nat) (cells : Array Value)
 (hx : a.eval x = .pointer (some ⟨b, o, none⟩)) (hy : a.eval y = .agg cells) (ht : w.there b o cells.size) (hi : (P.info? ty).map (·.size) = some cells.size) (h1 : cells.all (·.oneCell') = true)
 (h : wpListIn F nF P ops Q rest (a.put op.dst undef) (w.setCells b o cells.toList)) : wpListIn F nF P ops Q (op :: rest) a w := by
 refine wpListIn_plain hgd fun K hK => ?_
 unfold Oper.wpIn
 refine ⟨by simp [Oper.about, ho], ?_⟩
 rw [Oper.semAt_plain F _ _ (by rw [ho]; intro c hc'; cases hc')]
 simp only [execOp, ho, hx, hy]
 rw [Sem.run_bind, run_storeAt_mid w b o ty cells ht hi h1]
 exact hK _ _ h
/-- a zero value made, inside a fence -/
theorem wpListIn_build0 (hgd : op.guard = none) (ty : TypeId) (v : Value) (ho : op.op = .build ty #[]) (hb : (Instr.build ty #[]).run P w = .ok v w)
 (h : wpListIn F nF P ops Q rest (a.put op.dst v) w) : wpListIn F nF P ops Q (op :: rest) a w := by
 refine wpListIn_plain hgd fun K hK => ?_
 unfold Oper.wpIn
 refine ⟨by simp [Oper.about, ho], ?_⟩
 rw [Oper.semAt_plain F _ _ (by rw [ho]; intro c hc'; cases hc')]
 simp only [execOp, ho]
 rw [Sem.run_bind, show (#[].map fun (x : Nat × Operand) => (x.1, a.eval x.2)) = #[] by simp, hb]
 exact hK _ _ h
end
theorem z32s' : (Tryz.prog.info? 24).map (·.size) = some (#[.int .u8 0, .int .u8 0, .int .u8 0, .int .u8 0, .int .u8 0, .int .u8 0, .int .u8 0, .int .u8 0, .int .u8 0, .int .u8 0, .int .u8 0, .int .u8 0, .int .u8 0, .int .u8 0, .int .u8 0, .int .u8 0, .int .u8 0, .int .u8 0, .int .u8 0, .int .u8 0, .int .u8 0, .int .u8 0, .int .u8 0, .int .u8 0, .int .u8 0, .int .u8 0, .int .u8 0, .int .u8 0, .int .u8 0, .int .u8 0, .int .u8 0, .int .u8 0] : Array Value).size := by kernel_rfl
theorem z32a' : (#[.int .u8 0, .int .u8 0, .int .u8 0, .int .u8 0, .int .u8 0, .int .u8 0, .int .u8 0, .int .u8 0, .int .u8 0, .int .u8 0, .int .u8 0, .int .u8 0, .int .u8 0, .int .u8 0, .int .u8 0, .int .u8 0, .int .u8 0, .int .u8 0, .int .u8 0, .int .u8 0, .int .u8 0, .int .u8 0, .int .u8 0, .int .u8 0, .int .u8 0, .int .u8 0, .int .u8 0, .int .u8 0, .int .u8 0, .int .u8 0, .int .u8 0, .int .u8 0] : Array Value).all (·.oneCell') = true := by kernel_rfl
set_option maxRecDepth 100000 in
set_option maxHeartbeats 4000000 in
theorem at_in {base tb n bc bl : Nat} {t : Tb} {g lv : Bs → Option Value} (x : Bs) (place : Int) (w : World) (h : TBL base tb n bc bl t g lv w) (hx : x.length ≤ maxLen) (hn : n ≤ 1000000) :
 CallsIn Fence.wide 5 Tryz.prog 32 #[.pointer (some ⟨tb, 0, none⟩), .string ⟨x.toArray⟩, .int .i64 place] w fun e w' => e = .returned (.tuple #[.agg (Lib.byteCells (pAt (t.hist x) place).1).toArray, .bool (pAt (t.hist x) place).2]) ∧ Fr NoB w w' := by
 obtain ⟨W0, hW0⟩ : ∃ W0, ((w.alloc (.cells #[.int .i64 place] 3)).alloc (.cells #[.int .u8 0, .int .u8 0, .int .u8 0, .int .u8 0, .int .u8 0, .int .u8 0, .int .u8 0, .int .u8 0, .int .u8 0, .int .u8 0, .int .u8 0, .int .u8 0, .int .u8 0, .int .u8 0, .int .u8 0, .int .u8 0, .int .u8 0, .int .u8 0, .int .u8 0, .int .u8 0, .int .u8 0, .int .u8 0, .int .u8 0, .int .u8 0, .int .u8 0, .int .u8 0, .int .u8 0, .int .u8 0, .int .u8 0, .int .u8 0, .int .u8 0, .int .u8 0] 24)).alloc (.cells #[.bool false] 4) = W0 := ⟨_, rfl⟩
 have hs0 : W0.heap.size = w.heap.size + 3 := by rw [← hW0]; simp
 have hF0 : Fr NoB w W0 := by rw [← hW0]; exact ((Fr.refl.alloc _).alloc _).alloc _
 have hBel0 : Below w.heap.size w W0 := by rw [← hW0]; exact (((Below.refl _ w).alloc (Nat.le_refl _) _).alloc (by simp) _).alloc (by simp; try omega) _
 have hb0 : W0.heap[w.heap.size]? = some (.cells #[.int .i64 place] 3 (0, 0)) := by
  rw [← hW0]
  exact ((Fr.refl (M := NoB)).alloc _ |>.alloc _).block _ _ (heap_alloc_new w _) (fun h => h)
 have hb1 : W0.heap[w.heap.size + 1]? = some (.cells #[.int .u8 0, .int .u8 0, .int .u8 0, .int .u8 0, .int .u8 0, .int .u8 0, .int .u8 0, .int .u8 0, .int .u8 0, .int .u8 0, .int .u8 0, .int .u8 0, .int .u8 0, .int .u8 0, .int .u8 0, .int .u8 0, .int .u8 0, .int .u8 0, .int .u8 0, .int .u8 0, .int .u8 0, .int .u8 0, .int .u8 0, .int .u8 0, .int .u8 0, .int .u8 0, .int .u8 0, .int .u8 0, .int .u8 0, .int .u8 0, .int .u8 0, .int .u8 0] 24 (0, 0)) := by
  rw [← hW0]
  have := heap_alloc_new (w.alloc (.cells #[.int .i64 place] 3)) (.cells #[.int .u8 0, .int .u8 0, .int .u8 0, .int .u8 0, .int .u8 0, .int .u8 0, .int .u8 0, .int .u8 0, .int .u8 0, .int .u8 0, .int .u8 0, .int .u8 0, .int .u8 0, .int .u8 0, .int .u8 0, .int .u8 0, .int .u8 0, .int .u8 0, .int .u8 0, .int .u8 0, .int .u8 0, .int .u8 0, .int .u8 0, .int .u8 0, .int .u8 0, .int .u8 0, .int .u8 0, .int .u8 0, .int .u8 0, .int .u8 0, .int .u8 0, .int .u8 0] 24)
  rw [World.size_alloc] at this
  exact ((Fr.refl (M := NoB)).alloc _).block _ _ this (fun h => h)
 have hb2 : W0.heap[w.heap.size + 2]? = some (.cells #[.bool false] 4 (0, 0)) := by
  rw [← hW0]
  have := heap_alloc_new ((w.alloc (.cells #[.int .i64 place] 3)).alloc (.cells #[.int .u8 0, .int .u8 0, .int .u8 0, .int .u8 0, .int .u8 0, .int .u8 0, .int .u8 0, .int .u8 0, .int .u8 0, .int .u8 0, .int .u8 0, .int .u8 0, .int .u8 0, .int .u8 0, .int .u8 0, .int .u8 0, .int .u8 0, .int .u8 0, .int .u8 0, .int .u8 0, .int .u8 0, .int .u8 0, .int .u8 0, .int .u8 0, .int .u8 0, .int .u8 0, .int .u8 0, .int .u8 0, .int .u8 0, .int .u8 0, .int .u8 0, .int .u8 0] 24)) (.cells #[.bool false] 4)
  rw [World.size_alloc, World.size_alloc] at this
  exact this
 have hT := h.keep hF0
 have hkeys := h.keys x
 have hfew : (t.hist x).length ≤ 1000000 := Nat.le_trans (h.few x) hn
 have hhist := history_c x W0 hT hx hn
 have Hhist := Lib.hid (callsIn_wide (n := 4) |>.2 hhist)
 have HF0 := Lib.hid hF0
 have HBel0 := Lib.hid hBel0
 have Hb0 := Lib.hid hb0
 have Hb1 := Lib.hid hb1
 have Hb2 := Lib.hid hb2
 have Hkeys := Lib.hid hkeys
 have HW0 := Lib.hid hW0
 have Hs0 := Lib.hid hs0
 clear hF0 hBel0 hb0 hb1 hb2 hT hkeys hW0 hs0 hhist h
 obtain ⟨R, hR⟩ : ∃ R, pAt (t.hist x) place = R := ⟨_, rfl⟩
 rw [hR]
 have HR := Lib.hid hR
 clear hR
 refine callsIn_of_wp_marks Tryz.func32 rfl trivial ?_ rfl
 simp only [Tryz.ntmps32, List.size_toArray, List.length_cons, List.length_nil, Nat.reduceAdd, Nat.reduceSub, Array.replicate_succ, Array.replicate_zero, List.push_toArray, List.append_toArray, List.nil_append, List.cons_append]
 gi_wp2_with fail
 rw [HW0.out]
 refine ⟨trivial, ?_⟩
 refine Hhist.out.mono ?_
 rintro e W1 ⟨v', rfl, h1, h2⟩
 have hvf : ∃ sa cp, v' = .slice sa (t.hist x).length cp := by
  rcases row_form h1 with ⟨rfl, h0⟩ | ⟨gb, cap, rfl, -⟩
  ·rw [h0]; exact ⟨_, _, rfl⟩
  ·exact ⟨_, _, rfl⟩
 obtain ⟨sa, cp, rfl⟩ := hvf
 have hbw := (callsIn_wide (n := 4)).2 (backward_c sa (t.hist x).length cp W1)
 have H1 := Lib.hid h1
 have H2 := Lib.hid h2
 have Hbw := Lib.hid hbw
 clear h1 h2 hbw Hhist
 gi_wp2_with fail
 refine ⟨trivial, ?_⟩
 refine Hbw.out.mono ?_
 rintro e w' ⟨rfl, rfl⟩
 obtain ⟨W2, hW2⟩ : ∃ W2, W1.alloc (.cells #[.slice sa (t.hist x).length cp] 110) = W2 := ⟨_, rfl⟩
 obtain ⟨Bs, hBs⟩ : ∃ B, W1.heap.size = B := ⟨_, rfl⟩
 have hF2 : Fr NoB W0 W2 := by rw [← hW2]; exact H2.out.alloc _
 have hs2 : W2.heap.size = Bs + 1 := by rw [← hW2, World.size_alloc, hBs]
 have hs1 := H2.out.size
 rw [hBs] at hs1
 have hBelW : Below w.heap.size w W2 := (HF0.out.trans' hF2).below (Nat.le_refl _) (fun _ _ _ h => h.elim)
 have hc0 := hF2.block _ _ Hb0.out (fun h => h)
 have hc1 := hF2.block _ _ Hb1.out (fun h => h)
 have hc2 := hF2.block _ _ Hb2.out (fun h => h)
 have hcs : W2.cell? ⟨Bs, 0, none⟩ = some (.slice sa (t.hist x).length cp) := by
  have := heap_alloc_new W1 (.cells #[.slice sa (t.hist x).length cp] 110)
  rw [hW2, hBs] at this
  simp [World.cell?, this]
 have hxs : (ncList (t.hist x)).length = 0 ∨ ∃ gb, sa = some ⟨gb, 0, none⟩ ∧ BkRow W2.heap.size gb (ncList (t.hist x)).length (ncList (t.hist x)) W2 := by
  rcases row_form H1.out with ⟨-, h0⟩ | ⟨gb, cap, e1, e2, e3, -⟩
  ·exact .inl (by rw [ncList_len]; exact h0)
  ·injection e1 with e1 e4 e5
   subst e1
   refine .inr ⟨gb, rfl, by omega, fun j y hy => ?_⟩
   obtain ⟨a1, a2⟩ := ncList_at _ _ _ hy
   rw [ncList_len]
   refine ⟨a1, ?_⟩
   have hr := row_chg (n := (t.hist x).length) (cap := cp) H1.out Hkeys.out y.1 y.2 a2
   rw [← hW2]
   exact range_fr hr ((Fr.refl (M := NoB)).alloc _) e3 (fun _ h => h)
 have hxok : ∀ y ∈ ncList (t.hist x), y.2.ok := fun y hy => by
  refine Hkeys.out _ ?_
  have : y.2 ∈ (ncList (t.hist x)).map (·.2) := List.mem_map_of_mem hy
  rw [ncList_snd] at this
  simpa using this
 rw [← ncList_len (t.hist x)] at hcs
 gi_wp2_with fail
 have Hc0 := Lib.hid hc0
 have Hc1 := Lib.hid hc1
 have Hc2 := Lib.hid hc2
 have Hs0' := Hs0.out
 have HBelW := Lib.hid hBelW
 have Hxs := Lib.hid hxs
 have Hxok := Lib.hid hxok
 clear hc0 hc1 hc2 hBelW HBel0 Hb0 Hb1 Hb2 hF2 H1 H2 HF0 HW0 hW2 hBs
 refine wpIn_rangeFunc_ownH (w := W2) rfl (by omega) (gf := 115) (lb := #[.pointer (some ⟨Bs, 0, none⟩)]) rfl trivial (enters_of Tryz.func115 (by kernel_rfl) rfl)
  (back_stops Fence.wide 4 trivial rfl (by omega) Bs W2.heap.size cp sa (ncList (t.hist x)) (by rw [ncList_len]; omega) hxok W2 (by omega) (Nat.le_refl _) hcs hxs)
  belowK_t (belowK_b (Nat.le_refl _)) (Below.refl _ _) (fun _ => rfl)
  (fun pre W => AtI place pre ∧ Below W2.heap.size W2 W)
  (fun c pre W => (c = .ret ∧ AtX w.heap.size place pre W) ∧ Below w.heap.size w W)
  (OwnFrom.and (ownFrom_pure _ (AtI place)) (ownFrom_below (Nat.le_refl _) (Nat.le_refl _)))
  (fun c s A B row hs hg hr => by
    obtain ⟨⟨hc, ini, x, e1, e2, e3, ⟨cs, b1⟩, b2, b3⟩, hB⟩ := hs
    have b1' := own_block (β := Unit) _ _ _ _ () A B row b1 hg (fun r e => (hr r e).2)
    exact ⟨⟨hc, ini, x, e1, e2, e3, ⟨cs, b1'⟩, range_same b2 (b1'.trans b1.symm), own_block (β := Unit) _ _ _ _ () A B row b3 hg (fun r e => (hr r e).2)⟩, ownFrom_below (β := Unit) (n₀ := w.heap.size) (B := W2.heap.size) (w₀ := w) (Nat.le_refl _) (by omega) () A B row hB hg hr⟩)
  ⟨(fun y h => by cases h), Below.refl _ _⟩
  (fun (y : Nat × Chg) a' W => ∃ Bx, W2.heap.size ≤ Bx ∧ W.heap[Bx]? = some (.cells (Prod.snd y).enc.toArray 117 (0, 0)) ∧ a' = { tmps := #[.pointer (some ⟨tb, 0, none⟩), .string ⟨x.toArray⟩, .int .i64 place, undef, undef, .pointer (some ⟨w.heap.size, 0, none⟩), .pointer (some ⟨w.heap.size + 1, 0, none⟩), .pointer (some ⟨w.heap.size + 1 + 1, 0, none⟩), undef, .pointer (some ⟨Bx, 0, none⟩), .pointer (some ⟨tb, 0, none⟩), .string ⟨x.toArray⟩, .slice sa (t.hist x).length cp, .func (.func 115) #[] #[.pointer (some ⟨Bs, 0, none⟩)], .int .i64 ((y.1 : Nat) : Int), .agg (Prod.snd y).enc.toArray, undef, undef, undef, undef, undef, undef, undef, undef, undef], defers := [] })
  (fun y a' s A B row hs hg hr => by
    obtain ⟨Bx, h1, h2, h3⟩ := hs
    exact ⟨Bx, h1, own_block (β := Unit) _ _ _ _ () A B row h2 hg (fun r e => (hr r e).2), h3⟩) ?assign ?body ?done ?stop
 case assign =>
  rintro l pre y W K ⟨hp, hB⟩ hK
  have Hp := Lib.hid hp
  have HB := Lib.hid hB
  have HK := Lib.hid hK
  have HC1 := Lib.hid (Chg.enc_one y.2)
  have Hs2 : Hid ((Tryz.prog.info? 117).map (·.size) = some y.2.enc.toArray.size) := Lib.hid (by rw [Tryz.sizeChg, List.size_toArray, Chg.enc_len])
  have Hs3 : Hid (chgZ.size = y.2.enc.toArray.size) := Lib.hid (by rw [show y.2.enc.toArray.size = 34 by rw [List.size_toArray, Chg.enc_len]]; rfl)
  clear hp hB hK
  unfold ncArgs
  gi_wp2_with (refine wpListIn_store_new rfl 117 _ _ rfl chgZ y.2.enc.toArray rfl rfl Hs2.out Hs3.out HC1.out ?_)
  exact HK.out _ _ ((KeepsOthers.alloc _ _).from _) ((Below.refl _ W).alloc HB.out.size _) ⟨Hp.out, HB.out.alloc HB.out.size _⟩ ⟨W.heap.size, HB.out.size, heap_alloc_new W _, rfl⟩
 case body =>
  rintro l pre y a' W hl ⟨r, hr⟩ ⟨hp, hB⟩ ⟨Bx, hBx, hbx, rfl⟩ hlt
  obtain ⟨c, hc⟩ : ∃ c, y.2.nrm = c := ⟨_, rfl⟩
  have hcok : c.ok := by rw [← hc]; exact Chg.nrm_ok _
  have hen : y.2.enc = c.cells := by rw [Chg.enc_nrm, hc]
  rw [hen] at hbx ⊢
  have hq := range_block hbx
  rw [List.toList_toArray, chg_cells, range_append, range_append, range_one, range_one] at hq
  obtain ⟨q0, q1, q2⟩ := hq
  simp only [List.length_cons, List.length_nil, Nat.zero_add, Nat.reduceAdd] at q1 q2
  have hw0 := (hB.block _ (by omega)).trans Hc0.out
  have hw1 := (hB.block _ (by omega)).trans Hc1.out
  have hw2 := (hB.block (w.heap.size + 1 + 1) (by omega)).trans Hc2.out
  have p0 : W.cell? ⟨w.heap.size, 0, none⟩ = some (.int .i64 place) := by simp [World.cell?, hw0]
  have hkl : (Lib.byteCells c.key).length = 32 := by rw [byteCells_len]; exact hcok
  have hk1 := all_oneCell_toArray (cells_one c.key)
  obtain ⟨KC, hK⟩ : ∃ KC, Lib.byteCells c.key = KC := ⟨_, rfl⟩
  rw [hK] at q2 hkl hk1
  have HK := Lib.hid hK
  have Hkz : Hid ((Tryz.prog.info? 24).map (·.size) = some KC.length) := Lib.hid (by rw [Tryz.sizeKey, hkl])
  have Hkz2 : Hid ((Tryz.prog.info? 24).map (·.size) = some KC.toArray.size) := Lib.hid (by rw [Tryz.sizeKey, List.size_toArray, hkl])
  have Hk1 := Lib.hid hk1
  have HT : Hid (W.there (w.heap.size + 1) 0 KC.toArray.size) := Lib.hid (by rw [show KC.toArray.size = 32 by rw [List.size_toArray, hkl]]; exact there_block hw1 (Nat.le_refl _))
  have Hp := Lib.hid hp
  have HB := Lib.hid hB
  have Hw1 := Lib.hid hw1
  have Hw2 := Lib.hid hw2
  have Hc := Lib.hid hc
  have HQ := Lib.hid q2
  have HbW := Lib.hid (get_lt hbx)
  have hBn : Bx ≠ w.heap.size + 1 ∧ Bx ≠ w.heap.size + 1 + 1 := by omega
  have HBn := Lib.hid hBn
  obtain ⟨ph, hph⟩ : ∃ b, c.has = b := ⟨_, rfl⟩
  have Hph := Lib.hid hph
  rw [hph] at q1
  obtain ⟨CC, hCC⟩ : ∃ C, c.cells.toArray = C := ⟨_, rfl⟩
  rw [hCC]
  clear hp hB hw0 hw1 hw2 hbx hl hr hBx hc q2 hkl hk1 hK hBn hph hCC hen hcok
  by_cases hle : c.pos ≤ place
  ·have hle' : decide (c.pos ≤ place) = true := decide_eq_true hle
   have Hle := Lib.hid hle
   clear hle
   gi_wp2_with fail
   refine wpIn_region_held_drew (S := fun V => Hid (Fr (fun k _ => k = w.heap.size + 1 ∨ k = w.heap.size + 1 + 1) W V)) (by kernel_rfl) (by kernel_rfl) (Lib.hid Fr.refl.drew) (fun hHeld => ?_)
   simp only [qL, qL1, qL0, qR, qR1, qR0]
   refine qt (v := ?_) rfl (Or.inl ⟨by rfl, ?_⟩) hHeld ?_
   rotate_left
   ·intro W hSw
    have h1 := Fr.cell hSw.out q1 (fun _ h => h.elim HBn.out.1 HBn.out.2)
    try simp only [qG, qG0, qG1]
    go_simp
    try rw [if_neg (by omega)]
    try with_reducible rfl
   try simp only [Act.put, qS, qS0, qS1, qG, qG0, qG1, qM0, qM1]
   refine qi (i := 1) rfl (yieldsIf_load_mid (by rfl) 24 _ rfl Bx 2 rfl KC (.array 32 5) (fun V h => range_fr HQ.out h.out HbW.out (fun _ h => h.elim HBn.out.1 HBn.out.2)) Tryz.underKey rfl Hkz.out) hHeld ?_
   try simp only [Act.put, qS, qS0, qS1, qG, qG0, qG1, qM0, qM1]
   iterate 2
    refine qt (v := ?_) rfl (Or.inl ⟨by rfl, ?_⟩) hHeld ?_
    rotate_left
    ·intro W hSw
     have h1 := Fr.cell hSw.out q1 (fun _ h => h.elim HBn.out.1 HBn.out.2)
     try simp only [qG, qG0, qG1]
     go_simp
     try rw [if_neg (by omega)]
     try with_reducible rfl
    try simp only [Act.put, qS, qS0, qS1, qG, qG0, qG1, qM0, qM1]
   refine qr (i := 4) (by kernel_rfl) rfl (fun K hK => ?_)
   try simp only [qG, qG0, qG1]
   rw [if_pos (by rfl)]; refine wp_store_mid 24 (.tmp 6) (.tmp 21) (by rfl) (w.heap.size + 1) 0 KC.toArray (by rfl) (by rfl) HT.out Hkz2.out Hk1.out ?_
   refine hK.out _ _ (Lib.hid (hHeld.out.trans' ((setCells_fr (w.heap.size + 1) _ _ _).mono (fun _ _ h => .inl h)))) (fun hHeld => ?_)
   clear hK K
   try simp only [Act.put, qS, qS0, qS1, qG, qG0, qG1, qM0, qM1]
   obtain ⟨cs4, hb4⟩ := setCells_block (b := w.heap.size + 1) KC.toArray.toList 0 W.drew _ Hw1.out
   have hr4 := World.rangeAt_setCells_same W.drew (w.heap.size + 1) 0 KC.toArray.toList (by have := HT.out; simpa using this)
   have hc4 : (W.drew.setCells (w.heap.size + 1) 0 KC.toArray.toList).heap[w.heap.size + 1 + 1]? = some (.cells #[.bool false] 4 (0, 0)) := (setCells_fr (w.heap.size + 1) KC.toArray.toList 0 W.drew).block _ _ Hw2.out (fun h => by omega)
   obtain ⟨W4, hW4⟩ : ∃ V, W.drew.setCells (w.heap.size + 1) 0 KC.toArray.toList = V := ⟨_, rfl⟩
   rw [hW4] at hb4 hr4 hc4 hHeld ⊢
   rw [List.toList_toArray] at hr4
   have s0 : W4.cell? ⟨w.heap.size + 1 + 1, 0, none⟩ = some (.bool false) := by simp [World.cell?, hc4]
   have sz : W4.frozen? ⟨w.heap.size + 1 + 1, 0, none⟩ = false := by simp [World.frozen?, hc4]
   have Hb4 := Lib.hid hb4
   have Hr4 := Lib.hid hr4
   have Hc4 := Lib.hid hc4
   clear hb4 hr4 hc4 hW4
   refine qr (i := 5) (by kernel_rfl) rfl (fun K hK => ?_)
   try simp only [qG, qG0, qG1]
   go_simp
   skip
   refine hK.out _ _ (Lib.hid (hHeld.out.setCell _ _ (fun _ _ => .inr rfl))) (fun hHeld => ?_)
   clear hK K
   try simp only [Act.put, qS, qS0, qS1, qG, qG0, qG1, qM0, qM1]
   refine wpAnyH_done (by kernel_rfl) ?_ _
   simp only [OnlyEnd]
   gi_wp2_with fail
   have hF5 := hHeld.out
   have hsW := HB.out.size
   have hB5 : Below w.heap.size W (W4.setCell ⟨w.heap.size + 1 + 1, 0, none⟩ (.bool ph)) := hF5.below (by have := HBelW.out.size; omega) (fun k o hk hm => by omega)
   have h41 : (W4.setCell ⟨w.heap.size + 1 + 1, 0, none⟩ (.bool ph)).heap[w.heap.size + 1]? = some (.cells cs4 24 (0, 0)) := (Below.heap_setCell _ _ _ _ (by simp)).trans Hb4.out
   refine ⟨⟨hF5.size, fun k o hk hko _ => hF5.block k o hko (by omega)⟩, ⟨rfl, by unfold AtX; refine ⟨pre, y, rfl, Hp.out, by rw [Hc.out]; exact Hle.out, ⟨cs4, h41⟩, by rw [Hc.out, HK.out]; exact range_same Hr4.out (h41.trans Hb4.out.symm), by rw [Hc.out, Hph.out]; exact heap_setCell_eq (o := 0) (.bool ph) Hc4.out⟩⟩, (HBelW.out.trans (HB.out.mono (by omega))).trans hB5⟩
  ·have hle' : decide (c.pos ≤ place) = false := decide_eq_false hle
   have Hle := Lib.hid hle
   clear hle
   gi_wp2
   exact ⟨KeepsFrom.refl _ _, Below.refl _ _, ⟨fun y' hy => (List.mem_append.1 hy).elim (Hp.out y') (fun e => by rw [List.mem_singleton.1 e, Hc.out]; exact Int.not_le.2 Hle.out), by have h := HB.out; rw [hs2] at h; exact h⟩⟩
 case done =>
  rintro D ys W hD rfl ⟨hne, hB⟩ hK
  have hw1 := (hB.block _ (by omega)).trans Hc1.out
  have hw2 := (hB.block (w.heap.size + 1 + 1) (by omega)).trans Hc2.out
  have hno : R = (zero32, false) := HR.out.symm.trans <| pAt_nothing (fun y hy => by have := hne y hy; rwa [Chg.nrm_eq (Hxok.out y hy)] at this)
  subst hno
  have HT : Hid (W.there (w.heap.size + 1) 0 (#[.int .u8 0, .int .u8 0, .int .u8 0, .int .u8 0, .int .u8 0, .int .u8 0, .int .u8 0, .int .u8 0, .int .u8 0, .int .u8 0, .int .u8 0, .int .u8 0, .int .u8 0, .int .u8 0, .int .u8 0, .int .u8 0, .int .u8 0, .int .u8 0, .int .u8 0, .int .u8 0, .int .u8 0, .int .u8 0, .int .u8 0, .int .u8 0, .int .u8 0, .int .u8 0, .int .u8 0, .int .u8 0, .int .u8 0, .int .u8 0, .int .u8 0, .int .u8 0] : Array Value).size) := Lib.hid (there_block hw1 (Nat.le_refl _))
  obtain ⟨cs4, hb4⟩ := setCells_block (b := w.heap.size + 1) (#[.int .u8 0, .int .u8 0, .int .u8 0, .int .u8 0, .int .u8 0, .int .u8 0, .int .u8 0, .int .u8 0, .int .u8 0, .int .u8 0, .int .u8 0, .int .u8 0, .int .u8 0, .int .u8 0, .int .u8 0, .int .u8 0, .int .u8 0, .int .u8 0, .int .u8 0, .int .u8 0, .int .u8 0, .int .u8 0, .int .u8 0, .int .u8 0, .int .u8 0, .int .u8 0, .int .u8 0, .int .u8 0, .int .u8 0, .int .u8 0, .int .u8 0, .int .u8 0] : Array Value).toList 0 W _ hw1
  have hr4 := World.rangeAt_setCells_same W (w.heap.size + 1) 0 (#[.int .u8 0, .int .u8 0, .int .u8 0, .int .u8 0, .int .u8 0, .int .u8 0, .int .u8 0, .int .u8 0, .int .u8 0, .int .u8 0, .int .u8 0, .int .u8 0, .int .u8 0, .int .u8 0, .int .u8 0, .int .u8 0, .int .u8 0, .int .u8 0, .int .u8 0, .int .u8 0, .int .u8 0, .int .u8 0, .int .u8 0, .int .u8 0, .int .u8 0, .int .u8 0, .int .u8 0, .int .u8 0, .int .u8 0, .int .u8 0, .int .u8 0, .int .u8 0] : Array Value).toList HT.out
  have hF4 := setCells_fr (w.heap.size + 1) (#[.int .u8 0, .int .u8 0, .int .u8 0, .int .u8 0, .int .u8 0, .int .u8 0, .int .u8 0, .int .u8 0, .int .u8 0, .int .u8 0, .int .u8 0, .int .u8 0, .int .u8 0, .int .u8 0, .int .u8 0, .int .u8 0, .int .u8 0, .int .u8 0, .int .u8 0, .int .u8 0, .int .u8 0, .int .u8 0, .int .u8 0, .int .u8 0, .int .u8 0, .int .u8 0, .int .u8 0, .int .u8 0, .int .u8 0, .int .u8 0, .int .u8 0, .int .u8 0] : Array Value).toList 0 W
  have hc4 := hF4.block _ _ hw2 (fun h => by omega)
  have hK4 := hF4.block _ _ hK (fun h => by omega)
  have Hb4 := Lib.hid hb4
  have Hr4 := Lib.hid hr4
  have Hc4 := Lib.hid hc4
  have HK4 := Lib.hid hK4
  have HF4 := Lib.hid hF4
  have HB := Lib.hid hB
  clear hne hB hK hw1 hw2 hb4 hr4 hc4 hK4 hF4
  have hbz : (Instr.build 24 #[]).run Tryz.prog W = .ok (.agg #[.int .u8 0, .int .u8 0, .int .u8 0, .int .u8 0, .int .u8 0, .int .u8 0, .int .u8 0, .int .u8 0, .int .u8 0, .int .u8 0, .int .u8 0, .int .u8 0, .int .u8 0, .int .u8 0, .int .u8 0, .int .u8 0, .int .u8 0, .int .u8 0, .int .u8 0, .int .u8 0, .int .u8 0, .int .u8 0, .int .u8 0, .int .u8 0, .int .u8 0, .int .u8 0, .int .u8 0, .int .u8 0, .int .u8 0, .int .u8 0, .int .u8 0, .int .u8 0]) W := run_build W 24 _ _ (by kernel_rfl)
  rename_i Q0 K0 hK0
  simp only [Exit.inBlock, Exit.then]
  refine hK0 _ _ (wpIn_seq (wpIn_region_lit (wpListIn_build0 rfl 24 (.agg #[.int .u8 0, .int .u8 0, .int .u8 0, .int .u8 0, .int .u8 0, .int .u8 0, .int .u8 0, .int .u8 0, .int .u8 0, .int .u8 0, .int .u8 0, .int .u8 0, .int .u8 0, .int .u8 0, .int .u8 0, .int .u8 0, .int .u8 0, .int .u8 0, .int .u8 0, .int .u8 0, .int .u8 0, .int .u8 0, .int .u8 0, .int .u8 0, .int .u8 0, .int .u8 0, .int .u8 0, .int .u8 0, .int .u8 0, .int .u8 0, .int .u8 0, .int .u8 0]) rfl hbz ?_)))
  refine wpListIn_store_mid rfl 24 (.tmp 6) (.tmp 24) rfl (w.heap.size + 1) 0 #[.int .u8 0, .int .u8 0, .int .u8 0, .int .u8 0, .int .u8 0, .int .u8 0, .int .u8 0, .int .u8 0, .int .u8 0, .int .u8 0, .int .u8 0, .int .u8 0, .int .u8 0, .int .u8 0, .int .u8 0, .int .u8 0, .int .u8 0, .int .u8 0, .int .u8 0, .int .u8 0, .int .u8 0, .int .u8 0, .int .u8 0, .int .u8 0, .int .u8 0, .int .u8 0, .int .u8 0, .int .u8 0, .int .u8 0, .int .u8 0, .int .u8 0, .int .u8 0] ?_ ?_ HT.out z32s' z32a' ?_
  ·rfl
  ·rfl
  simp only [Act.put, List.setIfInBounds_toArray, List.set_cons_zero, List.set_cons_succ, List.getElem_toArray, List.getElem_cons_zero, List.getElem_cons_succ]
  obtain ⟨W4, hW4⟩ : ∃ V, W.setCells (w.heap.size + 1) 0 (#[.int .u8 0, .int .u8 0, .int .u8 0, .int .u8 0, .int .u8 0, .int .u8 0, .int .u8 0, .int .u8 0, .int .u8 0, .int .u8 0, .int .u8 0, .int .u8 0, .int .u8 0, .int .u8 0, .int .u8 0, .int .u8 0, .int .u8 0, .int .u8 0, .int .u8 0, .int .u8 0, .int .u8 0, .int .u8 0, .int .u8 0, .int .u8 0, .int .u8 0, .int .u8 0, .int .u8 0, .int .u8 0, .int .u8 0, .int .u8 0, .int .u8 0, .int .u8 0] : Array Value).toList = V := ⟨_, rfl⟩
  rw [hW4] at Hb4 Hr4 Hc4 HK4 HF4 ⊢
  clear hW4 HT hbz
  have s0 : W4.cell? ⟨w.heap.size + 1 + 1, 0, none⟩ = some (.bool false) := by have := Hc4.out; simp [World.cell?, this]
  have sz : W4.frozen? ⟨w.heap.size + 1 + 1, 0, none⟩ = false := by have := Hc4.out; simp [World.frozen?, this]
  gi_wp2_with fail
  obtain ⟨W5, hW5⟩ : ∃ V, W4.setCell ⟨w.heap.size + 1 + 1, 0, none⟩ (.bool false) = V := ⟨_, rfl⟩
  have h52 : W5.heap[w.heap.size + 1 + 1]? = some (.cells #[.bool false] 4 (0, 0)) := by rw [← hW5]; exact heap_setCell_eq (o := 0) (.bool false) Hc4.out
  have h51 : W5.heap[w.heap.size + 1]? = some (.cells cs4 24 (0, 0)) := by rw [← hW5]; exact (Below.heap_setCell _ _ _ _ (by simp)).trans Hb4.out
  have hr5 := range_same Hr4.out (h51.trans Hb4.out.symm)
  have hK5 : W5.heap[D]? = some (.deferred (some [])) := by rw [← hW5]; exact (Below.heap_setCell _ _ _ _ (by simp; omega)).trans HK4.out
  have hF5 : Fr (fun k _ => k = w.heap.size + 1 ∨ k = w.heap.size + 1 + 1) W W5 := by rw [← hW5]; exact (HF4.out.mono (fun _ _ h => .inl h)).setCell _ _ (fun _ _ => .inr rfl)
  rw [hW5]
  have hB5 : Below w.heap.size W W5 := hF5.below (by have := HB.out.size; have := HBelW.out.size; omega) (fun k o hk hm => by omega)
  have hbp : Below w.heap.size w (W5.putObj D (.deferred none)) := ((HBelW.out.trans (HB.out.mono (by omega))).trans hB5).trans (belowK_b (w := W2) (by omega) W5 D _ _ hD hK5 rfl rfl)
  have m1 := own_block (β := Unit) _ _ _ _ () _ _ _ h51 (grownBy_putObj' W5 D (.deferred none)) (fun r e => by cases e; exact ⟨_, hK5, rfl⟩)
  have m2 := own_block (β := Unit) _ _ _ _ () _ _ _ h52 (grownBy_putObj' W5 D (.deferred none)) (fun r e => by cases e; exact ⟨_, hK5, rfl⟩)
  have u0 : (W5.putObj D (.deferred none)).cell? ⟨w.heap.size + 1 + 1, 0, none⟩ = some (.bool false) := by simp [World.cell?, m2]
  have hld := run_loadVar_mid (P := Tryz.prog) _ (w.heap.size + 1) 0 24 _ (.array 32 5) (range_same hr5 (m1.trans h51.symm)) Tryz.underKey rfl z32s'
  have hld2 := Tryz.loadBool _ _ _ u0
  refine ⟨by simp, .inl ⟨_, _, rfl, run_takeDeferred hK5, ?_⟩⟩
  refine ⟨.tuple #[.agg #[.int .u8 0, .int .u8 0, .int .u8 0, .int .u8 0, .int .u8 0, .int .u8 0, .int .u8 0, .int .u8 0, .int .u8 0, .int .u8 0, .int .u8 0, .int .u8 0, .int .u8 0, .int .u8 0, .int .u8 0, .int .u8 0, .int .u8 0, .int .u8 0, .int .u8 0, .int .u8 0, .int .u8 0, .int .u8 0, .int .u8 0, .int .u8 0, .int .u8 0, .int .u8 0, .int .u8 0, .int .u8 0, .int .u8 0, .int .u8 0, .int .u8 0, .int .u8 0], .bool false], ?_, rfl, Fr.ofBelow hbp⟩
  rw [results_cell2 rfl]
  simp [asAddr, Result.andThen, hld, hld2]
 case stop =>
  rintro D c pre W hD hpre ⟨⟨rfl, hX⟩, hB⟩ hK
  unfold AtX at hX
  obtain ⟨ini, y, e1, e2, e3, ⟨cs, b1⟩, b2, b3⟩ := hX
  obtain ⟨rest, hrest⟩ := hpre
  rw [e1, List.append_assoc, List.singleton_append] at hrest
  have hin : ∀ z ∈ ini, z ∈ ncList (t.hist x) := fun z hz => by rw [← hrest]; simp [hz]
  have hyo := Hxok.out y (by rw [← hrest]; simp)
  have hno : R = (y.2.key, y.2.has) := HR.out.symm.trans (pAt_some hrest.symm (fun z hz => by have := e2 z hz; rwa [Chg.nrm_eq (Hxok.out z (hin z hz))] at this) (by rwa [Chg.nrm_eq hyo] at e3))
  rw [Chg.nrm_eq hyo] at b2 b3
  subst hno
  have hbp : Below w.heap.size w (W.putObj D (.deferred none)) := hB.trans (belowK_b (w := W2) (by omega) W D _ _ hD hK rfl rfl)
  have m1 := own_block (β := Unit) _ _ _ _ () _ _ _ b1 (grownBy_putObj' W D (.deferred none)) (fun r e => by cases e; exact ⟨_, hK, rfl⟩)
  have m2 := own_block (β := Unit) _ _ _ _ () _ _ _ b3 (grownBy_putObj' W D (.deferred none)) (fun r e => by cases e; exact ⟨_, hK, rfl⟩)
  have u0 : (W.putObj D (.deferred none)).cell? ⟨w.heap.size + 1 + 1, 0, none⟩ = some (.bool y.2.has) := by simp [World.cell?, m2]
  have hld := run_loadVar_mid (P := Tryz.prog) _ (w.heap.size + 1) 0 24 (Lib.byteCells y.2.key) (.array 32 5) (range_same b2 (m1.trans b1.symm)) Tryz.underKey rfl (by rw [Tryz.sizeKey, byteCells_len]; exact congrArg some (show 32 = y.2.key.length from hyo.symm))
  have HK := Lib.hid hK
  have Hbp := Lib.hid hbp
  have Hld := Lib.hid hld
  clear hK hbp hld m1 m2 b1 b2 b3 e2 e3 hB hin hrest hyo
  gi_wp2
  refine ⟨by simp, .inl ⟨_, _, rfl, run_takeDeferred HK.out, ?_⟩⟩
  refine ⟨.tuple #[.agg (Lib.byteCells y.2.key).toArray, .bool y.2.has], ?_, rfl, Fr.ofBelow Hbp.out⟩
  have hld := Hld.out
  have hld2 := Tryz.loadBool _ _ _ u0
  rw [results_cell2 rfl]
  simp [asAddr, Result.andThen, hld, hld2]
theorem at_c {base tb n bc bl : Nat} {t : Tb} {g lv : Bs → Option Value} (x : Bs) (place : Int) (w : World) (h : TBL base tb n bc bl t g lv w) (hx : x.length ≤ maxLen) (hn : n ≤ 1000000) :
 Calls Tryz.prog 32 #[.pointer (some ⟨tb, 0, none⟩), .string ⟨x.toArray⟩, .int .i64 place] w fun e w' => e = .returned (.tuple #[.agg (Lib.byteCells (pAt (t.hist x) place).1).toArray, .bool (pAt (t.hist x) place).2]) ∧ Fr NoB w w' :=
 callsIn_wide.1 (at_in x place w h hx hn)
end Go.Proofs.YtcddlemkimbkcaaGreatDoor
