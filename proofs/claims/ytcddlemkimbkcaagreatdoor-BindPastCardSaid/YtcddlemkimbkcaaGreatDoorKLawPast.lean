/-
  What a table says of places that are past (BindPast), as plain data.
-/
import Derived.Test.YtcddlemkimbkcaaGreatDoorKSpecBind
import Derived.Test.YtcddlemkimbkcaaGreatDoorKBackward
import Derived.Test.YtcddlemkimbkcaaGreatDoorKBeside
namespace Go.Proofs.YtcddlemkimbkcaaGreatDoor
set_option linter.unusedVariables false
set_option linter.unusedSimpArgs false
set_option linter.unusedSectionVars false
/-- the key that an identity had at a place -/
def pAt (l : List Chg) (p : Int) : Bs × Bool := match l.reverse.find? (fun c => decide (c.pos ≤ p)) with | some c => (c.key, c.has) | none => (zero32, false)
def Tb.bound (t : Tb) (n : Bs) : Bs × Bool := ((t.last n).key, (t.last n).has)
/-- these come, at the places from i on -/
def Tb.runs (sub : Bs → Bool) : Tb → Nat → List En → Tb
  | t, _, [] => t
  | t, i, e :: r => Tb.runs sub (t.take sub e i) (i + 1) r
theorem take_hist (sub : Bs → Bool) (t : Tb) (e : En) (p : Int) (n : Bs) : ∃ x, (t.take sub e p).hist n = t.hist n ++ x ∧ ∀ c ∈ x, c.pos = p := by
  unfold Tb.take
  split
  · by_cases h : n = e.ident
    · subst h
      refine ⟨[newC e p], upd_same _ _ _, fun c hc => ?_⟩
      obtain rfl : c = newC e p := by simpa using hc
      unfold newC
      split <;> rfl
    · exact ⟨[], by rw [List.append_nil]; exact upd_other _ _ h, fun c hc => by cases hc⟩
  · exact ⟨[], by simp, fun c hc => by cases hc⟩
theorem runs_hist (sub : Bs → Bool) (n : Bs) : ∀ (l : List En) (t : Tb) (i : Nat), ∃ x, (t.runs sub i l).hist n = t.hist n ++ x ∧ ∀ c ∈ x, (i : Int) ≤ c.pos ∧ c.pos < i + l.length := by
  intro l
  induction l with
  | nil => intro t i; exact ⟨[], by simp [Tb.runs], fun c hc => by cases hc⟩
  | cons e r ih =>
    intro t i
    obtain ⟨x, h1, h2⟩ := take_hist sub t e i n
    obtain ⟨y, h3, h4⟩ := ih (t.take sub e i) (i + 1)
    refine ⟨x ++ y, by rw [Tb.runs, h3, h1, List.append_assoc], fun c hc => ?_⟩
    rw [List.length_cons]
    rcases List.mem_append.1 hc with h | h
    · have := h2 c h
      omega
    · have := h4 c h
      omega
theorem pAt_ext (l x : List Chg) (p : Int) (h : ∀ c ∈ x, p < c.pos) : pAt (l ++ x) p = pAt l p := by
  unfold pAt
  rw [List.reverse_append, List.find?_append]
  have : x.reverse.find? (fun c => decide (c.pos ≤ p)) = none := by
    rw [List.find?_eq_none]
    intro c hc
    have := h c (by simpa using hc)
    simp; omega
  rw [this]
  rfl
theorem pAt_all (l : List Chg) (p : Int) (h : ∀ c ∈ l, c.pos ≤ p) : pAt l p = ((lastC l).key, (lastC l).has) := by
  unfold pAt lastC
  cases hl : l.reverse with
  | nil =>
    have : l = [] := by simpa using hl
    subst this
    rfl
  | cons c r =>
    have e : l = r.reverse ++ [c] := by
      have := congrArg List.reverse hl
      simpa using this
    have hc := h c (by rw [e]; simp)
    rw [e]
    simp [hc]
theorem pAt_none (l : List Chg) (p : Int) (h : ∀ c ∈ l, p < c.pos) : pAt l p = (zero32, false) := by
  have := pAt_ext [] l p h
  rw [List.nil_append] at this
  exact this
theorem runs_append (sub : Bs → Bool) : ∀ (l m : List En) (t : Tb) (i : Nat), t.runs sub i (l ++ m) = (t.runs sub i l).runs sub (i + l.length) m := by
  intro l
  induction l with
  | nil => intro m t i; rfl
  | cons e r ih =>
    intro m t i
    rw [List.cons_append, Tb.runs, ih, Tb.runs, List.length_cons, Nat.add_right_comm, Nat.add_assoc]
/-- what the table says of a place is what it said when so much had come -/
theorem past_at (sub : Bs → Bool) (l : List En) (n : Bs) (i : Nat) (hi : i < l.length) : pAt ((Tb.new.runs sub 0 l).hist n) i = (Tb.new.runs sub 0 (l.take (i + 1))).bound n := by
  have e : l = l.take (i + 1) ++ l.drop (i + 1) := (List.take_append_drop _ _).symm
  have hl : (l.take (i + 1)).length = i + 1 := by rw [List.length_take]; omega
  obtain ⟨x, h1, h2⟩ := runs_hist sub n (l.drop (i + 1)) (Tb.new.runs sub 0 (l.take (i + 1))) (i + 1)
  have e2 : (Tb.new.runs sub 0 l).hist n = (Tb.new.runs sub 0 (l.take (i + 1))).hist n ++ x := by
    rw [← h1]
    conv => lhs; rw [e]
    rw [runs_append, hl, Nat.zero_add]
  obtain ⟨y, h3, h4⟩ := runs_hist sub n (l.take (i + 1)) Tb.new 0
  rw [e2, pAt_ext _ _ _ (fun c hc => by have := h2 c hc; omega), pAt_all _ _ (fun c hc => by
    rw [h3] at hc
    have hc2 : c ∈ y := by simpa [Tb.new] using hc
    have := h4 c hc2
    rw [hl] at this
    omega)]
  rfl
theorem past_none (sub : Bs → Bool) (l : List En) (n : Bs) : pAt ((Tb.new.runs sub 0 l).hist n) (-1) = (zero32, false) := by
  obtain ⟨y, h3, h4⟩ := runs_hist sub n l Tb.new 0
  refine pAt_none _ _ (fun c hc => ?_)
  rw [h3] at hc
  have hc2 : c ∈ y := by simpa [Tb.new] using hc
  have := h4 c hc2
  omega
end Go.Proofs.YtcddlemkimbkcaaGreatDoor
namespace Go.Proofs.YtcddlemkimbkcaaGreatDoor
set_option linter.unusedVariables false
set_option linter.unusedSimpArgs false
set_option linter.unusedSectionVars false
open Go.RowKit Go.Shelf
variable [OldK]
attribute [local go_sem] Oper.semAt_some
/-- the changes as they are yielded: the last one first -/
def ncList (l : List Chg) : List (Nat × Chg) := (l.zipIdx 0).reverse.map (fun p => (p.2, p.1))
theorem ncList_len (l : List Chg) : (ncList l).length = l.length := by simp [ncList]
theorem ncList_at (l : List Chg) (j : Nat) (x : Nat × Chg) (h : (ncList l)[j]? = some x) : x.1 = l.length - 1 - j ∧ l[x.1]? = some x.2 := by
  have hj : j < l.length := by rw [← ncList_len]; exact (List.getElem?_eq_some_iff.1 h).1
  unfold ncList at h
  rw [List.getElem?_map, List.getElem?_reverse (by simpa using hj), List.length_zipIdx, List.getElem?_zipIdx] at h
  rw [List.getElem?_eq_getElem (by omega)] at h
  simp only [Option.map_some, Option.some.injEq] at h
  subst h
  simp only [Nat.zero_add]
  exact ⟨trivial, List.getElem?_eq_getElem (by omega)⟩
theorem ncList_snd (l : List Chg) : (ncList l).map (·.2) = l.reverse := by
  unfold ncList
  rw [List.map_map]
  have : ((fun x : Nat × Chg => x.2) ∘ fun p : Chg × Nat => (p.2, p.1)) = fun p => p.1 := rfl
  rw [this, List.map_reverse, List.zipIdx_map_fst]
theorem pAt_some {l : List Chg} {p : Int} {ini rest : List (Nat × Chg)} {x : Nat × Chg} (h : ncList l = ini ++ x :: rest) (h1 : ∀ y ∈ ini, ¬ y.2.pos ≤ p) (h2 : x.2.pos ≤ p) : pAt l p = (x.2.key, x.2.has) := by
  unfold pAt
  rw [← ncList_snd, h, List.map_append, List.find?_append]
  have : (ini.map (·.2)).find? (fun c => decide (c.pos ≤ p)) = none := by
    rw [List.find?_eq_none]
    intro c hc
    obtain ⟨y, hy, rfl⟩ := List.mem_map.1 hc
    simpa using h1 y hy
  rw [this]
  simp [h2]
theorem pAt_nothing {l : List Chg} {p : Int} (h1 : ∀ y ∈ ncList l, ¬ y.2.pos ≤ p) : pAt l p = (zero32, false) := by
  unfold pAt
  rw [← ncList_snd]
  have : ((ncList l).map (·.2)).find? (fun c => decide (c.pos ≤ p)) = none := by
    rw [List.find?_eq_none]
    intro c hc
    obtain ⟨y, hy, rfl⟩ := List.mem_map.1 hc
    simpa using h1 y hy
  rw [this]
/-- a change of 32 bytes in any case -/
def Chg.nrm (c : Chg) : Chg := if c.cells.length = 34 then c else Chg.zero
theorem Chg.nrm_ok (c : Chg) : c.nrm.ok := by
  unfold Chg.nrm
  split
  · rename_i h
    simp only [Chg.cells, List.length_append, byteCells_len, List.length_cons, List.length_nil] at h
    show c.key.length = 32
    omega
  · rfl
theorem Chg.enc_nrm (c : Chg) : c.enc = c.nrm.cells := by
  unfold Chg.enc Chg.nrm
  split
  · rfl
  · rfl
theorem Chg.nrm_eq {c : Chg} (h : c.ok) : c.nrm = c := if_pos (Chg.size h)
theorem setCells_block {b : Nat} {e : TypeId} {f : Nat × Nat} : ∀ (vs : List Value) (o : Nat) (w : World) (cs : Array Value), w.heap[b]? = some (.cells cs e f) → ∃ cs', (w.setCells b o vs).heap[b]? = some (.cells cs' e f)
  | [], _, _, _, h => ⟨_, h⟩
  | v :: r, o, w, cs, h => by
    rw [World.setCells]
    exact setCells_block r (o + 1) _ _ (heap_setCell_eq v h)
theorem results_cell2 {fn : Func} {p q : Tmp} {ty ty' : TypeId} (h : fn.results = #[.cell p ty, .cell q ty']) (tmps : Array Value) (P : Program) (w : World) :
    (results fn tmps).run P w = ((asAddr (tmps.getD p undef)).run P w).andThen fun a w₁ => ((loadVar ty a).run P w₁).andThen fun v w₂ => ((asAddr (tmps.getD q undef)).run P w₂).andThen fun b w₃ => ((loadVar ty' b).run P w₃).andThen fun u w₄ => .ok (.tuple #[v, u]) w₄ := by
  simp only [results, h]
  simp [Sem.run_bind, Result.andThen]
theorem Tryz.loadBool (w : World) (b : Nat) (x : Bool) (h : w.cell? ⟨b, 0, none⟩ = some (.bool x)) : (loadVar 4 ⟨b, 0, none⟩).run Tryz.prog w = .ok (.bool x) w := by
  simp [go_sem, h]
/-- none of these is of this place or an earlier one -/
def AtI (place : Int) (pre : List (Nat × Chg)) : Prop := ∀ y ∈ pre, ¬ (Chg.nrm y.2).pos ≤ place
/-- the last of these is the first that is, and it has been written -/
def AtX (h : Nat) (place : Int) (pre : List (Nat × Chg)) (W : World) : Prop := ∃ ini x, pre = ini ++ [x] ∧ AtI place ini ∧ (Chg.nrm (Prod.snd x)).pos ≤ place ∧ (∃ cs, W.heap[h + 1]? = some (.cells cs 24 (0, 0))) ∧ W.rangeAt (h + 1) 0 (Lib.byteCells (Chg.nrm x.2).key) ∧ W.heap[h + 1 + 1]? = some (.cells #[.bool (Chg.nrm x.2).has] 4 (0, 0))
section
variable {F : Fence} {nF : Nat} {P : Program} {ops : Array Oper} {rest : List Oper} {op : Oper} {a : Act} {w : World} {Q : Exit → Act → World → Prop}
/-- a store of many cells, inside a fence -/
theorem wpListIn_store_mid (hgd : op.guard = none) (ty : TypeId) (x y : Operand) (ho : op.op = .store ty x y) (b o : Nat) (cells : Array Value)
    (hx : a.eval x = .pointer (some ⟨b, o, none⟩)) (hy : a.eval y = .agg cells) (ht : w.there b o cells.size) (hi : (P.info? ty).map (·.size) = some cells.size) (h1 : cells.all (·.oneCell') = true)
    (h : wpListIn F nF P ops Q rest (a.put op.dst undef) (w.setCells b o cells.toList)) : wpListIn F nF P ops Q (op :: rest) a w := by
  refine wpListIn_plain hgd fun K hK => ?_
  unfold Oper.wpIn
  refine ⟨by simp [Oper.about, ho], ?_⟩
  rw [Oper.semAt_plain F _ _ (by rw [ho]; intro c hc'; cases hc')]
  simp only [execOp, ho, hx, hy]
  rw [Sem.run_bind, run_storeAt_mid w b o ty cells ht hi h1]
  exact hK _ _ h
/-- a zero value made, inside a fence -/
theorem wpListIn_build0 (hgd : op.guard = none) (ty : TypeId) (v : Value) (ho : op.op = .build ty #[]) (hb : (Instr.build ty #[]).run P w = .ok v w)
    (h : wpListIn F nF P ops Q rest (a.put op.dst v) w) : wpListIn F nF P ops Q (op :: rest) a w := by
  refine wpListIn_plain hgd fun K hK => ?_
  unfold Oper.wpIn
  refine ⟨by simp [Oper.about, ho], ?_⟩
  rw [Oper.semAt_plain F _ _ (by rw [ho]; intro c hc'; cases hc')]
  simp only [execOp, ho]
  rw [Sem.run_bind, show (#[].map fun (x : Nat × Operand) => (x.1, a.eval x.2)) = #[] by simp, hb]
  exact hK _ _ h
end
theorem z32s' : (Tryz.prog.info? 24).map (·.size) = some (#[.int .u8 0, .int .u8 0, .int .u8 0, .int .u8 0, .int .u8 0, .int .u8 0, .int .u8 0, .int .u8 0, .int .u8 0, .int .u8 0, .int .u8 0, .int .u8 0, .int .u8 0, .int .u8 0, .int .u8 0, .int .u8 0, .int .u8 0, .int .u8 0, .int .u8 0, .int .u8 0, .int .u8 0, .int .u8 0, .int .u8 0, .int .u8 0, .int .u8 0, .int .u8 0, .int .u8 0, .int .u8 0, .int .u8 0, .int .u8 0, .int .u8 0, .int .u8 0] : Array Value).size := by kernel_rfl
theorem z32a' : (#[.int .u8 0, .int .u8 0, .int .u8 0, .int .u8 0, .int .u8 0, .int .u8 0, .int .u8 0, .int .u8 0, .int .u8 0, .int .u8 0, .int .u8 0, .int .u8 0, .int .u8 0, .int .u8 0, .int .u8 0, .int .u8 0, .int .u8 0, .int .u8 0, .int .u8 0, .int .u8 0, .int .u8 0, .int .u8 0, .int .u8 0, .int .u8 0, .int .u8 0, .int .u8 0, .int .u8 0, .int .u8 0, .int .u8 0, .int .u8 0, .int .u8 0, .int .u8 0] : Array Value).all (·.oneCell') = true := by kernel_rfl
set_option maxRecDepth 100000 in
set_option maxHeartbeats 4000000 in
theorem at_in {base tb n bc bl : Nat} {t : Tb} {g lv : Bs → Option Value} (x : Bs) (place : Int) (w : World) (h : TBL base tb n bc bl t g lv w) (hx : x.length ≤ maxLen) (hn : n ≤ 1000000) :
    CallsIn Fence.wide 5 Tryz.prog 32 #[.pointer (some ⟨tb, 0, none⟩), .string ⟨x.toArray⟩, .int .i64 place] w fun e w' => e = .returned (.tuple #[.agg (Lib.byteCells (pAt (t.hist x) place).1).toArray, .bool (pAt (t.hist x) place).2]) ∧ Fr NoB w w' := by
  obtain ⟨W0, hW0⟩ : ∃ W0, ((w.alloc (.cells #[.int .i64 place] 3)).alloc (.cells #[.int .u8 0, .int .u8 0, .int .u8 0, .int .u8 0, .int .u8 0, .int .u8 0, .int .u8 0, .int .u8 0, .int .u8 0, .int .u8 0, .int .u8 0, .int .u8 0, .int .u8 0, .int .u8 0, .int .u8 0, .int .u8 0, .int .u8 0, .int .u8 0, .int .u8 0, .int .u8 0, .int .u8 0, .int .u8 0, .int .u8 0, .int .u8 0, .int .u8 0, .int .u8 0, .int .u8 0, .int .u8 0, .int .u8 0, .int .u8 0, .int .u8 0, .int .u8 0] 24)).alloc (.cells #[.bool false] 4) = W0 := ⟨_, rfl⟩
  have hs0 : W0.heap.size = w.heap.size + 3 := by rw [← hW0]; simp
  have hF0 : Fr NoB w W0 := by rw [← hW0]; exact ((Fr.refl.alloc _).alloc _).alloc _
  have hBel0 : Below w.heap.size w W0 := by rw [← hW0]; exact (((Below.refl _ w).alloc (Nat.le_refl _) _).alloc (by simp) _).alloc (by simp; try omega) _
  have hb0 : W0.heap[w.heap.size]? = some (.cells #[.int .i64 place] 3 (0, 0)) := by
    rw [← hW0]
    exact ((Fr.refl (M := NoB)).alloc _ |>.alloc _).block _ _ (heap_alloc_new w _) (fun h => h)
  have hb1 : W0.heap[w.heap.size + 1]? = some (.cells #[.int .u8 0, .int .u8 0, .int .u8 0, .int .u8 0, .int .u8 0, .int .u8 0, .int .u8 0, .int .u8 0, .int .u8 0, .int .u8 0, .int .u8 0, .int .u8 0, .int .u8 0, .int .u8 0, .int .u8 0, .int .u8 0, .int .u8 0, .int .u8 0, .int .u8 0, .int .u8 0, .int .u8 0, .int .u8 0, .int .u8 0, .int .u8 0, .int .u8 0, .int .u8 0, .int .u8 0, .int .u8 0, .int .u8 0, .int .u8 0, .int .u8 0, .int .u8 0] 24 (0, 0)) := by
    rw [← hW0]
    have := heap_alloc_new (w.alloc (.cells #[.int .i64 place] 3)) (.cells #[.int .u8 0, .int .u8 0, .int .u8 0, .int .u8 0, .int .u8 0, .int .u8 0, .int .u8 0, .int .u8 0, .int .u8 0, .int .u8 0, .int .u8 0, .int .u8 0, .int .u8 0, .int .u8 0, .int .u8 0, .int .u8 0, .int .u8 0, .int .u8 0, .int .u8 0, .int .u8 0, .int .u8 0, .int .u8 0, .int .u8 0, .int .u8 0, .int .u8 0, .int .u8 0, .int .u8 0, .int .u8 0, .int .u8 0, .int .u8 0, .int .u8 0, .int .u8 0] 24)
    rw [World.size_alloc] at this
    exact ((Fr.refl (M := NoB)).alloc _).block _ _ this (fun h => h)
  have hb2 : W0.heap[w.heap.size + 2]? = some (.cells #[.bool false] 4 (0, 0)) := by
    rw [← hW0]
    have := heap_alloc_new ((w.alloc (.cells #[.int .i64 place] 3)).alloc (.cells #[.int .u8 0, .int .u8 0, .int .u8 0, .int .u8 0, .int .u8 0, .int .u8 0, .int .u8 0, .int .u8 0, .int .u8 0, .int .u8 0, .int .u8 0, .int .u8 0, .int .u8 0, .int .u8 0, .int .u8 0, .int .u8 0, .int .u8 0, .int .u8 0, .int .u8 0, .int .u8 0, .int .u8 0, .int .u8 0, .int .u8 0, .int .u8 0, .int .u8 0, .int .u8 0, .int .u8 0, .int .u8 0, .int .u8 0, .int .u8 0, .int .u8 0, .int .u8 0] 24)) (.cells #[.bool false] 4)
    rw [World.size_alloc, World.size_alloc] at this
    exact this
  have hT := h.keep hF0
  have hkeys := h.keys x
  have hfew : (t.hist x).length ≤ 1000000 := Nat.le_trans (h.few x) hn
  have hhist := history_c x W0 hT hx hn
  have Hhist := Lib.hid (callsIn_wide (n := 4) |>.2 hhist)
  have HF0 := Lib.hid hF0
  have HBel0 := Lib.hid hBel0
  have Hb0 := Lib.hid hb0
  have Hb1 := Lib.hid hb1
  have Hb2 := Lib.hid hb2
  have Hkeys := Lib.hid hkeys
  have HW0 := Lib.hid hW0
  have Hs0 := Lib.hid hs0
  clear hF0 hBel0 hb0 hb1 hb2 hT hkeys hW0 hs0 hhist h
  obtain ⟨R, hR⟩ : ∃ R, pAt (t.hist x) place = R := ⟨_, rfl⟩
  rw [hR]
  have HR := Lib.hid hR
  clear hR
  refine callsIn_of_wp_marks Tryz.func32 rfl trivial ?_ rfl
  simp only [Tryz.ntmps32, List.size_toArray, List.length_cons, List.length_nil, Nat.reduceAdd, Nat.reduceSub, Array.replicate_succ, Array.replicate_zero, List.push_toArray, List.append_toArray, List.nil_append, List.cons_append]
  gi_wp2_with fail
  rw [HW0.out]
  refine ⟨trivial, ?_⟩
  refine Hhist.out.mono ?_
  rintro e W1 ⟨v', rfl, h1, h2⟩
  have hvf : ∃ sa cp, v' = .slice sa (t.hist x).length cp := by
    rcases row_form h1 with ⟨rfl, h0⟩ | ⟨gb, cap, rfl, -⟩
    · rw [h0]; exact ⟨_, _, rfl⟩
    · exact ⟨_, _, rfl⟩
  obtain ⟨sa, cp, rfl⟩ := hvf
  have hbw := (callsIn_wide (n := 4)).2 (backward_c sa (t.hist x).length cp W1)
  have H1 := Lib.hid h1
  have H2 := Lib.hid h2
  have Hbw := Lib.hid hbw
  clear h1 h2 hbw Hhist
  gi_wp2_with fail
  refine ⟨trivial, ?_⟩
  refine Hbw.out.mono ?_
  rintro e w' ⟨rfl, rfl⟩
  obtain ⟨W2, hW2⟩ : ∃ W2, W1.alloc (.cells #[.slice sa (t.hist x).length cp] 110) = W2 := ⟨_, rfl⟩
  obtain ⟨Bs, hBs⟩ : ∃ B, W1.heap.size = B := ⟨_, rfl⟩
  have hF2 : Fr NoB W0 W2 := by rw [← hW2]; exact H2.out.alloc _
  have hs2 : W2.heap.size = Bs + 1 := by rw [← hW2, World.size_alloc, hBs]
  have hs1 := H2.out.size
  rw [hBs] at hs1
  have hBelW : Below w.heap.size w W2 := (HF0.out.trans' hF2).below (Nat.le_refl _) (fun _ _ _ h => h.elim)
  have hc0 := hF2.block _ _ Hb0.out (fun h => h)
  have hc1 := hF2.block _ _ Hb1.out (fun h => h)
  have hc2 := hF2.block _ _ Hb2.out (fun h => h)
  have hcs : W2.cell? ⟨Bs, 0, none⟩ = some (.slice sa (t.hist x).length cp) := by
    have := heap_alloc_new W1 (.cells #[.slice sa (t.hist x).length cp] 110)
    rw [hW2, hBs] at this
    simp [World.cell?, this]
  have hxs : (ncList (t.hist x)).length = 0 ∨ ∃ gb, sa = some ⟨gb, 0, none⟩ ∧ BkRow W2.heap.size gb (ncList (t.hist x)).length (ncList (t.hist x)) W2 := by
    rcases row_form H1.out with ⟨-, h0⟩ | ⟨gb, cap, e1, e2, e3, -⟩
    · exact .inl (by rw [ncList_len]; exact h0)
    · injection e1 with e1 e4 e5
      subst e1
      refine .inr ⟨gb, rfl, by omega, fun j y hy => ?_⟩
      obtain ⟨a1, a2⟩ := ncList_at _ _ _ hy
      rw [ncList_len]
      refine ⟨a1, ?_⟩
      have hr := row_chg (n := (t.hist x).length) (cap := cp) H1.out Hkeys.out y.1 y.2 a2
      rw [← hW2]
      exact range_fr hr ((Fr.refl (M := NoB)).alloc _) e3 (fun _ h => h)
  have hxok : ∀ y ∈ ncList (t.hist x), y.2.ok := fun y hy => by
    refine Hkeys.out _ ?_
    have : y.2 ∈ (ncList (t.hist x)).map (·.2) := List.mem_map_of_mem hy
    rw [ncList_snd] at this
    simpa using this
  rw [← ncList_len (t.hist x)] at hcs
  gi_wp2_with fail
  have Hc0 := Lib.hid hc0
  have Hc1 := Lib.hid hc1
  have Hc2 := Lib.hid hc2
  have Hs0' := Hs0.out
  have HBelW := Lib.hid hBelW
  have Hxs := Lib.hid hxs
  have Hxok := Lib.hid hxok
  clear hc0 hc1 hc2 hBelW HBel0 Hb0 Hb1 Hb2 hF2 H1 H2 HF0 HW0 hW2 hBs
  refine wpIn_rangeFunc_ownH (w := W2) rfl (by omega) (gf := 115) (lb := #[.pointer (some ⟨Bs, 0, none⟩)]) rfl trivial (enters_of Tryz.func115 (by kernel_rfl) rfl)
    (back_stops Fence.wide 4 trivial rfl (by omega) Bs W2.heap.size cp sa (ncList (t.hist x)) (by rw [ncList_len]; omega) hxok W2 (by omega) (Nat.le_refl _) hcs hxs)
    belowK_t (belowK_b (Nat.le_refl _)) (Below.refl _ _) (fun _ => rfl)
    (fun pre W => AtI place pre ∧ Below W2.heap.size W2 W)
    (fun c pre W => (c = .ret ∧ AtX w.heap.size place pre W) ∧ Below w.heap.size w W)
    (OwnFrom.and (ownFrom_pure _ (AtI place)) (ownFrom_below (Nat.le_refl _) (Nat.le_refl _)))
    (fun c s A B row hs hg hr => by
      obtain ⟨⟨hc, ini, x, e1, e2, e3, ⟨cs, b1⟩, b2, b3⟩, hB⟩ := hs
      have b1' := own_block (β := Unit) _ _ _ _ () A B row b1 hg (fun r e => (hr r e).2)
      exact ⟨⟨hc, ini, x, e1, e2, e3, ⟨cs, b1'⟩, range_same b2 (b1'.trans b1.symm), own_block (β := Unit) _ _ _ _ () A B row b3 hg (fun r e => (hr r e).2)⟩, ownFrom_below (β := Unit) (n₀ := w.heap.size) (B := W2.heap.size) (w₀ := w) (Nat.le_refl _) (by omega) () A B row hB hg hr⟩)
    ⟨(fun y h => by cases h), Below.refl _ _⟩
    (fun (y : Nat × Chg) a' W => ∃ Bx, W2.heap.size ≤ Bx ∧ W.heap[Bx]? = some (.cells (Prod.snd y).enc.toArray 117 (0, 0)) ∧ a' = { tmps := #[.pointer (some ⟨tb, 0, none⟩), .string ⟨x.toArray⟩, .int .i64 place, undef, undef, .pointer (some ⟨w.heap.size, 0, none⟩), .pointer (some ⟨w.heap.size + 1, 0, none⟩), .pointer (some ⟨w.heap.size + 1 + 1, 0, none⟩), undef, .pointer (some ⟨Bx, 0, none⟩), .pointer (some ⟨tb, 0, none⟩), .string ⟨x.toArray⟩, .slice sa (t.hist x).length cp, .func (.func 115) #[] #[.pointer (some ⟨Bs, 0, none⟩)], .int .i64 ((y.1 : Nat) : Int), .agg (Prod.snd y).enc.toArray, undef, undef, undef, undef, undef, undef, undef, undef, undef], defers := [] })
    (fun y a' s A B row hs hg hr => by
      obtain ⟨Bx, h1, h2, h3⟩ := hs
      exact ⟨Bx, h1, own_block (β := Unit) _ _ _ _ () A B row h2 hg (fun r e => (hr r e).2), h3⟩) ?assign ?body ?done ?stop
  case assign =>
    rintro l pre y W K ⟨hp, hB⟩ hK
    have Hp := Lib.hid hp
    have HB := Lib.hid hB
    have HK := Lib.hid hK
    have HC1 := Lib.hid (Chg.enc_one y.2)
    have Hs2 : Hid ((Tryz.prog.info? 117).map (·.size) = some y.2.enc.toArray.size) := Lib.hid (by rw [Tryz.sizeChg, List.size_toArray, Chg.enc_len])
    have Hs3 : Hid (chgZ.size = y.2.enc.toArray.size) := Lib.hid (by rw [show y.2.enc.toArray.size = 34 by rw [List.size_toArray, Chg.enc_len]]; rfl)
    clear hp hB hK
    unfold ncArgs
    gi_wp2_with (refine wpListIn_store_new rfl 117 _ _ rfl chgZ y.2.enc.toArray rfl rfl Hs2.out Hs3.out HC1.out ?_)
    exact HK.out _ _ ((KeepsOthers.alloc _ _).from _) ((Below.refl _ W).alloc HB.out.size _) ⟨Hp.out, HB.out.alloc HB.out.size _⟩ ⟨W.heap.size, HB.out.size, heap_alloc_new W _, rfl⟩
  case body =>
    rintro l pre y a' W hl ⟨r, hr⟩ ⟨hp, hB⟩ ⟨Bx, hBx, hbx, rfl⟩ hlt
    obtain ⟨c, hc⟩ : ∃ c, y.2.nrm = c := ⟨_, rfl⟩
    have hcok : c.ok := by rw [← hc]; exact Chg.nrm_ok _
    have hen : y.2.enc = c.cells := by rw [Chg.enc_nrm, hc]
    rw [hen] at hbx ⊢
    have hq := range_block hbx
    rw [List.toList_toArray, chg_cells, range_append, range_append, range_one, range_one] at hq
    obtain ⟨q0, q1, q2⟩ := hq
    simp only [List.length_cons, List.length_nil, Nat.zero_add, Nat.reduceAdd] at q1 q2
    have hw0 := (hB.block _ (by omega)).trans Hc0.out
    have hw1 := (hB.block _ (by omega)).trans Hc1.out
    have hw2 := (hB.block (w.heap.size + 1 + 1) (by omega)).trans Hc2.out
    have p0 : W.cell? ⟨w.heap.size, 0, none⟩ = some (.int .i64 place) := by simp [World.cell?, hw0]
    have hkl : (Lib.byteCells c.key).length = 32 := by rw [byteCells_len]; exact hcok
    have hk1 := all_oneCell_toArray (cells_one c.key)
    obtain ⟨KC, hK⟩ : ∃ KC, Lib.byteCells c.key = KC := ⟨_, rfl⟩
    rw [hK] at q2 hkl hk1
    have HK := Lib.hid hK
    have Hkz : Hid ((Tryz.prog.info? 24).map (·.size) = some KC.length) := Lib.hid (by rw [Tryz.sizeKey, hkl])
    have Hkz2 : Hid ((Tryz.prog.info? 24).map (·.size) = some KC.toArray.size) := Lib.hid (by rw [Tryz.sizeKey, List.size_toArray, hkl])
    have Hk1 := Lib.hid hk1
    have HT : Hid (W.there (w.heap.size + 1) 0 KC.toArray.size) := Lib.hid (by rw [show KC.toArray.size = 32 by rw [List.size_toArray, hkl]]; exact there_block hw1 (Nat.le_refl _))
    have Hp := Lib.hid hp
    have HB := Lib.hid hB
    have Hw1 := Lib.hid hw1
    have Hw2 := Lib.hid hw2
    have Hc := Lib.hid hc
    have HQ := Lib.hid q2
    have HbW := Lib.hid (get_lt hbx)
    have hBn : Bx ≠ w.heap.size + 1 ∧ Bx ≠ w.heap.size + 1 + 1 := by omega
    have HBn := Lib.hid hBn
    obtain ⟨ph, hph⟩ : ∃ b, c.has = b := ⟨_, rfl⟩
    have Hph := Lib.hid hph
    rw [hph] at q1
    obtain ⟨CC, hCC⟩ : ∃ C, c.cells.toArray = C := ⟨_, rfl⟩
    rw [hCC]
    clear hp hB hw0 hw1 hw2 hbx hl hr hBx hc q2 hkl hk1 hK hBn hph hCC hen hcok
    by_cases hle : c.pos ≤ place
    · have hle' : decide (c.pos ≤ place) = true := decide_eq_true hle
      have Hle := Lib.hid hle
      clear hle
      gi_wp2_with fail
      refine wpIn_region_held_drew (S := fun V => Hid (Fr (fun k _ => k = w.heap.size + 1 ∨ k = w.heap.size + 1 + 1) W V)) (by kernel_rfl) (by kernel_rfl) (Lib.hid Fr.refl.drew) (fun hHeld => ?_)
      simp only [List.size_toArray, List.length_cons, List.length_nil]
      refine wpAnyH_take (i := 0) (v := ?_) rfl (by kernel_rfl) (by kernel_rfl) (by kernel_rfl) (fun _ _ _ h => h) (Or.inl ⟨by rfl, ?_⟩) hHeld ?_
      rotate_left
      · intro W hSw
        have h1 := Fr.cell hSw.out q1 (fun _ h => h.elim HBn.out.1 HBn.out.2)
        try simp only [qG, qG0, qG1]
        go_simp
        try rw [if_neg (by omega)]
        try with_reducible rfl
      try simp only [Act.put, qS, qS0, qS1, qG, qG0, qG1]
      refine wpAnyH_take (i := 1) rfl (by kernel_rfl) (by kernel_rfl) (by kernel_rfl) (fun _ _ _ h => h) (yieldsIf_load_mid (by rfl) 24 _ rfl Bx 2 rfl KC (.array 32 5) (fun V h => range_fr HQ.out h.out HbW.out (fun _ h => h.elim HBn.out.1 HBn.out.2)) Tryz.underKey rfl Hkz.out) hHeld ?_
      try simp only [Act.put, qS, qS0, qS1, qG, qG0, qG1]
      refine wpAnyH_take (i := 2) (v := ?_) rfl (by kernel_rfl) (by kernel_rfl) (by kernel_rfl) (fun _ _ _ h => h) (Or.inl ⟨by rfl, ?_⟩) hHeld ?_
      rotate_left
      · intro W hSw
        have h1 := Fr.cell hSw.out q1 (fun _ h => h.elim HBn.out.1 HBn.out.2)
        try simp only [qG, qG0, qG1]
        go_simp
        try rw [if_neg (by omega)]
        try with_reducible rfl
      try simp only [Act.put, qS, qS0, qS1, qG, qG0, qG1]
      refine wpAnyH_take (i := 3) (v := ?_) rfl (by kernel_rfl) (by kernel_rfl) (by kernel_rfl) (fun _ _ _ h => h) (Or.inl ⟨by rfl, ?_⟩) hHeld ?_
      rotate_left
      · intro W hSw
        have h1 := Fr.cell hSw.out q1 (fun _ h => h.elim HBn.out.1 HBn.out.2)
        try simp only [qG, qG0, qG1]
        go_simp
        try rw [if_neg (by omega)]
        try with_reducible rfl
      try simp only [Act.put, qS, qS0, qS1, qG, qG0, qG1]
      refine wpAnyH_ready (rs := [4]) (by kernel_rfl) (by simp) (AllReadyH.cons rfl (fun K hK => ?_) AllReadyH.nil)
      try simp only [qG, qG0, qG1]
      rw [if_pos (by rfl)]; refine wp_store_mid 24 (.tmp 6) (.tmp 21) (by rfl) (w.heap.size + 1) 0 KC.toArray (by rfl) (by rfl) HT.out Hkz2.out Hk1.out ?_
      refine hK.out _ _ (Lib.hid (hHeld.out.trans' ((setCells_fr (w.heap.size + 1) _ _ _).mono (fun _ _ h => .inl h)))) (fun hHeld => ?_)
      clear hK K
      try simp only [Act.put, qS, qS0, qS1, qG, qG0, qG1]
      obtain ⟨cs4, hb4⟩ := setCells_block (b := w.heap.size + 1) KC.toArray.toList 0 W.drew _ Hw1.out
      have hr4 := World.rangeAt_setCells_same W.drew (w.heap.size + 1) 0 KC.toArray.toList (by have := HT.out; simpa using this)
      have hc4 : (W.drew.setCells (w.heap.size + 1) 0 KC.toArray.toList).heap[w.heap.size + 1 + 1]? = some (.cells #[.bool false] 4 (0, 0)) := (setCells_fr (w.heap.size + 1) KC.toArray.toList 0 W.drew).block _ _ Hw2.out (fun h => by omega)
      obtain ⟨W4, hW4⟩ : ∃ V, W.drew.setCells (w.heap.size + 1) 0 KC.toArray.toList = V := ⟨_, rfl⟩
      rw [hW4] at hb4 hr4 hc4 hHeld ⊢
      rw [List.toList_toArray] at hr4
      have s0 : W4.cell? ⟨w.heap.size + 1 + 1, 0, none⟩ = some (.bool false) := by simp [World.cell?, hc4]
      have sz : W4.frozen? ⟨w.heap.size + 1 + 1, 0, none⟩ = false := by simp [World.frozen?, hc4]
      have Hb4 := Lib.hid hb4
      have Hr4 := Lib.hid hr4
      have Hc4 := Lib.hid hc4
      clear hb4 hr4 hc4 hW4
      refine wpAnyH_ready (rs := [5]) (by kernel_rfl) (by simp) (AllReadyH.cons rfl (fun K hK => ?_) AllReadyH.nil)
      try simp only [qG, qG0, qG1]
      go_simp
      skip
      refine hK.out _ _ (Lib.hid (hHeld.out.setCell _ _ (fun _ _ => .inr rfl))) (fun hHeld => ?_)
      clear hK K
      try simp only [Act.put, qS, qS0, qS1, qG, qG0, qG1]
      refine wpAnyH_done (by kernel_rfl) ?_ _
      simp only [OnlyEnd]
      gi_wp2_with fail
      have hF5 := hHeld.out
      have hsW := HB.out.size
      have hB5 : Below w.heap.size W (W4.setCell ⟨w.heap.size + 1 + 1, 0, none⟩ (.bool ph)) := hF5.below (by have := HBelW.out.size; omega) (fun k o hk hm => by omega)
      have h41 : (W4.setCell ⟨w.heap.size + 1 + 1, 0, none⟩ (.bool ph)).heap[w.heap.size + 1]? = some (.cells cs4 24 (0, 0)) := (Below.heap_setCell _ _ _ _ (by simp)).trans Hb4.out
      refine ⟨⟨hF5.size, fun k o hk hko _ => hF5.block k o hko (by omega)⟩, ⟨rfl, by unfold AtX; refine ⟨pre, y, rfl, Hp.out, by rw [Hc.out]; exact Hle.out, ⟨cs4, h41⟩, by rw [Hc.out, HK.out]; exact range_same Hr4.out (h41.trans Hb4.out.symm), by rw [Hc.out, Hph.out]; exact heap_setCell_eq (o := 0) (.bool ph) Hc4.out⟩⟩, (HBelW.out.trans (HB.out.mono (by omega))).trans hB5⟩
    · have hle' : decide (c.pos ≤ place) = false := decide_eq_false hle
      have Hle := Lib.hid hle
      clear hle
      gi_wp2
      exact ⟨KeepsFrom.refl _ _, Below.refl _ _, ⟨fun y' hy => (List.mem_append.1 hy).elim (Hp.out y') (fun e => by rw [List.mem_singleton.1 e, Hc.out]; exact Int.not_le.2 Hle.out), by have h := HB.out; rw [hs2] at h; exact h⟩⟩
  case done =>
    rintro D ys W hD rfl ⟨hne, hB⟩ hK
    have hw1 := (hB.block _ (by omega)).trans Hc1.out
    have hw2 := (hB.block (w.heap.size + 1 + 1) (by omega)).trans Hc2.out
    have hno : R = (zero32, false) := HR.out.symm.trans <| pAt_nothing (fun y hy => by have := hne y hy; rwa [Chg.nrm_eq (Hxok.out y hy)] at this)
    subst hno
    have HT : Hid (W.there (w.heap.size + 1) 0 (#[.int .u8 0, .int .u8 0, .int .u8 0, .int .u8 0, .int .u8 0, .int .u8 0, .int .u8 0, .int .u8 0, .int .u8 0, .int .u8 0, .int .u8 0, .int .u8 0, .int .u8 0, .int .u8 0, .int .u8 0, .int .u8 0, .int .u8 0, .int .u8 0, .int .u8 0, .int .u8 0, .int .u8 0, .int .u8 0, .int .u8 0, .int .u8 0, .int .u8 0, .int .u8 0, .int .u8 0, .int .u8 0, .int .u8 0, .int .u8 0, .int .u8 0, .int .u8 0] : Array Value).size) := Lib.hid (there_block hw1 (Nat.le_refl _))
    obtain ⟨cs4, hb4⟩ := setCells_block (b := w.heap.size + 1) (#[.int .u8 0, .int .u8 0, .int .u8 0, .int .u8 0, .int .u8 0, .int .u8 0, .int .u8 0, .int .u8 0, .int .u8 0, .int .u8 0, .int .u8 0, .int .u8 0, .int .u8 0, .int .u8 0, .int .u8 0, .int .u8 0, .int .u8 0, .int .u8 0, .int .u8 0, .int .u8 0, .int .u8 0, .int .u8 0, .int .u8 0, .int .u8 0, .int .u8 0, .int .u8 0, .int .u8 0, .int .u8 0, .int .u8 0, .int .u8 0, .int .u8 0, .int .u8 0] : Array Value).toList 0 W _ hw1
    have hr4 := World.rangeAt_setCells_same W (w.heap.size + 1) 0 (#[.int .u8 0, .int .u8 0, .int .u8 0, .int .u8 0, .int .u8 0, .int .u8 0, .int .u8 0, .int .u8 0, .int .u8 0, .int .u8 0, .int .u8 0, .int .u8 0, .int .u8 0, .int .u8 0, .int .u8 0, .int .u8 0, .int .u8 0, .int .u8 0, .int .u8 0, .int .u8 0, .int .u8 0, .int .u8 0, .int .u8 0, .int .u8 0, .int .u8 0, .int .u8 0, .int .u8 0, .int .u8 0, .int .u8 0, .int .u8 0, .int .u8 0, .int .u8 0] : Array Value).toList HT.out
    have hF4 := setCells_fr (w.heap.size + 1) (#[.int .u8 0, .int .u8 0, .int .u8 0, .int .u8 0, .int .u8 0, .int .u8 0, .int .u8 0, .int .u8 0, .int .u8 0, .int .u8 0, .int .u8 0, .int .u8 0, .int .u8 0, .int .u8 0, .int .u8 0, .int .u8 0, .int .u8 0, .int .u8 0, .int .u8 0, .int .u8 0, .int .u8 0, .int .u8 0, .int .u8 0, .int .u8 0, .int .u8 0, .int .u8 0, .int .u8 0, .int .u8 0, .int .u8 0, .int .u8 0, .int .u8 0, .int .u8 0] : Array Value).toList 0 W
    have hc4 := hF4.block _ _ hw2 (fun h => by omega)
    have hK4 := hF4.block _ _ hK (fun h => by omega)
    have Hb4 := Lib.hid hb4
    have Hr4 := Lib.hid hr4
    have Hc4 := Lib.hid hc4
    have HK4 := Lib.hid hK4
    have HF4 := Lib.hid hF4
    have HB := Lib.hid hB
    clear hne hB hK hw1 hw2 hb4 hr4 hc4 hK4 hF4
    have hbz : (Instr.build 24 #[]).run Tryz.prog W = .ok (.agg #[.int .u8 0, .int .u8 0, .int .u8 0, .int .u8 0, .int .u8 0, .int .u8 0, .int .u8 0, .int .u8 0, .int .u8 0, .int .u8 0, .int .u8 0, .int .u8 0, .int .u8 0, .int .u8 0, .int .u8 0, .int .u8 0, .int .u8 0, .int .u8 0, .int .u8 0, .int .u8 0, .int .u8 0, .int .u8 0, .int .u8 0, .int .u8 0, .int .u8 0, .int .u8 0, .int .u8 0, .int .u8 0, .int .u8 0, .int .u8 0, .int .u8 0, .int .u8 0]) W := run_build W 24 _ _ (by kernel_rfl)
    rename_i Q0 K0 hK0
    simp only [Exit.inBlock, Exit.then]
    refine hK0 _ _ (wpIn_seq (wpIn_region_lit (wpListIn_build0 rfl 24 (.agg #[.int .u8 0, .int .u8 0, .int .u8 0, .int .u8 0, .int .u8 0, .int .u8 0, .int .u8 0, .int .u8 0, .int .u8 0, .int .u8 0, .int .u8 0, .int .u8 0, .int .u8 0, .int .u8 0, .int .u8 0, .int .u8 0, .int .u8 0, .int .u8 0, .int .u8 0, .int .u8 0, .int .u8 0, .int .u8 0, .int .u8 0, .int .u8 0, .int .u8 0, .int .u8 0, .int .u8 0, .int .u8 0, .int .u8 0, .int .u8 0, .int .u8 0, .int .u8 0]) rfl hbz ?_)))
    refine wpListIn_store_mid rfl 24 (.tmp 6) (.tmp 24) rfl (w.heap.size + 1) 0 #[.int .u8 0, .int .u8 0, .int .u8 0, .int .u8 0, .int .u8 0, .int .u8 0, .int .u8 0, .int .u8 0, .int .u8 0, .int .u8 0, .int .u8 0, .int .u8 0, .int .u8 0, .int .u8 0, .int .u8 0, .int .u8 0, .int .u8 0, .int .u8 0, .int .u8 0, .int .u8 0, .int .u8 0, .int .u8 0, .int .u8 0, .int .u8 0, .int .u8 0, .int .u8 0, .int .u8 0, .int .u8 0, .int .u8 0, .int .u8 0, .int .u8 0, .int .u8 0] ?_ ?_ HT.out z32s' z32a' ?_
    · rfl
    · rfl
    simp only [Act.put, List.setIfInBounds_toArray, List.set_cons_zero, List.set_cons_succ, List.getElem_toArray, List.getElem_cons_zero, List.getElem_cons_succ]
    obtain ⟨W4, hW4⟩ : ∃ V, W.setCells (w.heap.size + 1) 0 (#[.int .u8 0, .int .u8 0, .int .u8 0, .int .u8 0, .int .u8 0, .int .u8 0, .int .u8 0, .int .u8 0, .int .u8 0, .int .u8 0, .int .u8 0, .int .u8 0, .int .u8 0, .int .u8 0, .int .u8 0, .int .u8 0, .int .u8 0, .int .u8 0, .int .u8 0, .int .u8 0, .int .u8 0, .int .u8 0, .int .u8 0, .int .u8 0, .int .u8 0, .int .u8 0, .int .u8 0, .int .u8 0, .int .u8 0, .int .u8 0, .int .u8 0, .int .u8 0] : Array Value).toList = V := ⟨_, rfl⟩
    rw [hW4] at Hb4 Hr4 Hc4 HK4 HF4 ⊢
    clear hW4 HT hbz
    have s0 : W4.cell? ⟨w.heap.size + 1 + 1, 0, none⟩ = some (.bool false) := by have := Hc4.out; simp [World.cell?, this]
    have sz : W4.frozen? ⟨w.heap.size + 1 + 1, 0, none⟩ = false := by have := Hc4.out; simp [World.frozen?, this]
    gi_wp2_with fail
    obtain ⟨W5, hW5⟩ : ∃ V, W4.setCell ⟨w.heap.size + 1 + 1, 0, none⟩ (.bool false) = V := ⟨_, rfl⟩
    have h52 : W5.heap[w.heap.size + 1 + 1]? = some (.cells #[.bool false] 4 (0, 0)) := by rw [← hW5]; exact heap_setCell_eq (o := 0) (.bool false) Hc4.out
    have h51 : W5.heap[w.heap.size + 1]? = some (.cells cs4 24 (0, 0)) := by rw [← hW5]; exact (Below.heap_setCell _ _ _ _ (by simp)).trans Hb4.out
    have hr5 := range_same Hr4.out (h51.trans Hb4.out.symm)
    have hK5 : W5.heap[D]? = some (.deferred (some [])) := by rw [← hW5]; exact (Below.heap_setCell _ _ _ _ (by simp; omega)).trans HK4.out
    have hF5 : Fr (fun k _ => k = w.heap.size + 1 ∨ k = w.heap.size + 1 + 1) W W5 := by rw [← hW5]; exact (HF4.out.mono (fun _ _ h => .inl h)).setCell _ _ (fun _ _ => .inr rfl)
    rw [hW5]
    have hB5 : Below w.heap.size W W5 := hF5.below (by have := HB.out.size; have := HBelW.out.size; omega) (fun k o hk hm => by omega)
    have hbp : Below w.heap.size w (W5.putObj D (.deferred none)) := ((HBelW.out.trans (HB.out.mono (by omega))).trans hB5).trans (belowK_b (w := W2) (by omega) W5 D _ _ hD hK5 rfl rfl)
    have m1 := own_block (β := Unit) _ _ _ _ () _ _ _ h51 (grownBy_putObj' W5 D (.deferred none)) (fun r e => by cases e; exact ⟨_, hK5, rfl⟩)
    have m2 := own_block (β := Unit) _ _ _ _ () _ _ _ h52 (grownBy_putObj' W5 D (.deferred none)) (fun r e => by cases e; exact ⟨_, hK5, rfl⟩)
    have u0 : (W5.putObj D (.deferred none)).cell? ⟨w.heap.size + 1 + 1, 0, none⟩ = some (.bool false) := by simp [World.cell?, m2]
    have hld := run_loadVar_mid (P := Tryz.prog) _ (w.heap.size + 1) 0 24 _ (.array 32 5) (range_same hr5 (m1.trans h51.symm)) Tryz.underKey rfl z32s'
    have hld2 := Tryz.loadBool _ _ _ u0
    refine ⟨by simp, .inl ⟨_, _, rfl, run_takeDeferred hK5, ?_⟩⟩
    refine ⟨.tuple #[.agg #[.int .u8 0, .int .u8 0, .int .u8 0, .int .u8 0, .int .u8 0, .int .u8 0, .int .u8 0, .int .u8 0, .int .u8 0, .int .u8 0, .int .u8 0, .int .u8 0, .int .u8 0, .int .u8 0, .int .u8 0, .int .u8 0, .int .u8 0, .int .u8 0, .int .u8 0, .int .u8 0, .int .u8 0, .int .u8 0, .int .u8 0, .int .u8 0, .int .u8 0, .int .u8 0, .int .u8 0, .int .u8 0, .int .u8 0, .int .u8 0, .int .u8 0, .int .u8 0], .bool false], ?_, rfl, Fr.ofBelow hbp⟩
    rw [results_cell2 rfl]
    simp [asAddr, Result.andThen, hld, hld2]
  case stop =>
    rintro D c pre W hD hpre ⟨⟨rfl, hX⟩, hB⟩ hK
    unfold AtX at hX
    obtain ⟨ini, y, e1, e2, e3, ⟨cs, b1⟩, b2, b3⟩ := hX
    obtain ⟨rest, hrest⟩ := hpre
    rw [e1, List.append_assoc, List.singleton_append] at hrest
    have hin : ∀ z ∈ ini, z ∈ ncList (t.hist x) := fun z hz => by rw [← hrest]; simp [hz]
    have hyo := Hxok.out y (by rw [← hrest]; simp)
    have hno : R = (y.2.key, y.2.has) := HR.out.symm.trans (pAt_some hrest.symm (fun z hz => by have := e2 z hz; rwa [Chg.nrm_eq (Hxok.out z (hin z hz))] at this) (by rwa [Chg.nrm_eq hyo] at e3))
    rw [Chg.nrm_eq hyo] at b2 b3
    subst hno
    have hbp : Below w.heap.size w (W.putObj D (.deferred none)) := hB.trans (belowK_b (w := W2) (by omega) W D _ _ hD hK rfl rfl)
    have m1 := own_block (β := Unit) _ _ _ _ () _ _ _ b1 (grownBy_putObj' W D (.deferred none)) (fun r e => by cases e; exact ⟨_, hK, rfl⟩)
    have m2 := own_block (β := Unit) _ _ _ _ () _ _ _ b3 (grownBy_putObj' W D (.deferred none)) (fun r e => by cases e; exact ⟨_, hK, rfl⟩)
    have u0 : (W.putObj D (.deferred none)).cell? ⟨w.heap.size + 1 + 1, 0, none⟩ = some (.bool y.2.has) := by simp [World.cell?, m2]
    have hld := run_loadVar_mid (P := Tryz.prog) _ (w.heap.size + 1) 0 24 (Lib.byteCells y.2.key) (.array 32 5) (range_same b2 (m1.trans b1.symm)) Tryz.underKey rfl (by rw [Tryz.sizeKey, byteCells_len]; exact congrArg some (show 32 = y.2.key.length from hyo.symm))
    have HK := Lib.hid hK
    have Hbp := Lib.hid hbp
    have Hld := Lib.hid hld
    clear hK hbp hld m1 m2 b1 b2 b3 e2 e3 hB hin hrest hyo
    gi_wp2
    refine ⟨by simp, .inl ⟨_, _, rfl, run_takeDeferred HK.out, ?_⟩⟩
    refine ⟨.tuple #[.agg (Lib.byteCells y.2.key).toArray, .bool y.2.has], ?_, rfl, Fr.ofBelow Hbp.out⟩
    have hld := Hld.out
    have hld2 := Tryz.loadBool _ _ _ u0
    rw [results_cell2 rfl]
    simp [asAddr, Result.andThen, hld, hld2]
theorem at_c {base tb n bc bl : Nat} {t : Tb} {g lv : Bs → Option Value} (x : Bs) (place : Int) (w : World) (h : TBL base tb n bc bl t g lv w) (hx : x.length ≤ maxLen) (hn : n ≤ 1000000) :
    Calls Tryz.prog 32 #[.pointer (some ⟨tb, 0, none⟩), .string ⟨x.toArray⟩, .int .i64 place] w fun e w' => e = .returned (.tuple #[.agg (Lib.byteCells (pAt (t.hist x) place).1).toArray, .bool (pAt (t.hist x) place).2]) ∧ Fr NoB w w' :=
  callsIn_wide.1 (at_in x place w h hx hn)
end Go.Proofs.YtcddlemkimbkcaaGreatDoor
namespace Go.Proofs.YtcddlemkimbkcaaGreatDoor
set_option linter.unusedVariables false
set_option linter.unusedSimpArgs false
set_option linter.unusedSectionVars false
open Go.RowKit Go.Shelf
variable [OldK]
theorem Tryz.infoKey : (Tryz.prog.info? 24).map (fun i => (i.zero, i.size, i.bytes)) = some (some (.agg #[.int .u8 0, .int .u8 0, .int .u8 0, .int .u8 0, .int .u8 0, .int .u8 0, .int .u8 0, .int .u8 0, .int .u8 0, .int .u8 0, .int .u8 0, .int .u8 0, .int .u8 0, .int .u8 0, .int .u8 0, .int .u8 0, .int .u8 0, .int .u8 0, .int .u8 0, .int .u8 0, .int .u8 0, .int .u8 0, .int .u8 0, .int .u8 0, .int .u8 0, .int .u8 0, .int .u8 0, .int .u8 0, .int .u8 0, .int .u8 0, .int .u8 0, .int .u8 0]), 32, 32) := by kernel_rfl
theorem Tryz.infoBool : (Tryz.prog.info? 4).map (fun i => (i.zero, i.size, i.bytes)) = some (some (.bool false), 1, 1) := by kernel_rfl
def kRow (ks : List (Bs × Bool)) : List Value := ks.flatMap (fun x => Lib.byteCells x.1)
def hRow (ks : List (Bs × Bool)) : List Value := ks.map (fun x => .bool x.2)
theorem nth_key (ks : List (Bs × Bool)) (hk : ∀ x ∈ ks, x.1.length = 32) : ∀ i x, ks[i]? = some x → ∀ j v, (Lib.byteCells x.1)[j]? = some v → (kRow ks)[i * 32 + j]? = some v := by
  induction ks with
  | nil => intro i x hi; cases hi
  | cons y l ih =>
    intro i x hi j v hv
    have hy : (Lib.byteCells y.1).length = 32 := by rw [byteCells_len]; exact hk y (by simp)
    unfold kRow
    rw [List.flatMap_cons]
    cases i with
    | zero =>
      obtain rfl : y = x := by simpa using hi
      rw [Nat.zero_mul, Nat.zero_add, List.getElem?_append_left (by
        have := (List.getElem?_eq_some_iff.1 hv).1
        exact this)]
      exact hv
    | succ i =>
      rw [List.getElem?_append_right (by rw [hy]; omega), hy, show (i + 1) * 32 + j - 32 = i * 32 + j by omega]
      exact ih (fun c hc => hk c (by simp [hc])) i x (by simpa using hi) j v hv
theorem row_key {w : World} {base g n cap m : Nat} {ks : List (Bs × Bool)} (h : w.ownsRow base 24 32 (.slice (some ⟨g, 0, none⟩) n cap) m (kRow ks)) (hk : ∀ x ∈ ks, x.1.length = 32) (i : Nat) (x : Bs × Bool) (hi : ks[i]? = some x) : w.rangeAt g (i * 32) (Lib.byteCells x.1) := by
  intro j v hv
  have := h.cells (g := g) rfl (i * 32 + j) v (nth_key ks hk i x hi j v hv)
  rw [Addr.add_lit] at this
  rw [Nat.zero_add] at this
  exact this
theorem row_had {w : World} {base g n cap m : Nat} {ks : List (Bs × Bool)} (h : w.ownsRow base 4 1 (.slice (some ⟨g, 0, none⟩) n cap) m (hRow ks)) (i : Nat) (x : Bs × Bool) (hi : ks[i]? = some x) : w.cell? ⟨g, i, none⟩ = some (.bool x.2) := by
  have := h.cells (g := g) rfl i (.bool x.2) (by unfold hRow; rw [List.getElem?_map, hi]; rfl)
  rw [Addr.add_lit] at this
  rw [Nat.zero_add] at this
  exact this
/-- how things lie behind n entries -/
structure PastW (base tb bc bl n : Nat) (t : Tb) (ks : List (Bs × Bool)) (vk vh : Value) (g lv : Bs → Option Value) (w wr : World) : Prop where
  t : TBL base tb n bc bl t g lv wr
  k : wr.ownsRow base 24 32 vk n (kRow ks)
  h : wr.ownsRow base 4 1 vh n (hRow ks)
  len : ks.length = n
  key : ∀ x ∈ ks, x.1.length = 32
  fr : Fr NoB w wr
  gl : Gl wr
/-- what was bound when so much had come -/
def PastK (name : Bs) (l : List CameV) (n : Nat) (ks : List (Bs × Bool)) : Prop := ∀ j x, ks[j]? = some x → x = (Tb.new.runs psub 0 ((l.map (·.e)).take (j + 1))).bound name
theorem runs_step (sub : Bs → Bool) (es : List En) (i : Nat) (e : En) (h : es[i]? = some e) : Tb.new.runs sub 0 (es.take (i + 1)) = (Tb.new.runs sub 0 (es.take i)).take sub e i := by
  have hl := (List.getElem?_eq_some_iff.1 h).1
  rw [List.take_add_one, h, Option.toList_some, runs_append, List.length_take, Nat.min_eq_left (Nat.le_of_lt hl), Nat.zero_add]
  rfl
theorem PastK.step {name : Bs} {l : List CameV} {n : Nat} {ks : List (Bs × Bool)} (h : PastK name l n ks) (hn : ks.length = n) {k : Bs × Bool} (hk : (Tb.new.runs psub 0 ((l.map (·.e)).take (n + 1))).bound name = k) : PastK name l (n + 1) (ks ++ [k]) := by
  intro j x hx
  rcases Nat.lt_trichotomy j n with hj | rfl | hj
  · rw [List.getElem?_append_left (by omega)] at hx
    exact h j x hx
  · rw [List.getElem?_append_right (by omega), hn, Nat.sub_self] at hx
    obtain rfl : k = x := by simpa using hx
    exact hk.symm
  · rw [List.getElem?_eq_none (by simp; omega)] at hx
    cases hx
set_option maxRecDepth 100000 in
set_option maxHeartbeats 4000000 in
theorem past_c (l : List CameV) (name : Bs) (v : Value) (w : World) (hg : Gl w) (hs : CameS l v w) :
    Calls Tryz.prog 5 #[v, .string ⟨name.toArray⟩] w fun e w' => e = .returned (.bool true) ∧ Fr NoB w w' := by
  obtain ⟨a, cap, rfl, hcap, hel⟩ := hs
  have Halive := Lib.hid (alive17_c w hg)
  have hrow : ∀ i (hi : i < l.length), ∃ b o, a = some ⟨b, o, none⟩ ∧ b < w.heap.size ∧ w.rangeAt b (o + i * 71) l[i].cells ∧ EnIn w l[i].e l[i].pv l[i].sv := fun i hi => by
    rcases hel with h | ⟨b, o, h1, -, h2, h3⟩
    · subst h; cases hi
    · exact ⟨b, o, h1, h2, h3 i hi⟩
  have Hrow := Lib.hid hrow
  have Hg := Lib.hid hg
  clear hel hrow hg hcap
  by_cases hbig : 30 < l.length ∨ 300 < name.length
  · have hb1 : decide ((30 : Int) < (l.length : Int)) = true ∨ (decide ((30 : Int) < (l.length : Int)) = false ∧ decide ((300 : Int) < (name.length : Int)) = true) := by
      by_cases h30 : 30 < l.length
      · exact .inl (decide_eq_true (by omega))
      · exact .inr ⟨decide_eq_false (by omega), decide_eq_true (by omega)⟩
    clear hbig
    rcases hb1 with hb1 | ⟨hb1, hb2⟩
    all_goals
      go_enter Tryz.func5, Tryz.ntmps5
      go_wp2_with fail
      refine Halive.out.mono ?_
      rintro r w1 ⟨rfl, hF1⟩
      have HF1 := Lib.hid hF1
      clear hF1
      go_wp2_with fail
      go_ret
      exact ⟨rfl, HF1.out⟩
  have h30 : l.length ≤ 30 := by omega
  have h300 : name.length ≤ 300 := by omega
  have hb1 : decide ((30 : Int) < (l.length : Int)) = false := decide_eq_false (by omega)
  have hb2 : decide ((300 : Int) < (name.length : Int)) = false := decide_eq_false (by omega)
  clear hbig
  go_enter Tryz.func5, Tryz.ntmps5
  go_wp2_with fail
  refine Halive.out.mono ?_
  rintro r w1 ⟨rfl, hF1⟩
  have HF1 := Lib.hid hF1
  have hg1 := Hg.out.fr hF1 (fun _ _ _ h => h.elim)
  have hnew := new_c w1 hg1.old
  have hng := hg1.size
  have hsz1 := hF1.size
  have Hg1 := Lib.hid hg1
  have Hnew := Lib.hid hnew
  have Hng := Lib.hid hng
  have Hsz1 := Lib.hid hsz1
  clear hF1 hg1 hnew Halive hng hsz1
  go_wp2_with fail
  refine Hnew.out.mono ?_
  rintro r w2 ⟨rfl, hT, hF2⟩
  have hFb : Fr NoB w2 ((w2.alloc (.cells #[] 24)).alloc (.cells #[] 4)) := (Fr.refl.alloc _).alloc _
  have hT2 := hT.keep hFb
  have hF := HF1.out.trans' (hF2.trans' hFb)
  have hgl := Hg1.out.fr (hF2.trans' hFb) (fun _ _ _ h => h.elim)
  have hsz2 := hF2.size
  have hk0 : ((w2.alloc (.cells #[] 24)).alloc (.cells #[] 4)).ownsRow w1.heap.size 24 32 (.slice (some ⟨w2.heap.size, 0, none⟩) 0 0) 0 [] := row_keep (World.ownsRow_made w2 #[] 0 hsz2 (Nat.zero_le _) rfl) (Fr.refl.alloc _)
  have hh0 : ((w2.alloc (.cells #[] 24)).alloc (.cells #[] 4)).ownsRow w1.heap.size 4 1 (.slice (some ⟨w2.heap.size + 1, 0, none⟩) 0 0) 0 [] := by
    have : ((w2.alloc (.cells #[] 24)).alloc (.cells #[] 4)).ownsRow w1.heap.size 4 1 (.slice (some ⟨(w2.alloc (.cells #[] 24)).heap.size, 0, none⟩) 0 0) 0 [] := World.ownsRow_made (w2.alloc (.cells #[] 24)) #[] 0 (by rw [World.size_alloc]; omega) (Nat.zero_le _) rfl
    rw [World.size_alloc] at this
    exact this
  have hO : PastW w1.heap.size (w1.heap.size + 2) w1.heap.size (w1.heap.size + 1) 0 Tb.new [] (.slice (some ⟨w2.heap.size, 0, none⟩) 0 0) (.slice (some ⟨w2.heap.size + 1, 0, none⟩) 0 0) (fun _ => none) (fun _ => none) w ((w2.alloc (.cells #[] 24)).alloc (.cells #[] 4)) := ⟨hT2, hk0, hh0, rfl, fun x hx => (by cases hx), hF, hgl⟩
  clear hT hF2 Hnew hFb hT2 hF hgl hk0 hh0
  go_upto_region 8 with (fail)
  have hN : 3 ≤ w1.heap.size ∧ w.heap.size ≤ w1.heap.size := ⟨Hng.out, Hsz1.out⟩
  change Code.wp _ _ _ _ ((w2.alloc (.cells #[] 24)).alloc (.cells #[] 4))
  obtain ⟨W0, hW0⟩ : ∃ V, (w2.alloc (.cells #[] 24)).alloc (.cells #[] 4) = V := ⟨_, rfl⟩
  rw [hW0] at hO ⊢
  obtain ⟨base, hba⟩ : ∃ x, w1.heap.size = x := ⟨_, rfl⟩
  rw [hba] at hN hO ⊢
  obtain ⟨tb, htb⟩ : ∃ x, base + 2 = x := ⟨_, rfl⟩
  obtain ⟨bl, hbl⟩ : ∃ x, base + 1 = x := ⟨_, rfl⟩
  rw [htb, hbl] at hO
  rw [htb]
  obtain ⟨vk0, hvk0⟩ : ∃ x, Value.slice (some ⟨w2.heap.size, 0, none⟩) 0 0 = x := ⟨_, rfl⟩
  obtain ⟨vh0, hvh0⟩ : ∃ x, Value.slice (some ⟨w2.heap.size + 1, 0, none⟩) 0 0 = x := ⟨_, rfl⟩
  rw [hvk0, hvh0] at hO ⊢
  have HN := Lib.hid hN
  have HO0 := Lib.hid hO
  obtain ⟨d, hu, hd⟩ := Tryz.rowEntry
  have Hu := Lib.hid hu
  have Hd := Lib.hid hd
  obtain ⟨d1, hu1, hd1⟩ := Tryz.rowCame
  have Hu1 := Lib.hid hu1
  have Hd1 := Lib.hid hd1
  have Hl30 := Lib.hid h30
  have Hn300 := Lib.hid h300
  clear hsz2 hN hO hW0 hba htb hbl hvk0 hvh0 HF1 Hg1 Hng Hsz1 w1 w2 hu hd hu1 hd1 h30 h300 hb1 hb2
  go_wp2_with fail
  go_loopg [6, 7, 32] (l.length + 1) (fun gf vk vh vi wr => ∃ i : Nat, vi = .int .i64 i ∧ i ≤ l.length ∧ i + gf = l.length + 1 ∧ ∃ (ks : List (Bs × Bool)) (g lv : Bs → Option Value), Hid (PastW base tb base bl i (Tb.new.runs psub 0 ((l.map (·.e)).take i)) ks vk vh g lv w wr) ∧ Hid (PastK name l i ks))
  case atStart => exact ⟨0, rfl, by omega, by omega, _, _, _, HO0, Lib.hid (fun j x h => by cases h)⟩
  case round =>
    obtain ⟨i, rfl, hi, hig, ks, g, lv, HO, HP⟩ := hrel
    obtain ⟨gko, hgko⟩ : ∃ x, x = gk := ⟨_, rfl⟩
    subst hgko
    obtain ⟨wo, rfl⟩ : ∃ wo : World, wo = wr := ⟨_, rfl⟩
    by_cases hlt : i < l.length
    · have hlti : decide ((i : Int) < l.length) = true := decide_eq_true (by omega)
      obtain ⟨b, o, rfl, hb, hR, hE⟩ := Hrow.out i hlt
      have hR1 := range_fr hR HO.out.fr hb (fun _ h => h)
      have hE1 := hE.fr HO.out.fr (fun _ _ _ h => h)
      obtain ⟨c, hc⟩ : ∃ c, l[i] = c := ⟨_, rfl⟩
      rw [hc] at hR1 hE1
      have hle : (l.map (·.e))[i]? = some c.e := by rw [List.getElem?_map, List.getElem?_eq_getElem hlt, hc]; rfl
      have Hle := Lib.hid hle
      clear hR hE hc hle
      obtain ⟨e, pv, sv, pos⟩ := c
      simp only at hE1
      obtain ⟨hok, hpay, hsgs⟩ := hE1
      obtain ⟨a1, c1, ea⟩ := hpay.form
      obtain ⟨a3, c3, es, -⟩ := id hsgs
      have hp1 : pv.oneCell' = true := by rw [ea]; rfl
      have hs1 : sv.oneCell' = true := by rw [es]; rfl
      have hcz : (CameV.cells ⟨e, pv, sv, pos⟩).length = 71 := CameV.size hok
      have hc1 := CameV.one (c := ⟨e, pv, sv, pos⟩) hp1 hs1
      have hce : CameV.cells ⟨e, pv, sv, pos⟩ = e.cells pv sv ++ [.int .i64 pos] := rfl
      have hez := En.size hok pv sv
      obtain ⟨CC, hCC⟩ : ∃ x, CameV.cells ⟨e, pv, sv, pos⟩ = x := ⟨_, rfl⟩
      rw [hCC] at hR1 hcz hc1 hce
      have Hcz : Hid ((Tryz.prog.info? 41).map (·.size) = some CC.length) := Lib.hid (by rw [Tryz.sizeCame, hcz])
      have Hcz2 : Hid ((Tryz.prog.info? 41).map (·.size) = some CC.toArray.size) := Lib.hid (by rw [Tryz.sizeCame, List.size_toArray, hcz])
      have Hzz : Hid (Tryz.zeroCells41.size = CC.toArray.size) := Lib.hid (by rw [show CC.toArray.size = 71 by rw [List.size_toArray, hcz]]; rfl)
      have Hez : Hid ((Tryz.prog.info? 39).map (·.size) = some (e.cells pv sv).length) := Lib.hid (by rw [Tryz.sizeEntry, hez])
      have Hc1 := Lib.hid hc1
      have HR1 := Lib.hid hR1
      have hq0 := range_block (heap_alloc_new wo (.cells CC.toArray 41))
      rw [List.toList_toArray] at hq0
      have hq : (wo.alloc (.cells CC.toArray 41)).rangeAt wo.heap.size 0 (e.cells pv sv ++ [.int .i64 pos]) := by rw [← hce]; exact hq0
      rw [range_append] at hq
      have hFq : Fr NoB wo (wo.alloc (.cells CC.toArray 41)) := Fr.refl.alloc _
      clear hcz hc1 hCC hez hR1 ea es hp1 hs1 hce hq0
      go_upto_region 11 with (first
        | (with_reducible refine wpList_load_mid rfl 41 _ rfl b (o + i * 71) rfl CC d1 HR1.out Hu1.out Hd1.out Hcz.out ?_)
        | ((with_reducible refine wpList_store_new (w := wo) rfl 41 _ _ rfl _ CC.toArray wo.heap.size rfl ?_ ?_ Hcz2.out Hzz.out Hc1.out ?_); rfl; rfl))
      change Code.wp _ _ _ _ (wo.alloc (.cells CC.toArray 41))
      obtain ⟨Wq, hWq⟩ : ∃ V, wo.alloc (.cells CC.toArray 41) = V := ⟨_, rfl⟩
      have hqW : wo.heap.size < Wq.heap.size := by rw [← hWq, World.size_alloc]; omega
      rw [hWq] at hq hFq ⊢
      obtain ⟨q, hqq⟩ : ∃ x, wo.heap.size = x := ⟨_, rfl⟩
      have hqo := heap_alloc_new wo (.cells CC.toArray 41)
      rw [hWq, hqq] at hqo
      rw [hqq] at hq hqW ⊢
      have Hqq := Lib.hid hqq
      have Hqo := Lib.hid hqo
      clear hWq hqq hqo
      have hlarge := large_c Old Old e pv sv Wq hok (hpay.fr hFq (fun _ _ _ _ h => h)) (hsgs.fr hFq (fun _ _ _ h => h))
      obtain ⟨L, hL⟩ : ∃ x, pLarge e = x := ⟨_, rfl⟩
      rw [hL] at hlarge
      have HL := Lib.hid hL
      have Hlarge := Lib.hid hlarge
      have HQ := Lib.hid hq.1
      have HFq := Lib.hid hFq
      have HqW := Lib.hid hqW
      have Hok := Lib.hid hok
      have Hpay := Lib.hid hpay
      have Hsgs := Lib.hid hsgs
      clear hL hlarge hq hFq hqW hok hpay hsgs
      obtain ⟨EC, hEC⟩ : ∃ x, e.cells pv sv = x := ⟨_, rfl⟩
      rw [hEC] at Hlarge HQ Hez
      have HEC := Lib.hid hEC
      clear hEC
      go_wp2_with (with_reducible refine wpList_load_mid rfl 39 _ rfl q 0 rfl EC d HQ.out Hu.out Hd.out Hez.out ?_)
      refine Hlarge.out.mono ?_
      rintro r w3 ⟨rfl, hF3⟩
      have HF3 := Lib.hid (HFq.out.trans' hF3)
      have HQ3 := Lib.hid (range_fr HQ.out hF3 HqW.out (fun _ h => h))
      have Hqo3 := Lib.hid (hF3.block _ _ Hqo.out (fun h => h))
      have Hq3 := Lib.hid (Nat.lt_of_lt_of_le HqW.out hF3.size)
      clear hF3 Hlarge HQ HqW HFq
      cases L
      · have hfine := fine17 Hok.out (Hpay.out.fr HF3.out (fun _ _ _ _ h => h)) (Hsgs.out.fr HF3.out (fun _ _ _ h => h)) (HO.out.gl.fr HF3.out (fun _ _ _ h => h.elim)) HL.out
        have hT3 := HO.out.t.keep HF3.out
        have htake := take_c Old Old e pv sv i w3 hT3 hfine (by have := Hl30.out; omega)
        simp only [HEC.out] at htake
        obtain ⟨T, hT⟩ : ∃ x, Tb.new.runs psub 0 ((l.map (·.e)).take i) = x := ⟨_, rfl⟩
        rw [hT] at hT3 htake
        have HT3 := Lib.hid hT3
        have HTe := Lib.hid hT
        have Htake := Lib.hid htake
        have hk3 := row_keep HO.out.k HF3.out
        have hh3 := row_keep HO.out.h HF3.out
        have Hk3 := Lib.hid hk3
        have Hh3 := Lib.hid hh3
        have HF03 := Lib.hid (HO.out.fr.trans' HF3.out)
        have Hgl3 := Lib.hid (HO.out.gl.fr HF3.out (fun _ _ _ h => h.elim))
        clear hfine hT3 htake hT hk3 hh3
        go_wp2_with (with_reducible refine wpList_load_mid rfl 39 _ rfl q 0 rfl EC d HQ3.out Hu.out Hd.out Hez.out ?_)
        refine Htake.out.mono ?_
        rintro r w6 ⟨rfl, ⟨g6, lv6, hT6⟩, hF6⟩
        have hbound := bound_c name w6 hT6 (by have := Hn300.out; unfold maxLen; omega)
        have hlok := hT6.lastok name
        obtain ⟨bk, hbk⟩ : ∃ x, (T.take psub e i).bound name = x := ⟨_, rfl⟩
        have hb1 : ((T.take psub e i).last name).key = bk.1 := by rw [← hbk]; rfl
        have hb2 : ((T.take psub e i).last name).has = bk.2 := by rw [← hbk]; rfl
        rw [hb1, hb2] at hbound
        have hkl : bk.1.length = 32 := by rw [← hb1]; exact hlok
        have HT6 := Lib.hid hT6
        have Hk6 := Lib.hid (row_took HT3.out Hk3.out (by decide) hF6)
        have Hh6 := Lib.hid (row_took HT3.out Hh3.out (by decide) hF6)
        have HF6 := Lib.hid (HF03.out.took HT3.out HN.out.2 hF6)
        have Hgl6 := Lib.hid (Hgl3.out.took HT3.out HN.out.1 hF6)
        have Hbk := Lib.hid hbk
        have Hbound := Lib.hid hbound
        obtain ⟨bkk, bkh⟩ := bk
        simp only at hkl
        have hbl := byteCells_len bkk
        rw [hkl] at hbl
        have ho1 := all_oneCell_toArray (cells_one bkk)
        have hom := cells_one bkk
        obtain ⟨KC, hKC⟩ : ∃ x, Lib.byteCells bkk = x := ⟨_, rfl⟩
        simp only [hKC] at Hbound hbl ho1 hom
        have HKC := Lib.hid hKC
        have Hkl := Lib.hid hkl
        have Hkz : Hid ((Tryz.prog.info? 24).map (·.size) = some KC.length) := Lib.hid (by rw [Tryz.sizeKey, hbl])
        have Hkz2 : Hid ((Tryz.prog.info? 24).map (·.size) = some KC.toArray.size) := Lib.hid (by rw [Tryz.sizeKey, List.size_toArray, hbl])
        have Hkz3 : Hid ((#[.int .u8 0, .int .u8 0, .int .u8 0, .int .u8 0, .int .u8 0, .int .u8 0, .int .u8 0, .int .u8 0, .int .u8 0, .int .u8 0, .int .u8 0, .int .u8 0, .int .u8 0, .int .u8 0, .int .u8 0, .int .u8 0, .int .u8 0, .int .u8 0, .int .u8 0, .int .u8 0, .int .u8 0, .int .u8 0, .int .u8 0, .int .u8 0, .int .u8 0, .int .u8 0, .int .u8 0, .int .u8 0, .int .u8 0, .int .u8 0, .int .u8 0, .int .u8 0] : Array Value).size = KC.toArray.size) := Lib.hid (by rw [show KC.toArray.size = 32 by rw [List.size_toArray, hbl]]; rfl)
        have Ho1 := Lib.hid ho1
        have Hom := Lib.hid hom
        have Hbl := Lib.hid hbl
        have HO' := Lib.hid HO.out.len
        have HO2 := Lib.hid HO.out.key
        clear hT6 hF6 hbound hlok hbk hb1 hb2 hkl hbl ho1 hom hKC HT3 Hk3 Hh3 HF03 Hgl3 Htake HO HQ3 Hqo3 Hq3 HF3
        go_wp2_with fail
        refine Hbound.out.mono ?_
        rintro r w7 ⟨rfl, hF7⟩
        have hF78 := hF7.alloc (.cells KC.toArray 24)
        have hq8 := range_block (heap_alloc_new w7 (.cells KC.toArray 24))
        rw [List.toList_toArray] at hq8
        clear Hbound
        go_upto_region 15 with ((with_reducible refine wpList_store_new (w := w7) rfl 24 _ _ rfl _ KC.toArray w7.heap.size rfl ?_ ?_ Hkz2.out Hkz3.out Ho1.out ?_); rfl; rfl)
        change Code.wp _ _ _ _ (w7.alloc (.cells KC.toArray 24))
        obtain ⟨w8, hw8⟩ : ∃ V, w7.alloc (.cells KC.toArray 24) = V := ⟨_, rfl⟩
        rw [hw8] at hF78 hq8 ⊢
        obtain ⟨q8, hq8e⟩ : ∃ x, w7.heap.size = x := ⟨_, rfl⟩
        rw [hq8e] at hq8 ⊢
        have HT8 := Lib.hid (HT6.out.keep hF78)
        have Hk8 := Lib.hid (row_keep Hk6.out hF78)
        have Hh8 := Lib.hid (row_keep Hh6.out hF78)
        have HF8 := Lib.hid (HF6.out.trans' hF78)
        have Hgl8 := Lib.hid (Hgl6.out.fr hF78 (fun _ _ _ h => h.elim))
        have HQ8 := Lib.hid hq8
        clear hF7 hF78 hq8 hw8 hq8e HT6 Hk6 Hh6 HF6 Hgl6
        obtain ⟨ik, hik, hkz0, hkz1, hkz2⟩ := info_parts Tryz.infoKey
        obtain ⟨ib, hib, hbz0, hbz1, hbz2⟩ := info_parts Tryz.infoBool
        have hb1 := built_list (P := Tryz.prog) hik hkz0 hkz1 (by rfl) (by decide) (by decide : 0 < 1) (by decide) [.agg KC.toArray] (fun v hv => by
          obtain rfl : v = .agg KC.toArray := by simpa using hv
          show KC.toArray.size = 32
          rw [List.size_toArray, Hbl.out]) rfl
        have Hbk1 : Hid (Tryz.prog.builtSlice 24 1 [(0, .agg KC.toArray)] = some KC.toArray) := Lib.hid (by
          have e : ([Value.agg KC.toArray].flatMap fun v => v.cells.toList).toArray = KC.toArray := by simp [Value.cells]
          rw [e] at hb1
          exact hb1)
        have hb2 := built_list (P := Tryz.prog) hib hbz0 hbz1 (by rfl) (by decide) (by decide : 0 < 1) (by decide) [.bool bkh] (fun v hv => by
          obtain rfl : v = .bool bkh := by simpa using hv
          rfl) rfl
        have Hbk2 : Hid (Tryz.prog.builtSlice 4 1 [(0, .bool bkh)] = some #[.bool bkh]) := Lib.hid hb2
        have hi30 : i < 30 := by have := Hl30.out; omega
        have Hi30 := Lib.hid hi30
        clear hb1 hb2 hi30
        go_wp2_with (first
          | (with_reducible refine wpList_load_mid rfl 24 _ rfl q8 0 rfl KC (.array 32 5) HQ8.out Tryz.underKey rfl Hkz.out ?_)
          | ((with_reducible refine Great.wpList_buildSliceTo ?_ 58 24 1 _ rfl w8.heap.size rfl _ rfl Tryz.underlying58 KC.toArray ?_ ?_); rfl; (refine Eq.trans (congrArg (Tryz.prog.builtSlice 24 1) ?_) Hbk1.out; kernel_rfl))
          | (at_builtin; refine stop_here ?_))
        refine Lib.hid ?_
        refine wpList_append_own _ rfl _ _ 58 rfl base 24 ik (.agg #[.int .u8 0, .int .u8 0, .int .u8 0, .int .u8 0, .int .u8 0, .int .u8 0, .int .u8 0, .int .u8 0, .int .u8 0, .int .u8 0, .int .u8 0, .int .u8 0, .int .u8 0, .int .u8 0, .int .u8 0, .int .u8 0, .int .u8 0, .int .u8 0, .int .u8 0, .int .u8 0, .int .u8 0, .int .u8 0, .int .u8 0, .int .u8 0, .int .u8 0, .int .u8 0, .int .u8 0, .int .u8 0, .int .u8 0, .int .u8 0, .int .u8 0, .int .u8 0]) 32 32 Tryz.underlying58 hik hkz0 hkz1 hkz2 rfl (by decide) _ i (kRow ks) rfl (Hk8.out.alloc _) ⟨w8.heap.size, 0, none⟩ 1 1 KC rfl (by rw [Hbl.out]) (lit_cells w8 KC 24) Hom.out (by have := Hi30.out; unfold maxLen; omega) (by have := Hi30.out; omega) (by rw [World.size_alloc]; have := HT8.out.low; have := get_lt HT8.out.cells; omega) ?_
        intro vk' w9 hown9 hgr9 _
        have hFa : Fr NoB w8 (w8.alloc (.cells KC.toArray 24)) := Fr.refl.alloc _
        have HT9 := Lib.hid ((HT8.out.keep hFa).beside (Hk8.out.alloc _) (by decide) (by decide) hgr9)
        have Hh9 := Lib.hid (row_beside (Hh8.out.alloc (.cells KC.toArray 24)) (Hk8.out.alloc _) (by decide) hgr9)
        have HF9 := Lib.hid (row_frame (Hk8.out.alloc _) HN.out.2 (HF8.out.alloc _) hgr9)
        have Hgl9 := Lib.hid (row_gl (Hk8.out.alloc _) HN.out.1 (Hgl8.out.fr hFa (fun _ _ _ h => h.elim)) hgr9)
        have Hk9 := Lib.hid hown9
        clear hown9 hgr9 hFa HT8 Hk8 Hh8 HF8 Hgl8 HQ8
        go_wp2_with (first
          | ((with_reducible refine Great.wpList_buildSliceTo ?_ 59 4 1 _ rfl w9.heap.size rfl _ rfl Tryz.underlying59 #[.bool bkh] ?_ ?_); rfl; (refine Eq.trans (congrArg (Tryz.prog.builtSlice 4 1) ?_) Hbk2.out; kernel_rfl))
          | (at_builtin; refine stop_here ?_))
        refine Lib.hid ?_
        refine wpList_append_own _ rfl _ _ 59 rfl base 4 ib (.bool false) 1 1 Tryz.underlying59 hib hbz0 hbz1 hbz2 rfl (by decide) _ i (hRow ks) rfl (Hh9.out.alloc _) ⟨w9.heap.size, 0, none⟩ 1 1 [.bool bkh] rfl rfl (lit_cells w9 [.bool bkh] 4) (by intro u hu; obtain rfl : u = .bool bkh := (by simpa using hu); rfl) (by have := Hi30.out; unfold maxLen; omega) (by have := Hi30.out; omega) (by rw [World.size_alloc]; have := HT9.out.low; have := get_lt HT9.out.cells; omega) ?_
        intro vh' w10 hown10 hgr10 _
        have hFb : Fr NoB w9 (w9.alloc (.cells #[.bool bkh] 4)) := Fr.refl.alloc _
        have HT10 := Lib.hid ((HT9.out.keep hFb).beside (Hh9.out.alloc _) (by decide) (by decide) hgr10)
        have Hk10 := Lib.hid (row_beside (Hk9.out.alloc (.cells #[.bool bkh] 4)) (Hh9.out.alloc _) (by decide) hgr10)
        have HF10 := Lib.hid (row_frame (Hh9.out.alloc _) HN.out.2 (HF9.out.alloc _) hgr10)
        have Hgl10 := Lib.hid (row_gl (Hh9.out.alloc _) HN.out.1 (Hgl9.out.fr hFb (fun _ _ _ h => h.elim)) hgr10)
        have Hh10 := Lib.hid hown10
        have hwr : wrap64 ((i : Int) + 1) = (i : Int) + 1 := by have := Hi30.out; unfold wrap64; omega
        clear hown10 hgr10 hFb HT9 Hk9 Hh9 HF9 Hgl9
        go_wp2_with fail
        go_roundg (gko - 1)
        case measure => omega
        case rel =>
          have hst := runs_step psub (l.map (·.e)) i e Hle.out
          rw [HTe.out] at hst
          refine ⟨i + 1, by simp [hwr], by omega, by omega, ks ++ [(bkk, bkh)], g6, lv6, Lib.hid ⟨?_, ?_, ?_, ?_, ?_, HF10.out, Hgl10.out⟩, Lib.hid (HP.out.step HO'.out (by rw [hst]; exact Hbk.out))⟩
          · rw [hst]; exact HT10.out
          · have : kRow (ks ++ [(bkk, bkh)]) = kRow ks ++ KC := by rw [← HKC.out]; simp [kRow]
            rw [this]
            exact Hk10.out
          · have : hRow (ks ++ [(bkk, bkh)]) = hRow ks ++ [.bool bkh] := by simp [hRow]
            rw [this]
            exact Hh10.out
          · rw [List.length_append, HO'.out]; rfl
          · intro x hx
            rcases List.mem_append.1 hx with hx | hx
            · exact HO2.out x hx
            · obtain rfl : x = (bkk, bkh) := by simpa using hx
              exact Hkl.out
      · go_wp2_with fail
        go_ret
        exact ⟨rfl, HO.out.fr.trans' HF3.out⟩
    · obtain rfl : i = l.length := by omega
      have hlti : decide ((l.length : Int) < l.length) = false := decide_eq_false (by omega)
      have HT := Lib.hid HO.out.t
      have hfull : (l.map (·.e)).take l.length = l.map (·.e) := List.take_of_length_le (by simp)
      rw [hfull] at HT
      have Hks := Lib.hid HO.out.len
      have Hkk := Lib.hid HO.out.key
      have HF0 := Lib.hid HO.out.fr
      have hkey : ∀ j (hj : j < l.length), ∃ x : Bs × Bool, x.1.length = 32 ∧ pAt ((Tb.new.runs psub 0 (l.map (·.e))).hist name) j = x ∧ ks[j]? = some x := fun j hj => by
        obtain ⟨x, hx⟩ : ∃ x, ks[j]? = some x := ⟨_, List.getElem?_eq_getElem (by rw [Hks.out]; exact hj)⟩
        exact ⟨x, Hkk.out x (List.mem_of_getElem? hx), by rw [past_at psub _ name j (by simpa using hj), HP.out j x hx], hx⟩
      have Hkey := Lib.hid hkey
      have HKR := Lib.hid HO.out.k
      have HHR := Lib.hid HO.out.h
      have hnone := past_none psub (l.map (·.e)) name
      obtain ⟨T, hT⟩ : ∃ x, Tb.new.runs psub 0 (l.map (·.e)) = x := ⟨_, rfl⟩
      rw [hT] at HT Hkey hnone
      have Hnone := Lib.hid hnone
      have hlow := HT.out.low
      have hnl : name.length ≤ maxLen := by have := Hn300.out; unfold maxLen; omega
      clear HO HP hkey hnone hT hfull Hks
      go_wp2_with fail
      go_loopg [62] (l.length + 1) (fun gf vi wr => ∃ j : Nat, vi = .int .i64 j ∧ j ≤ l.length ∧ j + gf = l.length + 1 ∧ Hid (Fr NoB wo wr))
      case atStart => exact ⟨0, rfl, by omega, by omega, Lib.hid Fr.refl⟩
      case round =>
        obtain ⟨j, rfl, hj, hjg, HFr⟩ := hrel
        by_cases hjl : j < l.length
        · have hltj : decide ((j : Int) < l.length) = true := decide_eq_true (by omega)
          obtain ⟨⟨xk, xh⟩, hxl, hxp, hxk⟩ := Hkey.out j hjl
          rcases row_form' HKR.out with ⟨-, h0⟩ | ⟨gk2, ck, rfl, -, hgk, -⟩
          · omega
          rcases row_form' HHR.out with ⟨-, h0⟩ | ⟨gh2, ch, rfl, -, hgh, -⟩
          · omega
          have hkr := range_fr (row_key HKR.out Hkk.out j _ hxk) HFr.out hgk (fun _ h => h)
          have hhr := Fr.cell HFr.out (row_had HHR.out j _ hxk) (fun _ h => h)
          have hat := at_c name j wr (HT.out.keep HFr.out) hnl (by have := Hl30.out; omega)
          rw [hxp] at hat
          simp only at hxl hkr hhr hat
          have hbl := byteCells_len xk
          rw [hxl] at hbl
          have hneq := fun V => neq_key xk xk hxl hxl V
          simp only [bne_self_eq_false] at hneq
          have ho1 := all_oneCell_toArray (cells_one xk)
          obtain ⟨KC, hKC⟩ : ∃ x, Lib.byteCells xk = x := ⟨_, rfl⟩
          simp only [hKC] at hat hbl ho1 hkr hneq
          have Hkz : Hid ((Tryz.prog.info? 24).map (·.size) = some KC.length) := Lib.hid (by rw [Tryz.sizeKey, hbl])
          have Hkz2 : Hid ((Tryz.prog.info? 24).map (·.size) = some KC.toArray.size) := Lib.hid (by rw [Tryz.sizeKey, List.size_toArray, hbl])
          have Hkz3 : Hid ((#[.int .u8 0, .int .u8 0, .int .u8 0, .int .u8 0, .int .u8 0, .int .u8 0, .int .u8 0, .int .u8 0, .int .u8 0, .int .u8 0, .int .u8 0, .int .u8 0, .int .u8 0, .int .u8 0, .int .u8 0, .int .u8 0, .int .u8 0, .int .u8 0, .int .u8 0, .int .u8 0, .int .u8 0, .int .u8 0, .int .u8 0, .int .u8 0, .int .u8 0, .int .u8 0, .int .u8 0, .int .u8 0, .int .u8 0, .int .u8 0, .int .u8 0, .int .u8 0] : Array Value).size = KC.toArray.size) := Lib.hid (by rw [show KC.toArray.size = 32 by rw [List.size_toArray, hbl]]; rfl)
          have Ho1 := Lib.hid ho1
          have Hat := Lib.hid hat
          have hkl := Nat.lt_of_lt_of_le hgk HFr.out.size
          have HKr := Lib.hid hkr
          have Hhr := Lib.hid hhr
          have Hkl := Lib.hid hkl
          have Hneq := Lib.hid hneq
          clear hxp hxk hgk hgh hkr hhr hat hbl ho1 hKC hkl hxl hneq
          go_wp2_with fail
          refine Hat.out.mono ?_
          rintro r w7 ⟨rfl, hF7⟩
          have hF78 := hF7.alloc (.cells KC.toArray 24)
          have hq8 := range_block (heap_alloc_new w7 (.cells KC.toArray 24))
          rw [List.toList_toArray] at hq8
          clear Hat
          go_upto_region 21 with ((with_reducible refine wpList_store_new (w := w7) rfl 24 _ _ rfl _ KC.toArray w7.heap.size rfl ?_ ?_ Hkz2.out Hkz3.out Ho1.out ?_); rfl; rfl)
          change Code.wp _ _ _ _ (w7.alloc (.cells KC.toArray 24))
          have hqw : w7.heap.size < (w7.alloc (.cells KC.toArray 24)).heap.size := by rw [World.size_alloc]; omega
          obtain ⟨w8, hw8⟩ : ∃ V, w7.alloc (.cells KC.toArray 24) = V := ⟨_, rfl⟩
          rw [hw8] at hF78 hq8 hqw ⊢
          obtain ⟨q8, hq8e⟩ : ∃ x, w7.heap.size = x := ⟨_, rfl⟩
          rw [hq8e] at hq8 hqw ⊢
          have HKr8 := Lib.hid (range_fr HKr.out hF78 Hkl.out (fun _ h => h))
          have hhr8 := Fr.cell hF78 Hhr.out (fun _ h => h)
          have HQ8 := Lib.hid hq8
          have HF8 := Lib.hid (HFr.out.trans' hF78)
          have Hkl8 := Lib.hid (Nat.lt_of_lt_of_le Hkl.out hF78.size)
          have Hqw := Lib.hid hqw
          clear hF7 hF78 hq8 hw8 hq8e hqw HKr Hhr HFr Hkl
          refine wp_region_held_drew (S := fun V => Hid (Fr NoB w8 V)) (by kernel_rfl) (Lib.hid Fr.refl.drew) (fun hHeld => ?_)
          simp only [List.size_toArray, List.length_cons, List.length_nil]
          refine wpAnyH_take (i := 0) rfl (by kernel_rfl) (by kernel_rfl) (by kernel_rfl) (fun _ _ _ h => h) (yieldsIf_load_mid (by rfl) 24 _ rfl q8 0 rfl KC (.array 32 5) (fun V h => range_fr HQ8.out h.out Hqw.out (fun _ h => h)) Tryz.underKey rfl Hkz.out) hHeld ?_
          try simp only [Act.put, qS, qS0, qS1, qG, qG0, qG1]
          refine wpAnyH_take (i := 1) (v := ?_) rfl (by kernel_rfl) (by kernel_rfl) (by kernel_rfl) (fun _ _ _ h => h) (Or.inl ⟨by rfl, ?_⟩) hHeld ?_
          rotate_left
          · intro W hSw
            have h1 := Fr.cell hSw.out hhr8 (fun _ h => h); have hneq := Hneq.out
            try simp only [qG, qG0, qG1]
            go_simp
            try rw [if_neg (by omega)]
            try with_reducible rfl
          try simp only [Act.put, qS, qS0, qS1, qG, qG0, qG1]
          refine wpAnyH_take (i := 2) (v := ?_) rfl (by kernel_rfl) (by kernel_rfl) (by kernel_rfl) (fun _ _ _ h => h) (Or.inl ⟨by rfl, ?_⟩) hHeld ?_
          rotate_left
          · intro W hSw
            have h1 := Fr.cell hSw.out hhr8 (fun _ h => h); have hneq := Hneq.out
            try simp only [qG, qG0, qG1]
            go_simp
            try rw [if_neg (by omega)]
            try with_reducible rfl
          try simp only [Act.put, qS, qS0, qS1, qG, qG0, qG1]
          refine wpAnyH_take (i := 3) (v := ?_) rfl (by kernel_rfl) (by kernel_rfl) (by kernel_rfl) (fun _ _ _ h => h) (Or.inl ⟨by rfl, ?_⟩) hHeld ?_
          rotate_left
          · intro W hSw
            have h1 := Fr.cell hSw.out hhr8 (fun _ h => h); have hneq := Hneq.out
            try simp only [qG, qG0, qG1]
            go_simp
            try rw [if_neg (by omega)]
            try with_reducible rfl
          try simp only [Act.put, qS, qS0, qS1, qG, qG0, qG1]
          refine wpAnyH_take (i := 4) rfl (by kernel_rfl) (by kernel_rfl) (by kernel_rfl) (fun _ _ _ h => h) (yieldsIf_load_mid (by rfl) 24 _ rfl gk2 (j * 32) rfl KC (.array 32 5) (fun V h => range_fr HKr8.out h.out Hkl8.out (fun _ h => h)) Tryz.underKey rfl Hkz.out) hHeld ?_
          try simp only [Act.put, qS, qS0, qS1, qG, qG0, qG1]
          refine wpAnyH_take (i := 5) (v := ?_) rfl (by kernel_rfl) (by kernel_rfl) (by kernel_rfl) (fun _ _ _ h => h) (Or.inl ⟨by rfl, ?_⟩) hHeld ?_
          rotate_left
          · intro W hSw
            have h1 := Fr.cell hSw.out hhr8 (fun _ h => h); have hneq := Hneq.out
            try simp only [qG, qG0, qG1]
            go_simp
            try rw [if_neg (by omega)]
            try with_reducible rfl
          try simp only [Act.put, qS, qS0, qS1, qG, qG0, qG1]
          refine wpAnyH_take (i := 6) (v := ?_) rfl (by kernel_rfl) (by kernel_rfl) (by kernel_rfl) (fun _ _ _ h => h) (Or.inl ⟨by rfl, ?_⟩) hHeld ?_
          rotate_left
          · intro W hSw
            have h1 := Fr.cell hSw.out hhr8 (fun _ h => h); have hneq := Hneq.out
            try simp only [qG, qG0, qG1]
            go_simp
            try rw [if_neg (by omega)]
            try with_reducible rfl
          try simp only [Act.put, qS, qS0, qS1, qG, qG0, qG1]
          refine wpAnyH_take (i := 7) (v := ?_) rfl (by kernel_rfl) (by kernel_rfl) (by kernel_rfl) (fun _ _ _ h => h) (Or.inl ⟨by rfl, ?_⟩) hHeld ?_
          rotate_left
          · intro W hSw
            have h1 := Fr.cell hSw.out hhr8 (fun _ h => h); have hneq := Hneq.out
            try simp only [qG, qG0, qG1]
            go_simp
            try rw [if_neg (by omega)]
            try with_reducible rfl
          try simp only [Act.put, qS, qS0, qS1, qG, qG0, qG1]
          refine wpAnyH_take (i := 8) (v := ?_) rfl (by kernel_rfl) (by kernel_rfl) (by kernel_rfl) (fun _ _ _ h => h) (Or.inl ⟨by rfl, ?_⟩) hHeld ?_
          rotate_left
          · intro W hSw
            have h1 := Fr.cell hSw.out hhr8 (fun _ h => h); have hneq := Hneq.out
            try simp only [qG, qG0, qG1]
            go_simp
            try rw [if_neg (by omega)]
            try with_reducible rfl
          try simp only [Act.put, qS, qS0, qS1, qG, qG0, qG1]
          refine wpAnyH_take (i := 9) (v := ?_) rfl (by kernel_rfl) (by kernel_rfl) (by kernel_rfl) (fun _ _ _ h => h) (Or.inl ⟨by rfl, ?_⟩) hHeld ?_
          rotate_left
          · intro W hSw
            have h1 := Fr.cell hSw.out hhr8 (fun _ h => h); have hneq := Hneq.out
            try simp only [qG, qG0, qG1]
            go_simp
            try rw [if_neg (by omega)]
            try with_reducible rfl
          try simp only [Act.put, qS, qS0, qS1, qG, qG0, qG1]
          refine wpAnyH_take (i := 10) (v := ?_) rfl (by kernel_rfl) (by kernel_rfl) (by kernel_rfl) (fun _ _ _ h => h) (Or.inl ⟨by rfl, ?_⟩) hHeld ?_
          rotate_left
          · intro W hSw
            have h1 := Fr.cell hSw.out hhr8 (fun _ h => h); have hneq := Hneq.out
            try simp only [qG, qG0, qG1]
            go_simp
            try rw [if_neg (by omega)]
            try with_reducible rfl
          try simp only [Act.put, qS, qS0, qS1, qG, qG0, qG1]
          refine wpAnyH_take (i := 11) (v := ?_) rfl (by kernel_rfl) (by kernel_rfl) (by kernel_rfl) (fun _ _ _ h => h) (Or.inl ⟨by rfl, ?_⟩) hHeld ?_
          rotate_left
          · intro W hSw
            have h1 := Fr.cell hSw.out hhr8 (fun _ h => h); have hneq := Hneq.out
            try simp only [qG, qG0, qG1]
            go_simp
            try rw [if_neg (by omega)]
            try with_reducible rfl
          try simp only [Act.put, qS, qS0, qS1, qG, qG0, qG1]
          refine wpAnyH_take (i := 12) (v := ?_) rfl (by kernel_rfl) (by kernel_rfl) (by kernel_rfl) (fun _ _ _ h => h) (Or.inl ⟨by rfl, ?_⟩) hHeld ?_
          rotate_left
          · intro W hSw
            have h1 := Fr.cell hSw.out hhr8 (fun _ h => h); have hneq := Hneq.out
            try simp only [qG, qG0, qG1]
            go_simp
            try rw [if_neg (by omega)]
            try with_reducible rfl
          try simp only [Act.put, qS, qS0, qS1, qG, qG0, qG1]
          refine wpAnyH_take (i := 13) (v := ?_) rfl (by kernel_rfl) (by kernel_rfl) (by kernel_rfl) (fun _ _ _ h => h) (Or.inl ⟨by rfl, ?_⟩) hHeld ?_
          rotate_left
          · intro W hSw
            have h1 := Fr.cell hSw.out hhr8 (fun _ h => h); have hneq := Hneq.out
            try simp only [qG, qG0, qG1]
            go_simp
            try rw [if_neg (by omega)]
            try with_reducible rfl
          try simp only [Act.put, qS, qS0, qS1, qG, qG0, qG1]
          refine wpAnyH_done (by kernel_rfl) ?_ _
          have HE := Lib.hid (HF8.out.trans' hHeld.out)
          have hwr : wrap64 ((j : Int) + 1) = (j : Int) + 1 := by have := Hl30.out; unfold wrap64; omega
          clear hHeld HF8 HKr8 hhr8 HQ8 Hkl8 Hqw
          go_wp2_with fail
          go_roundg (gk - 1)
          case measure => omega
          case rel => exact ⟨j + 1, by simp [hwr], by omega, by omega, HE⟩
        · have hltj : decide ((j : Int) < l.length) = false := decide_eq_false (by omega)
          have hat := at_c name (-1) wr (HT.out.keep HFr.out) hnl (by have := Hl30.out; omega)
          rw [Hnone.out] at hat
          simp only [z32_cells] at hat
          have Hat := Lib.hid hat
          clear hat Hkey
          go_wp2_with fail
          refine Hat.out.mono ?_
          rintro r w7 ⟨rfl, hF7⟩
          have hF78 := hF7.alloc (.cells #[.int .u8 0, .int .u8 0, .int .u8 0, .int .u8 0, .int .u8 0, .int .u8 0, .int .u8 0, .int .u8 0, .int .u8 0, .int .u8 0, .int .u8 0, .int .u8 0, .int .u8 0, .int .u8 0, .int .u8 0, .int .u8 0, .int .u8 0, .int .u8 0, .int .u8 0, .int .u8 0, .int .u8 0, .int .u8 0, .int .u8 0, .int .u8 0, .int .u8 0, .int .u8 0, .int .u8 0, .int .u8 0, .int .u8 0, .int .u8 0, .int .u8 0, .int .u8 0] 24)
          have hq8 := range_block (heap_alloc_new w7 (.cells #[.int .u8 0, .int .u8 0, .int .u8 0, .int .u8 0, .int .u8 0, .int .u8 0, .int .u8 0, .int .u8 0, .int .u8 0, .int .u8 0, .int .u8 0, .int .u8 0, .int .u8 0, .int .u8 0, .int .u8 0, .int .u8 0, .int .u8 0, .int .u8 0, .int .u8 0, .int .u8 0, .int .u8 0, .int .u8 0, .int .u8 0, .int .u8 0, .int .u8 0, .int .u8 0, .int .u8 0, .int .u8 0, .int .u8 0, .int .u8 0, .int .u8 0, .int .u8 0] 24))
          clear Hat
          go_upto_region 25 with ((with_reducible refine wpList_store_new (w := w7) rfl 24 _ _ rfl _ #[.int .u8 0, .int .u8 0, .int .u8 0, .int .u8 0, .int .u8 0, .int .u8 0, .int .u8 0, .int .u8 0, .int .u8 0, .int .u8 0, .int .u8 0, .int .u8 0, .int .u8 0, .int .u8 0, .int .u8 0, .int .u8 0, .int .u8 0, .int .u8 0, .int .u8 0, .int .u8 0, .int .u8 0, .int .u8 0, .int .u8 0, .int .u8 0, .int .u8 0, .int .u8 0, .int .u8 0, .int .u8 0, .int .u8 0, .int .u8 0, .int .u8 0, .int .u8 0] w7.heap.size rfl ?_ ?_ z32_size z32_eq z32_all ?_); rfl; rfl)
          change Code.wp _ _ _ _ (w7.alloc (.cells #[.int .u8 0, .int .u8 0, .int .u8 0, .int .u8 0, .int .u8 0, .int .u8 0, .int .u8 0, .int .u8 0, .int .u8 0, .int .u8 0, .int .u8 0, .int .u8 0, .int .u8 0, .int .u8 0, .int .u8 0, .int .u8 0, .int .u8 0, .int .u8 0, .int .u8 0, .int .u8 0, .int .u8 0, .int .u8 0, .int .u8 0, .int .u8 0, .int .u8 0, .int .u8 0, .int .u8 0, .int .u8 0, .int .u8 0, .int .u8 0, .int .u8 0, .int .u8 0] 24))
          obtain ⟨w8, hw8⟩ : ∃ V, w7.alloc (.cells #[.int .u8 0, .int .u8 0, .int .u8 0, .int .u8 0, .int .u8 0, .int .u8 0, .int .u8 0, .int .u8 0, .int .u8 0, .int .u8 0, .int .u8 0, .int .u8 0, .int .u8 0, .int .u8 0, .int .u8 0, .int .u8 0, .int .u8 0, .int .u8 0, .int .u8 0, .int .u8 0, .int .u8 0, .int .u8 0, .int .u8 0, .int .u8 0, .int .u8 0, .int .u8 0, .int .u8 0, .int .u8 0, .int .u8 0, .int .u8 0, .int .u8 0, .int .u8 0] 24) = V := ⟨_, rfl⟩
          rw [hw8] at hF78 hq8 ⊢
          obtain ⟨q8, hq8e⟩ : ∃ x, w7.heap.size = x := ⟨_, rfl⟩
          rw [hq8e] at hq8 ⊢
          obtain ⟨ZL, hZL⟩ : ∃ C : List Value, C = Lib.byteCells zero32 := ⟨_, rfl⟩
          have hz1 : w8.rangeAt q8 0 ZL := by rw [hZL]; exact hq8
          have hz2 : (Tryz.prog.info? 24).map (·.size) = some ZL.length := by rw [hZL, byteCells_len, Tryz.sizeKey]; rfl
          have heql : (Op.equalIn 10000 24 (.agg ZL.toArray) (.agg #[.int .u8 0, .int .u8 0, .int .u8 0, .int .u8 0, .int .u8 0, .int .u8 0, .int .u8 0, .int .u8 0, .int .u8 0, .int .u8 0, .int .u8 0, .int .u8 0, .int .u8 0, .int .u8 0, .int .u8 0, .int .u8 0, .int .u8 0, .int .u8 0, .int .u8 0, .int .u8 0, .int .u8 0, .int .u8 0, .int .u8 0, .int .u8 0, .int .u8 0, .int .u8 0, .int .u8 0, .int .u8 0, .int .u8 0, .int .u8 0, .int .u8 0, .int .u8 0])).run Tryz.prog w8 = .ok true w8 := by rw [hZL]; exact eqz_key zero32 rfl w8
          have HQ8 := Lib.hid hz1
          have Hz2 := Lib.hid hz2
          have HFE := Lib.hid (HF0.out.trans' (HFr.out.trans' hF78))
          clear hz1 hz2 hZL
          clear hF7 hF78 hq8 hw8 hq8e
          go_wp2_with (first
            | (with_reducible refine wpList_load_g 24 _ rfl q8 0 rfl ZL (.array 32 5) HQ8.out Tryz.underKey rfl Hz2.out rfl ?_))
          go_ret
          exact ⟨rfl, HFE.out⟩
end Go.Proofs.YtcddlemkimbkcaaGreatDoor
