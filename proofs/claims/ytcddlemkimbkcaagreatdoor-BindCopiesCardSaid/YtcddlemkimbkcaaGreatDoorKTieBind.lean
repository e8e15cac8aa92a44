/-
 A table and the document's answer (cachetref17), as plain data: they say the same.
-/
import Derived.Test.YtcddlemkimbkcaaGreatDoorKAt
namespace Go.Proofs.YtcddlemkimbkcaaGreatDoor
set_option linter.unusedVariables false
set_option linter.unusedSimpArgs false
set_option linter.unusedSectionVars false
/-! the document's answer: a table is the bindings that came -/
abbrev Cm := En × Int
def rLast (m : List Cm) (n : Bs) : Option Cm := m.reverse.find? (fun c => decide (c.1.ident = n))
def rBound (m : List Cm) (n : Bs) : Bs × Bool := match rLast m n with | some c => if c.1.op = 3 then (zero32, false) else (c.1.key, true) | none => (zero32, false)
def hits (k : Bs) (c : Cm) : Bool := decide (c.1.op ≠ 3) && decide (c.1.key = k)
def rSpent (m : List Cm) (k : Bs) : Bool := match m.find? (hits k) with | some c => !(rBound m c.1.ident).2 || decide ((rBound m c.1.ident).1 ≠ k) | none => false
def rHist (m : List Cm) (n : Bs) : List Cm := m.filter (fun c => decide (c.1.ident = n))
def rAt (m : List Cm) (n : Bs) (p : Int) : Bs × Bool := match (rHist m n).reverse.find? (fun c => decide (c.2 ≤ p)) with | some c => (c.1.key, decide (c.1.op ≠ 3)) | none => (zero32, false)
/-- a table is what its bindings say -/
structure Tied (t : Tb) (m : List Cm) : Prop where
 hist : ∀ n, t.hist n = (rHist m n).map (fun c => newC c.1 c.2)
 zero : ∀ c ∈ m, c.1.op = 3 → c.1.key = zero32
 was : ∀ k, t.life k ≠ 0 ↔ ∃ c ∈ m, hits k c = true
 spent : ∀ k, t.life k = 2 ↔ rSpent m k = true
 once : m.Pairwise (fun a b => ∀ k, ¬ (hits k a = true ∧ hits k b = true))
theorem Tied.new : Tied Tb.new [] where
 hist n := rfl
 zero c hc := by cases hc
 was k := ⟨fun h => absurd rfl h, fun ⟨c, hc, _⟩ => by cases hc⟩
 spent k := ⟨fun h => (by cases h), fun h => (by cases h)⟩
 once := List.Pairwise.nil
theorem rLast_filter (m : List Cm) (n : Bs) : rLast m n = (rHist m n).reverse.head? := by
 unfold rLast rHist
 rw [← List.filter_reverse, List.head?_filter]
theorem lastC_map (l : List Cm) : lastC (l.map fun c => newC c.1 c.2) = match l.reverse.head? with | some c => newC c.1 c.2 | none => Chg.zero := by
 unfold lastC
 rw [List.head?_reverse, List.getLast?_map]
 cases l.getLast? <;> rfl
theorem Tied.last {t : Tb} {m : List Cm} (h : Tied t m) (n : Bs) : t.last n = match rLast m n with | some c => newC c.1 c.2 | none => Chg.zero := by
 unfold Tb.last
 rw [h.hist, lastC_map, rLast_filter]
theorem Tied.bound {t : Tb} {m : List Cm} (h : Tied t m) (n : Bs) : t.bound n = rBound m n := by
 unfold Tb.bound rBound
 rw [h.last]
 cases rLast m n with
 | none => rfl
 | some c =>
   simp only [newC]
   split <;> rfl
theorem rLast_mem {m : List Cm} {n : Bs} {c : Cm} (h : rLast m n = some c) : c ∈ m ∧ c.1.ident = n := by
 unfold rLast at h
 have h1 := List.mem_of_find?_eq_some h
 have h2 := List.find?_some h
 exact ⟨by simpa using h1, by simpa using h2⟩
theorem rLast_append (m : List Cm) (c : Cm) (n : Bs) : rLast (m ++ [c]) n = if c.1.ident = n then some c else rLast m n := by
 unfold rLast
 rw [List.reverse_append]
 show ([c] ++ m.reverse).find? _ = _
 rw [List.singleton_append, List.find?_cons]
 by_cases h : c.1.ident = n
 ·simp [h]
 ·simp [h]
theorem once_eq {m : List Cm} (h : m.Pairwise (fun a b => ∀ k, ¬ (hits k a = true ∧ hits k b = true))) : ∀ {a b : Cm}, a ∈ m → b ∈ m → ∀ {k}, hits k a = true → hits k b = true → a = b := by
 induction h with
 | nil => intro a b ha; cases ha
 | cons h1 h2 ih =>
   rename_i x l
   intro a b ha hb k ka kb
   rcases List.mem_cons.1 ha with ea | ha' <;> rcases List.mem_cons.1 hb with eb | hb'
   ·rw [ea, eb]
   ·exact absurd ⟨ea ▸ ka, kb⟩ (h1 b hb' k)
   ·exact absurd ⟨eb ▸ kb, ka⟩ (h1 a ha' k)
   ·exact ih ha' hb' ka kb
theorem Tied.came {sub : Bs → Bool} {t : Tb} {m : List Cm} {e : En} (h : Tied t m) (hr : t.right) (hb : pBind sub t e = 0) (hz : e.op = 3 → e.key = zero32) (p : Int) : Tied (t.came e p) (m ++ [(e, p)]) := by
 obtain ⟨l1, l2, l3, l4⟩ := came_life hb hr p
 obtain ⟨-, -, hfree⟩ := pBind_zero hb
 have hhit : ∀ k, hits k (e, p) = true ↔ e.op ≠ 3 ∧ e.key = k := fun k => by simp [hits]
 have hnone : e.op ≠ 3 → ∀ c ∈ m, hits e.key c = false := fun h3 c hc => by
  cases hh : hits e.key c with
  | false => rfl
  | true => exact absurd (hfree h3) ((h.was _).2 ⟨c, hc, hh⟩)
 refine ⟨fun n => ?_, fun c hc h3 => ?_, fun k => ?_, fun k => ?_, ?_⟩
 ·show upd t.hist e.ident _ n = _
  unfold rHist
  rw [List.filter_append, List.map_append]
  by_cases he : n = e.ident
  ·subst he
   rw [upd_same, h.hist]
   simp [rHist]
  ·rw [upd_other _ _ he, h.hist]
   have : ¬ e.ident = n := fun e' => he e'.symm
   simp [rHist, this]
 ·rcases List.mem_append.1 hc with hc | hc
  ·exact h.zero c hc h3
  ·obtain rfl : c = (e, p) := by simpa using hc
   exact hz h3
 ·constructor
  ·intro hk
   by_cases h0 : t.life k = 0
   ·-- it is new
    have hne : e.op ≠ 3 ∧ e.key = k := by
     apply Decidable.byContradiction
     intro hn
     apply hk
     have h5 : (if (t.last e.ident).has = true then upd t.life (t.last e.ident).key 2 else t.life) k = 0 := by
      split
      ·rename_i hh
       rw [upd_other _ _ (fun e' => hr _ hh (by rw [← e']; exact h0))]
       exact h0
      ·exact h0
     simp only [Tb.came]
     split
     ·exact h5
     ·rename_i h3
      rw [upd_other _ _ (fun e' => hn ⟨h3, e'.symm⟩)]
      exact h5
    exact ⟨(e, p), by simp, (hhit k).2 hne⟩
   ·obtain ⟨c, hc, hh⟩ := (h.was k).1 h0
    exact ⟨c, by simp [hc], hh⟩
  ·rintro ⟨c, hc, hh⟩
   rcases List.mem_append.1 hc with hc | hc
   ·exact l4 k ((h.was k).2 ⟨c, hc, hh⟩)
   ·obtain rfl : c = (e, p) := by simpa using hc
    obtain ⟨h3, rfl⟩ := (hhit k).1 hh
    rw [l1 h3]
    decide
 ·-- spent
  have hfind : ∀ c, (m ++ [(e, p)]).find? (hits k) = some c ↔ (m.find? (hits k) = some c ∨ (m.find? (hits k) = none ∧ hits k (e, p) = true ∧ c = (e, p))) := by
   intro c
   rw [List.find?_append]
   cases hf : m.find? (hits k) with
   | some d => simp
   | none =>
     simp only [Option.none_or, List.find?_cons, List.find?_nil]
     cases hh : hits k (e, p) with
     | true => simp [eq_comm]
     | false => simp
  have hbnd : ∀ n, rBound (m ++ [(e, p)]) n = if e.ident = n then (if e.op = 3 then (zero32, false) else (e.key, true)) else rBound m n := by
   intro n
   unfold rBound
   rw [rLast_append]
   by_cases he : e.ident = n
   ·simp [he]
   ·simp [he]
  cases hf : m.find? (hits k) with
  | none =>
    have h0 : t.life k = 0 := Decidable.byContradiction fun hn => by
     obtain ⟨c, hc, hh⟩ := (h.was k).1 hn
     exact (List.find?_eq_none.1 hf c hc) hh
    cases hh : hits k (e, p) with
    | true =>
      obtain ⟨h3, rfl⟩ := (hhit k).1 hh
      have e1 := (hfind (e, p)).2 (.inr ⟨hf, hh, rfl⟩)
      constructor
      ·intro h5; rw [l1 h3] at h5; cases h5
      ·intro h5
       unfold rSpent at h5
       rw [e1] at h5
       simp [hbnd, h3] at h5
    | false =>
      have e1 : (m ++ [(e, p)]).find? (hits k) = none := by
       rw [List.find?_append, hf]
       simp [hh]
      constructor
      ·intro h5
       exfalso
       have hn : ¬ (e.op ≠ 3 ∧ e.key = k) := fun hx => by have := (hhit k).2 hx; rw [hh] at this; cases this
       have h6 : (if (t.last e.ident).has = true then upd t.life (t.last e.ident).key 2 else t.life) k = 0 := by
        split
        ·rename_i hh
         rw [upd_other _ _ (fun e' => hr _ hh (by rw [← e']; exact h0))]
         exact h0
        ·exact h0
       have h7 : (t.came e p).life k = 0 := by
        simp only [Tb.came]
        split
        ·exact h6
        ·rename_i h3
         rw [upd_other _ _ (fun e' => hn ⟨h3, e'.symm⟩)]
         exact h6
       rw [h7] at h5
       cases h5
      ·intro h5
       unfold rSpent at h5
       rw [e1] at h5
       cases h5
  | some c =>
    have hcm := List.mem_of_find?_eq_some hf
    have hck := List.find?_some hf
    have e1 := (hfind c).2 (.inl hf)
    have hcop : c.1.op ≠ 3 ∧ c.1.key = k := by simpa [hits] using hck
    have hwas : t.life k ≠ 0 := (h.was k).2 ⟨c, hcm, hck⟩
    have hke : ¬ (e.op ≠ 3 ∧ e.key = k) := fun ⟨h3, hk⟩ => hwas (by rw [← hk]; exact hfree h3)
    have hsp : rSpent m k = (!(rBound m c.1.ident).2 || decide ((rBound m c.1.ident).1 ≠ k)) := by unfold rSpent; rw [hf]
    have hsp' : rSpent (m ++ [(e, p)]) k = (!(rBound (m ++ [(e, p)]) c.1.ident).2 || decide ((rBound (m ++ [(e, p)]) c.1.ident).1 ≠ k)) := by unfold rSpent; rw [e1]
    have hlife : (t.came e p).life k = (if (t.last e.ident).has = true then upd t.life (t.last e.ident).key 2 else t.life) k := by
     simp only [Tb.came]
     split
     ·rfl
     ·rename_i h3
      rw [upd_other _ _ (fun e' => hke ⟨h3, e'.symm⟩)]
    have hbd := h.bound e.ident
    by_cases hid : e.ident = c.1.ident
    ·have ht : rSpent (m ++ [(e, p)]) k = true := by
      rw [hsp', hbnd, if_pos hid]
      by_cases h3 : e.op = 3
      ·simp [h3]
      ·have : ¬ e.key = k := fun hk => hke ⟨h3, hk⟩
       simp [h3, this]
     rw [ht]
     refine ⟨fun _ => rfl, fun _ => ?_⟩
     rw [hlife]
     by_cases hh : (t.last e.ident).has = true ∧ (t.last e.ident).key = k
     ·rw [if_pos hh.1, ← hh.2, upd_same]
     ·have h2 : t.life k = 2 := by
       rw [h.spent, hsp, ← hid, ← hbd]
       unfold Tb.bound
       cases hx : (t.last e.ident).has with
       | false => rfl
       | true =>
         have : ¬ (t.last e.ident).key = k := fun e' => hh ⟨hx, e'⟩
         simp [this]
      split
      ·rename_i hx
       rw [upd_other _ _ (fun e' => hh ⟨hx, e'.symm⟩)]
       exact h2
      ·exact h2
    ·have hsame : rSpent (m ++ [(e, p)]) k = rSpent m k := by rw [hsp', hbnd, if_neg hid, hsp]
     rw [hsame, ← h.spent, hlife]
     split
     ·rename_i hx
      rw [upd_other _ _ (fun e' => ?_)]
      -- the old key is another one
      have hl := h.last e.ident
      cases hq : rLast m e.ident with
      | none =>
        rw [hq] at hl
        rw [hl] at hx
        cases hx
      | some d =>
        rw [hq] at hl
        obtain ⟨hdm, hdi⟩ := rLast_mem hq
        simp only at hl
        by_cases h3 : d.1.op = 3
        ·rw [hl, newC, if_pos h3] at hx
         cases hx
        ·rw [hl, newC, if_neg h3] at e'
         have hdk : hits k d = true := by
          have e5 : d.1.key = k := e'.symm
          simp [hits, h3, e5]
         obtain rfl := once_eq h.once hdm hcm hdk hck
         exact hid hdi.symm
     ·rfl
 ·rw [List.pairwise_append]
  refine ⟨h.once, List.pairwise_singleton _ _, fun a ha b hb' k => ?_⟩
  obtain rfl : b = (e, p) := by simpa using hb'
  rintro ⟨h5, h6⟩
  obtain ⟨h3, rfl⟩ := (hhit k).1 h6
  rw [hnone h3 a ha] at h5
  cases h5
theorem find_map_rev {l : List Cm} {p : Int} : (l.map fun c => newC c.1 c.2).reverse.find? (fun c => decide (c.pos ≤ p)) = (l.reverse.find? (fun c => decide (c.2 ≤ p))).map (fun c => newC c.1 c.2) := by
 rw [← List.map_reverse, List.find?_map]
 have : ((fun c : Chg => decide (c.pos ≤ p)) ∘ fun c : Cm => newC c.1 c.2) = fun c : Cm => decide (c.2 ≤ p) := by
  funext c
  simp only [Function.comp, newC]
  split <;> rfl
 rw [this]
theorem Tied.at' {t : Tb} {m : List Cm} (h : Tied t m) (n : Bs) (p : Int) : pAt (t.hist n) p = rAt m n p := by
 unfold pAt rAt
 rw [h.hist, find_map_rev]
 cases hq : (rHist m n).reverse.find? (fun c => decide (c.2 ≤ p)) with
 | none => rfl
 | some c =>
   have hm := List.mem_of_find?_eq_some hq
   have hm2 : c ∈ m := by
    have : c ∈ rHist m n := by simpa using hm
    exact (List.mem_filter.1 this).1
   simp only [Option.map_some, newC]
   by_cases h3 : c.1.op = 3
   ·simp [h3, h.zero c hm2 h3]
   ·simp [h3]
end Go.Proofs.YtcddlemkimbkcaaGreatDoor
