/-
  In one: SpecMerge, Rotate, SymMerge, SymMerge2, SymMerge3, SpecBlocks, Stable2.
-/
import Derived.Test.YtbfmpbhikipipaaGreatDoorKPairs
import Derived.Test.YtbfmpbhikipipaaGreatDoorKStable
namespace Go.Proofs.YtbfmpbhikipipaaGreatDoor
set_option linter.unusedVariables false
set_option linter.unusedSimpArgs false
set_option linter.unusedSectionVars false

theorem bl_cons (a b : UInt8) (x y : Bs) : Op.bytesLess (a :: x) (b :: y) = (decide (a.toNat < b.toNat) || (decide (a.toNat = b.toNat) && Op.bytesLess x y)) := by
  rw [Op.bytesLess]
  have h1 : decide (a < b) = decide (a.toNat < b.toNat) := by rw [decide_eq_decide]; exact UInt8.lt_iff_toNat_lt
  have h2 : (a == b) = decide (a.toNat = b.toNat) := by rw [Bool.eq_iff_iff, beq_iff_eq, decide_eq_true_eq]; exact UInt8.toNat_inj.symm
  rw [h1, h2]
theorem bl_irrefl : ∀ x : Bs, Op.bytesLess x x = false := by
  intro x
  induction x with
  | nil => rfl
  | cons a x ih => rw [bl_cons, ih]; simp
theorem bl_trans : ∀ x y z : Bs, Op.bytesLess x y = true → Op.bytesLess y z = true → Op.bytesLess x z = true := by
  intro x
  induction x with
  | nil =>
    intro y z h1 h2
    cases z with
    | nil => simp [Op.bytesLess] at h2
    | cons c z => rfl
  | cons a x ih =>
    intro y z h1 h2
    cases y with
    | nil => simp [Op.bytesLess] at h1
    | cons b y =>
      cases z with
      | nil => simp [Op.bytesLess] at h2
      | cons c z =>
        rw [bl_cons] at h1 h2 ⊢
        simp only [Bool.or_eq_true, Bool.and_eq_true, decide_eq_true_eq] at h1 h2 ⊢
        rcases h1 with h1 | ⟨h1, h1'⟩
        · rcases h2 with h2 | ⟨h2, h2'⟩
          · left; omega
          · left; omega
        · rcases h2 with h2 | ⟨h2, h2'⟩
          · left; omega
          · right; exact ⟨by omega, ih _ _ h1' h2'⟩
/-- what is between two: less than the greater, or greater than the less -/
theorem bl_mid : ∀ x y z : Bs, Op.bytesLess x z = true → Op.bytesLess x y = true ∨ Op.bytesLess y z = true := by
  intro x
  induction x with
  | nil =>
    intro y z h
    cases y with
    | nil => right; exact h
    | cons b y => left; rfl
  | cons a x ih =>
    intro y z h
    cases z with
    | nil => simp [Op.bytesLess] at h
    | cons c z =>
      cases y with
      | nil => right; rfl
      | cons b y =>
        rw [bl_cons] at h
        rw [bl_cons, bl_cons]
        simp only [Bool.or_eq_true, Bool.and_eq_true, decide_eq_true_eq] at h ⊢
        rcases h with h | ⟨h, h'⟩
        · by_cases h1 : a.toNat < b.toNat
          · left; left; exact h1
          · right; left; omega
        · by_cases h1 : a.toNat < b.toNat
          · left; left; exact h1
          · by_cases h2 : b.toNat < c.toNat
            · right; left; exact h2
            · have e : a.toNat = b.toNat := by omega
              rcases ih y z h' with h3 | h3
              · left; right; exact ⟨e, h3⟩
              · right; right; exact ⟨by omega, h3⟩

section
variable {α : Type} (key : α → Bs)
/-- less, by the keys -/
def lk (x y : α) : Bool := Op.bytesLess (key x) (key y)
/-- in rising order -/
def Asc (l : List α) : Prop := List.Pairwise (fun x y => lk key y x = false) l
/-- set in behind what is no greater -/
def insF (x : α) : List α → List α
  | [] => [x]
  | y :: l => if lk key x y then x :: y :: l else y :: insF x l
/-- two lists made one, equals of the first one first -/
def mrg : List α → List α → List α
  | [], v => v
  | x :: u, [] => x :: u
  | x :: u, y :: v => if lk key y x then y :: mrg (x :: u) v else x :: mrg u (y :: v)
termination_by u v => u.length + v.length
variable {key}
theorem lk_trans {x y z : α} (h1 : lk key x y = true) (h2 : lk key y z = true) : lk key x z = true := bl_trans _ _ _ h1 h2
theorem lk_mid {x z : α} (y : α) (h : lk key x z = true) : lk key x y = true ∨ lk key y z = true := bl_mid _ _ _ h
theorem mrg_nil (u : List α) : mrg key u [] = u := by cases u <;> simp [mrg]
theorem nil_mrg (v : List α) : mrg key [] v = v := by simp [mrg]
theorem mrg_cons (x y : α) (u v : List α) : mrg key (x :: u) (y :: v) = if lk key y x then y :: mrg key (x :: u) v else x :: mrg key u (y :: v) := by
  conv => lhs; rw [mrg]
theorem mrg_length : ∀ (n : Nat) (u v : List α), u.length + v.length = n → (mrg key u v).length = u.length + v.length := by
  intro n
  induction n using Nat.strongRecOn with
  | _ n ih =>
    intro u v hn
    cases u with
    | nil => rw [nil_mrg]; simp
    | cons x u =>
      cases v with
      | nil => rw [mrg_nil]; simp
      | cons y v =>
        rw [mrg_cons]
        split
        · have := ih ((x :: u).length + v.length) (by simp at hn ⊢; omega) (x :: u) v rfl
          simp at this ⊢; omega
        · have := ih (u.length + (y :: v).length) (by simp at hn ⊢; omega) u (y :: v) rfl
          simp at this ⊢; omega
theorem insF_length (x : α) : ∀ l : List α, (insF key x l).length = l.length + 1 := by
  intro l
  induction l with
  | nil => rfl
  | cons y l ih => unfold insF; split <;> simp [ih]
theorem insF_mem (x : α) : ∀ (l : List α) (z : α), z ∈ insF key x l ↔ z = x ∨ z ∈ l := by
  intro l
  induction l with
  | nil => intro z; simp [insF]
  | cons y l ih =>
    intro z
    unfold insF
    split
    · simp
    · rw [List.mem_cons, ih, List.mem_cons]
      constructor
      · rintro (h | h | h) <;> simp [h]
      · rintro (h | h | h) <;> simp [h]
theorem insF_asc (x : α) : ∀ l : List α, Asc key l → Asc key (insF key x l) := by
  intro l
  induction l with
  | nil => intro _; unfold insF Asc; simp
  | cons y l ih =>
    intro h
    unfold Asc at h
    rw [List.pairwise_cons] at h
    unfold insF
    split
    · rename_i hxy
      unfold Asc
      rw [List.pairwise_cons, List.pairwise_cons]
      refine ⟨?_, h⟩
      intro z hz
      cases hzx : lk key z x with
      | false => rfl
      | true =>
        rcases List.mem_cons.1 hz with rfl | hz
        · have := lk_trans hxy hzx
          unfold lk at this
          rw [bl_irrefl] at this
          cases this
        · have h1 := h.1 z hz
          rw [lk_trans hzx hxy] at h1
          cases h1
    · rename_i hxy
      unfold Asc
      rw [List.pairwise_cons]
      refine ⟨?_, ih h.2⟩
      intro z hz
      rw [insF_mem] at hz
      rcases hz with rfl | hz
      · simpa using hxy
      · exact h.1 z hz
theorem insF_snoc (x y : α) : ∀ s : List α, Asc key (s ++ [y]) → insF key x (s ++ [y]) = if lk key x y then insF key x s ++ [y] else s ++ [y, x] := by
  intro s
  induction s with
  | nil => intro _; simp [insF]
  | cons z s ih =>
    intro h
    unfold Asc at h
    rw [List.cons_append, List.pairwise_cons] at h
    rw [List.cons_append]
    unfold insF
    split
    · rename_i hxz
      have hzy := h.1 y (by simp)
      rcases lk_mid y hxz with h1 | h1
      · rw [if_pos h1]; rfl
      · rw [h1] at hzy; cases hzy
    · rw [ih h.2]
      split <;> rfl
theorem asc_reverse_tail {y : α} {l : List α} (h : Asc key (l.reverse ++ [y])) : Asc key l.reverse := by
  unfold Asc at h ⊢
  exact (List.pairwise_append.1 h).1
theorem insR_eq (x : α) : ∀ acc : List α, Asc key acc.reverse → (insR key x acc).reverse = insF key x acc.reverse := by
  intro acc
  induction acc with
  | nil => intro _; rfl
  | cons y l ih =>
    intro h
    rw [List.reverse_cons] at h ⊢
    rw [insF_snoc x y _ h]
    unfold insR
    change (if lk key x y = true then _ else _ : List α).reverse = _
    split
    · rw [List.reverse_cons, ih (asc_reverse_tail h)]
    · simp
theorem isortR_snoc (x : α) : ∀ (l acc : List α), isortR key acc (l ++ [x]) = insR key x (isortR key acc l) := by
  intro l
  induction l with
  | nil => intro acc; rfl
  | cons y l ih => intro acc; rw [List.cons_append, isortR, isortR, ih]
theorem isort_facts : ∀ l : List α, Asc key (isort key l) ∧ ∀ x, isort key (l ++ [x]) = insF key x (isort key l) := by
  have main : ∀ (n : Nat) (l : List α), l.length = n → Asc key (isort key l) := by
    intro n
    induction n with
    | zero =>
      intro l hl
      have : l = [] := List.length_eq_zero_iff.1 hl
      subst this
      exact List.Pairwise.nil
    | succ n ih =>
      intro l hl
      have hne : l ≠ [] := by intro h; subst h; simp at hl
      obtain ⟨s, x, rfl⟩ : ∃ s x, l = s ++ [x] := ⟨l.dropLast, l.getLast hne, (List.dropLast_concat_getLast hne).symm⟩
      have hs := ih s (by simp at hl; exact hl)
      unfold isort at hs ⊢
      rw [isortR_snoc, insR_eq x _ hs]
      exact insF_asc x _ hs
  intro l
  refine ⟨main _ l rfl, fun x => ?_⟩
  have hs := main _ l rfl
  unfold isort at hs ⊢
  rw [isortR_snoc, insR_eq x _ hs]
theorem mrg_one (x : α) : ∀ s : List α, mrg key s [x] = insF key x s := by
  intro s
  induction s with
  | nil => simp [mrg, insF]
  | cons a s ih =>
    rw [mrg_cons]
    unfold insF
    split
    · rw [mrg_nil]
    · rw [ih]
theorem ins_mrg (x : α) : ∀ (n : Nat) (s t : List α), s.length + t.length = n → insF key x (mrg key s t) = mrg key s (insF key x t) := by
  intro n
  induction n using Nat.strongRecOn with
  | _ n ih =>
    intro s t hn
    cases s with
    | nil => rw [nil_mrg, nil_mrg]
    | cons a s =>
      cases t with
      | nil =>
        rw [mrg_nil]
        show _ = mrg key (a :: s) [x]
        rw [mrg_one]
      | cons y t =>
        have i1 := ih (s.length + (y :: t).length) (by simp at hn ⊢; omega) s (y :: t) rfl
        have i2 := ih ((a :: s).length + t.length) (by simp at hn ⊢; omega) (a :: s) t rfl
        rw [mrg_cons]
        by_cases h1 : lk key y a = true
        · rw [if_pos h1]
          by_cases h2 : lk key x y = true
          · have e : insF key x (y :: t) = x :: y :: t := by unfold insF; rw [if_pos h2]
            have e2 : insF key x (y :: mrg key (a :: s) t) = x :: y :: mrg key (a :: s) t := by unfold insF; rw [if_pos h2]
            rw [e, e2, mrg_cons, if_pos (lk_trans h2 h1), mrg_cons, if_pos h1]
          · have e : insF key x (y :: t) = y :: insF key x t := by conv => lhs; unfold insF; rw [if_neg h2]
            have e2 : insF key x (y :: mrg key (a :: s) t) = y :: insF key x (mrg key (a :: s) t) := by conv => lhs; unfold insF; rw [if_neg h2]
            rw [e, e2, mrg_cons, if_pos h1, i2]
        · rw [if_neg h1]
          by_cases h2 : lk key x a = true
          · have e2 : insF key x (a :: mrg key s (y :: t)) = x :: a :: mrg key s (y :: t) := by unfold insF; rw [if_pos h2]
            have h3 : lk key x y = true := (lk_mid y h2).elim id (fun h => absurd h h1)
            have e : insF key x (y :: t) = x :: y :: t := by unfold insF; rw [if_pos h3]
            rw [e, e2, mrg_cons, if_pos h2, mrg_cons, if_neg h1]
          · have e2 : insF key x (a :: mrg key s (y :: t)) = a :: insF key x (mrg key s (y :: t)) := by conv => lhs; unfold insF; rw [if_neg h2]
            rw [e2, i1]
            by_cases h3 : lk key x y = true
            · have e : insF key x (y :: t) = x :: y :: t := by unfold insF; rw [if_pos h3]
              rw [e, mrg_cons, if_neg h2]
            · have e : insF key x (y :: t) = y :: insF key x t := by conv => lhs; unfold insF; rw [if_neg h3]
              rw [e, mrg_cons, if_neg h1]
/-- what is sorted by parts and merged is sorted -/
theorem isort_append : ∀ (n : Nat) (u v : List α), v.length = n → isort key (u ++ v) = mrg key (isort key u) (isort key v) := by
  intro n
  induction n with
  | zero =>
    intro u v hv
    have : v = [] := List.length_eq_zero_iff.1 hv
    subst this
    rw [List.append_nil]
    show _ = mrg key (isort key u) []
    rw [mrg_nil]
  | succ n ih =>
    intro u v hv
    have hne : v ≠ [] := by intro h; subst h; simp at hv
    obtain ⟨s, x, rfl⟩ : ∃ s x, v = s ++ [x] := ⟨v.dropLast, v.getLast hne, (List.dropLast_concat_getLast hne).symm⟩
    rw [← List.append_assoc, (isort_facts (u ++ s)).2 x, (isort_facts s).2 x, ih u s (by simp at hv; exact hv), ins_mrg x _ _ _ rfl]
theorem mrg_split : ∀ (n : Nat) (u1 u2 v1 v2 : List α), u1.length + v1.length = n → (∀ y ∈ v1, ∀ x ∈ u2, lk key y x = true) → (∀ x ∈ u1, ∀ y ∈ v2, lk key y x = false) → mrg key (u1 ++ u2) (v1 ++ v2) = mrg key u1 v1 ++ mrg key u2 v2 := by
  intro n
  induction n with
  | zero =>
    intro u1 u2 v1 v2 hn _ _
    have h1 : u1 = [] := List.length_eq_zero_iff.1 (by omega)
    have h2 : v1 = [] := List.length_eq_zero_iff.1 (by omega)
    subst h1 h2
    rw [nil_mrg]
    rfl
  | succ n ih =>
    intro u1 u2 v1 v2 hn h1 h2
    cases u1 with
    | nil =>
      cases v1 with
      | nil => simp at hn
      | cons y v1 =>
        have i := ih [] u2 v1 v2 (by simp at hn ⊢; omega) (fun y' hy => h1 y' (List.mem_cons_of_mem _ hy)) (by simp)
        rw [nil_mrg] at i
        rw [nil_mrg, List.nil_append]
        cases u2 with
        | nil => rw [nil_mrg, nil_mrg]
        | cons x u2 =>
          rw [List.cons_append, mrg_cons, if_pos (h1 y (by simp) x (by simp))]
          rw [List.nil_append] at i
          rw [i]
          rfl
    | cons x u1 =>
      cases v1 with
      | nil =>
        have i := ih u1 u2 [] v2 (by simp at hn ⊢; omega) (by simp) (fun x' hx => h2 x' (List.mem_cons_of_mem _ hx))
        rw [mrg_nil, List.nil_append] at i
        rw [mrg_nil, List.nil_append]
        cases v2 with
        | nil => rw [mrg_nil, mrg_nil]
        | cons y v2 =>
          rw [List.cons_append, mrg_cons, h2 x (by simp) y (by simp)]
          simp only [Bool.false_eq_true, if_false]
          rw [i]
          rfl
      | cons y v1 =>
        rw [List.cons_append, List.cons_append, mrg_cons, mrg_cons]
        split
        · have i := ih (x :: u1) u2 v1 v2 (by simp at hn ⊢; omega) (fun y' hy => h1 y' (List.mem_cons_of_mem _ hy)) h2
          rw [List.cons_append] at i
          rw [i]
          rfl
        · have i := ih u1 u2 (y :: v1) v2 (by simp at hn ⊢; omega) h1 (fun x' hx => h2 x' (List.mem_cons_of_mem _ hx))
          rw [List.cons_append] at i
          rw [i]
          rfl
theorem mrg_first {x : α} {v1 v2 : List α} (h1 : ∀ y ∈ v1, lk key y x = true) (h2 : ∀ y ∈ v2, lk key y x = false) : mrg key [x] (v1 ++ v2) = v1 ++ x :: v2 := by
  have a := mrg_split _ [] [x] v1 v2 rfl (fun y hy x' hx => by simp at hx; subst hx; exact h1 y hy) (by simp)
  have b := mrg_split _ [x] [] [] v2 rfl (by simp) (fun x' hx y hy => by simp at hx; subst hx; exact h2 y hy)
  simp only [List.nil_append, List.append_nil, nil_mrg, mrg_nil] at a b
  rw [a, b]
  rfl
theorem mrg_last {y : α} {u1 u2 : List α} (h1 : ∀ x ∈ u1, lk key y x = false) (h2 : ∀ x ∈ u2, lk key y x = true) : mrg key (u1 ++ u2) [y] = u1 ++ y :: u2 := by
  have a := mrg_split _ u1 u2 [] [y] rfl (by simp) (fun x' hx y' hy => by simp at hy; subst hy; exact h1 x' hx)
  have b := mrg_split _ [] u2 [y] [] rfl (fun y' hy x hx => by simp at hy; subst hy; exact h2 x hx) (by simp)
  simp only [List.nil_append, List.append_nil, nil_mrg, mrg_nil] at a b
  rw [a, b]
  rfl
end
end Go.Proofs.YtbfmpbhikipipaaGreatDoor
namespace Go.Proofs.YtbfmpbhikipipaaGreatDoor
set_option linter.unusedVariables false
set_option linter.unusedSimpArgs false
set_option linter.unusedSectionVars false
open Go.RowKit

theorem PRow.two2 {b o i1 i2 : Nat} {L1 L2 L3 : List PV} {p q : PV} {w : World} (h : PRow b o (L1 ++ p :: (L2 ++ q :: L3)) w) (h1 : L1.length = i1) (h2 : i1 + 1 + L2.length = i2) :
    (w.cell? ⟨b, o + i1 * 6, none⟩ = some (.string ⟨p.nm.toArray⟩) ∧ w.cell? ⟨b, o + i1 * 6 + 1, none⟩ = some (.int .i64 p.k) ∧ w.cell? ⟨b, o + i1 * 6 + 2, none⟩ = some (.int .i64 p.n) ∧
      w.cell? ⟨b, o + i1 * 6 + 3, none⟩ = some (.string ⟨p.t.toArray⟩) ∧ w.cell? ⟨b, o + i1 * 6 + 4, none⟩ = some (.slice p.a1 p.n1 p.c1) ∧ w.cell? ⟨b, o + i1 * 6 + 5, none⟩ = some (.slice p.a2 p.n2 p.c2)) ∧
    (w.cell? ⟨b, o + i2 * 6, none⟩ = some (.string ⟨q.nm.toArray⟩) ∧ w.cell? ⟨b, o + i2 * 6 + 1, none⟩ = some (.int .i64 q.k) ∧ w.cell? ⟨b, o + i2 * 6 + 2, none⟩ = some (.int .i64 q.n) ∧
      w.cell? ⟨b, o + i2 * 6 + 3, none⟩ = some (.string ⟨q.t.toArray⟩) ∧ w.cell? ⟨b, o + i2 * 6 + 4, none⟩ = some (.slice q.a1 q.n1 q.c1) ∧ w.cell? ⟨b, o + i2 * 6 + 5, none⟩ = some (.slice q.a2 q.n2 q.c2)) := by
  refine ⟨h.at (i := i1) (p := p) ?_, h.at (i := i2) (p := q) ?_⟩
  · subst h1; simp
  · subst h1
    have e : L1 ++ p :: (L2 ++ q :: L3) = (L1 ++ p :: L2) ++ q :: L3 := by simp
    rw [e, List.getElem?_append_right (by simp; omega)]
    have : i2 - (L1 ++ p :: L2).length = 0 := by simp; omega
    rw [this]
    rfl
theorem PRow.swap2 {b o i1 i2 : Nat} {L1 L2 L3 : List PV} {p q : PV} {W : World} (h : PRow b o (L1 ++ p :: (L2 ++ q :: L3)) W) (h1 : L1.length = i1) (h2 : i1 + 1 + L2.length = i2) :
    PRow b o (L1 ++ q :: (L2 ++ p :: L3)) (put6 b (o + i2 * 6) (.string ⟨p.nm.toArray⟩) (.int .i64 p.k) (.int .i64 p.n) (.string ⟨p.t.toArray⟩) (.slice p.a1 p.n1 p.c1) (.slice p.a2 p.n2 p.c2)
      (put6 b (o + i1 * 6) (.string ⟨q.nm.toArray⟩) (.int .i64 q.k) (.int .i64 q.n) (.string ⟨q.t.toArray⟩) (.slice q.a1 q.n1 q.c1) (.slice q.a2 q.n2 q.c2) W)) := by
  subst h1
  have h3 := h.put q
  have e : L1 ++ q :: (L2 ++ q :: L3) = (L1 ++ q :: L2) ++ q :: L3 := by simp
  have e2 : (L1 ++ q :: L2).length = i2 := by simp; omega
  rw [e] at h3
  have h4 := h3.put p
  rw [e2] at h4
  have e3 : (L1 ++ q :: L2) ++ p :: L3 = L1 ++ q :: (L2 ++ p :: L3) := by simp
  rw [e3] at h4
  exact h4

set_option maxRecDepth 100000 in
set_option maxHeartbeats 2000000 in
theorem swapRange_c (b o c n x y k : Nat) (A X M Y B : List PV) (w : World) (h : PRow b o (A ++ (X ++ (M ++ (Y ++ B)))) w) (hA : A.length = x) (hX : X.length = k) (hY : Y.length = k) (hy : x + k + M.length = y) (hn : y + k + B.length = n) (hn' : n ≤ 67108864) :
    Calls Tryz.prog 128 #[.slice (some ⟨b, o, none⟩) n c, .int .i64 x, .int .i64 y, .int .i64 k, .func (.func 58) #[] #[]] w fun e w' =>
      e = .returned (.tuple #[]) ∧ PRow b o (A ++ (Y ++ (M ++ (X ++ B)))) w' ∧ Fr (MBk b) w w' := by
  have H := Lib.hid h
  have HA := Lib.hid hA
  have HX := Lib.hid hX
  have HY := Lib.hid hY
  have Hy := Lib.hid hy
  have Hn := Lib.hid hn
  clear h hA hX hY hy hn
  go_enter Tryz.func128, Tryz.ntmps128
  go_wp2_with fail
  go_loopg [10] (k + 1) (fun g vi wr => ∃ (i : Nat) (X1 X2 Y1 Y2 : List PV), vi = .int .i64 i ∧ i ≤ k ∧ i + g = k + 1 ∧ Hid (X = X1 ++ X2) ∧ Hid (Y = Y1 ++ Y2) ∧ Hid (X1.length = i) ∧ Hid (Y1.length = i) ∧
    Hid (PRow b o (A ++ (Y1 ++ (X2 ++ (M ++ (X1 ++ (Y2 ++ B)))))) wr) ∧ Hid (Fr (MBk b) w wr))
  case atStart => exact ⟨0, [], X, [], Y, rfl, by omega, by omega, rfl, rfl, rfl, rfl, H, Lib.hid Fr.refl⟩
  case round =>
    obtain ⟨i, X1, X2, Y1, Y2, rfl, hi, hgk, HXs, HYs, HX1, HY1, HP, HF⟩ := hrel
    rcases Nat.lt_or_ge i k with hlt | hge
    · obtain ⟨p, X3, hX2⟩ : ∃ p X3, X2 = p :: X3 := by
        cases X2 with
        | nil =>
          have h1 := HX.out
          have h2 := HXs.out
          have h3 := HX1.out
          rw [h2] at h1
          simp at h1
          omega
        | cons p X3 => exact ⟨p, X3, rfl⟩
      obtain ⟨q, Y3, hY2⟩ : ∃ q Y3, Y2 = q :: Y3 := by
        cases Y2 with
        | nil =>
          have h1 := HY.out
          have h2 := HYs.out
          have h3 := HY1.out
          rw [h2] at h1
          simp at h1
          omega
        | cons q Y3 => exact ⟨q, Y3, rfl⟩
      subst hX2 hY2
      obtain ⟨i1, hi1⟩ : ∃ i1, x + i = i1 := ⟨_, rfl⟩
      obtain ⟨i2, hi2⟩ : ∃ i2, y + i = i2 := ⟨_, rfl⟩
      have hXl : X1.length + (X3.length + 1) = k := by have h1 := HX.out; rw [HXs.out] at h1; simpa using h1
      have hP0 : PRow b o ((A ++ Y1) ++ p :: ((X3 ++ (M ++ X1)) ++ q :: (Y3 ++ B))) wr := by simpa using HP.out
      have hL1 : (A ++ Y1).length = i1 := by have := HA.out; have := HY1.out; simp; omega
      have hL2 : i1 + 1 + (X3 ++ (M ++ X1)).length = i2 := by have := HX1.out; have := Hy.out; simp; omega
      obtain ⟨⟨p0, p1, p2, p3, p4, p5⟩, q0, q1, q2, q3, q4, q5⟩ := hP0.two2 hL1 hL2
      have fz := hP0.open
      have hput : PRow b o ((A ++ Y1) ++ q :: ((X3 ++ (M ++ X1)) ++ q :: (Y3 ++ B))) _ := hP0.put q
      rw [hL1] at hput
      obtain ⟨_, s0, s1, s2, s3, s4, s5⟩ := hput.two2 hL1 hL2
      unfold put6 put5 at s0 s1 s2 s3 s4 s5
      clear hput
      have e1 : (x : Int) + (i : Int) = (i1 : Int) := by omega
      have e2 : (y : Int) + (i : Int) = (i2 : Int) := by omega
      have hn2 : i2 < n := by have := Hn.out; omega
      have hn1 : i1 < n := by omega
      have w1 : IntKind.i64.wrap (i1 : Int) = i1 := by rw [IntKind.wrap_i64]; omega
      have w2 : IntKind.i64.wrap (i2 : Int) = i2 := by rw [IntKind.wrap_i64]; omega
      have HP0 := Lib.hid hP0
      have HL1 := Lib.hid hL1
      have HL2 := Lib.hid hL2
      have Hi1 := Lib.hid hi1
      have Hi2 := Lib.hid hi2
      have HXl := Lib.hid hXl
      clear hP0 hL1 hL2 hi1 hi2 HP hXl
      go_wp2_with fail
      go_region
      go_wp2_with fail
      go_roundg (gk - 1)
      case measure => omega
      case rel =>
        refine ⟨i + 1, X1 ++ [p], X3, Y1 ++ [q], Y3, by simp, by omega, by omega, Lib.hid (by rw [HXs.out]; simp), Lib.hid (by rw [HYs.out]; simp), Lib.hid (by have := HX1.out; simp; omega), Lib.hid (by have := HY1.out; simp; omega), ?_, ?_⟩
        · have h1 := (HP0.out.swap2 HL1.out HL2.out).drew
          have e : A ++ ((Y1 ++ [q]) ++ (X3 ++ (M ++ ((X1 ++ [p]) ++ (Y3 ++ B))))) = (A ++ Y1) ++ q :: ((X3 ++ (M ++ X1)) ++ p :: (Y3 ++ B)) := by simp
          rw [e]
          exact h1
        · exact Lib.hid (((HF.out.put6 b _ _ _ _ _ _ _ (fun _ _ => rfl)).put6 b _ _ _ _ _ _ _ (fun _ _ => rfl)).drew)
    · obtain rfl : i = k := by omega
      have hX2 : X2 = [] := by
        have h1 := HX.out
        rw [HXs.out] at h1
        have h3 := HX1.out
        simp at h1
        exact List.length_eq_zero_iff.1 (by omega)
      have hY2 : Y2 = [] := by
        have h1 := HY.out
        rw [HYs.out] at h1
        have h3 := HY1.out
        simp at h1
        exact List.length_eq_zero_iff.1 (by omega)
      subst hX2 hY2
      have hR : PRow b o (A ++ (Y ++ (M ++ (X ++ B)))) wr := by
        have := HP.out
        rw [HXs.out, HYs.out]
        simpa using this
      have HR := Lib.hid hR
      clear hR HP
      go_wp2_with fail
      go_end0
      exact ⟨rfl, HR.out, HF.out⟩

set_option maxRecDepth 100000 in
set_option maxHeartbeats 2000000 in
theorem rotate_c (b o c n a m e : Nat) (A U V B : List PV) (w : World) (h : PRow b o (A ++ (U ++ (V ++ B))) w) (hA : A.length = a) (hU : a + U.length = m) (hV : m + V.length = e) (hn : e + B.length = n) (hn' : n ≤ 67108864) (hu : 1 ≤ U.length) (hv : 1 ≤ V.length) :
    Calls Tryz.prog 119 #[.slice (some ⟨b, o, none⟩) n c, .int .i64 a, .int .i64 m, .int .i64 e, .func (.func 58) #[] #[]] w fun e w' =>
      e = .returned (.tuple #[]) ∧ PRow b o (A ++ (V ++ (U ++ B))) w' ∧ Fr (MBk b) w w' := by
  obtain ⟨G, hG⟩ : ∃ G, A ++ (V ++ (U ++ B)) = G := ⟨_, rfl⟩
  rw [hG]
  have H := Lib.hid h
  have HG := Lib.hid hG
  have HA := Lib.hid hA
  have HU := Lib.hid hU
  have HV := Lib.hid hV
  have Hn := Lib.hid hn
  have ei : (m : Int) - (a : Int) = (U.length : Int) := by omega
  have ej : (e : Int) - (m : Int) = (V.length : Int) := by omega
  have hme : m ≤ n ∧ e ≤ n := by omega
  clear h hG hA hU hV hn
  go_enter Tryz.func119, Tryz.ntmps119
  go_wp2_with fail
  clear ei ej
  go_loopg [10, 11] (U.length + V.length) (fun g vi vj wr => ∃ (P X Y Q : List PV) (i j : Nat), vi = .int .i64 i ∧ vj = .int .i64 j ∧ g = i + j ∧ 1 ≤ i ∧ 1 ≤ j ∧ Hid (X.length = i) ∧ Hid (Y.length = j) ∧ Hid (P.length + i = m) ∧ Hid (m + j + Q.length = n) ∧
    Hid (PRow b o (P ++ (X ++ (Y ++ Q))) wr) ∧ Hid (Fr (MBk b) w wr) ∧ Hid (P ++ (Y ++ (X ++ Q)) = G))
  case atStart => exact ⟨A, U, V, B, _, _, rfl, rfl, rfl, hu, hv, rfl, rfl, Lib.hid (by have := HA.out; have := HU.out; omega), Lib.hid (by have := HV.out; have := Hn.out; omega), H, Lib.hid Fr.refl, HG⟩
  case round =>
    clear HA HU HV Hn HG H hu hv
    obtain ⟨P, X, Y, Q, i, j, rfl, rfl, hg, hi, hj, HX, HY, HP, HQ, HR, HF, HS⟩ := hrel
    obtain ⟨pl, hpl⟩ : ∃ pl, P.length = pl := ⟨_, rfl⟩
    have hpm : pl + i = m := by have := HP.out; omega
    have em : (m : Int) - (i : Int) = (pl : Int) := by omega
    have hjn : m + j ≤ n := by have := HQ.out; omega
    have Hpl := Lib.hid hpl
    have Hpm := Lib.hid hpm
    clear hpl hpm
    rcases Nat.lt_trichotomy i j with hlt | heq | hgt
    · -- the second one is longer
      obtain ⟨j2, hj2⟩ : ∃ j2, j = j2 + i := ⟨j - i, by omega⟩
      have ej2 : (j : Int) - (i : Int) = (j2 : Int) := by omega
      obtain ⟨yl, hyl⟩ : ∃ yl, pl + i + j2 = yl := ⟨_, rfl⟩
      have ey : (m : Int) + (j : Int) - (i : Int) = (yl : Int) := by have := Hpm.out; omega
      have hs : Y = Y.take j2 ++ Y.drop j2 := (List.take_append_drop _ _).symm
      have hy1 : (Y.take j2).length = j2 := by have := HY.out; simp; omega
      have hy2 : (Y.drop j2).length = i := by have := HY.out; simp; omega
      generalize Y.take j2 = Y1 at *
      generalize Y.drop j2 = Y2 at *
      have hsw := swapRange_c b o c n pl yl i P X Y1 Y2 Q wr (by have := HR.out; rw [hs] at this; simpa using this) Hpl.out HX.out hy2 (by omega) (by have := HQ.out; have := Hpm.out; omega) hn'
      have Hsw := Lib.hid hsw
      have Hs := Lib.hid hs
      have Hy1 := Lib.hid hy1
      have Hy2 := Lib.hid hy2
      have Hj2 := Lib.hid hj2
      have hij : ¬ i = j := by omega
      clear hsw hs hy1 hy2 hj2 hyl
      go_wp2_with fail
      refine Hsw.out.mono ?_
      rintro e' w1 ⟨rfl, hP1, hF1⟩
      have HP1 := Lib.hid hP1
      have HF1 := Lib.hid (HF.out.trans' hF1)
      clear hP1 hF1
      go_wp2_with fail
      go_roundg (i + j2)
      case measure => have := Hj2.out; omega
      case rel =>
        refine ⟨P, Y2, Y1, X ++ Q, i, j2, rfl, rfl, rfl, hi, by have := Hj2.out; omega, Hy2, Hy1, HP, Lib.hid (by have := HQ.out; have := HX.out; have := Hj2.out; simp; omega), HP1, HF1, ?_⟩
        have := HS.out
        rw [Hs.out] at this
        simpa using Lib.hid this
    · subst heq
      have hsw := swapRange_c b o c n pl m i P X [] Y Q wr (by simpa using HR.out) Hpl.out HX.out HY.out (by have := Hpm.out; simp; omega) (by have := HQ.out; omega) hn'
      have Hsw := Lib.hid hsw
      clear hsw
      go_wp2_with fail
      refine Hsw.out.mono ?_
      rintro e' w1 ⟨rfl, hP1, hF1⟩
      have HP1 := Lib.hid hP1
      have HF1 := Lib.hid (HF.out.trans' hF1)
      clear hP1 hF1
      go_wp2_with fail
      go_end0
      rw [← HS.out]
      exact ⟨rfl, by simpa using HP1.out, HF1.out⟩
    · obtain ⟨i2, hi2⟩ : ∃ i2, i = i2 + j := ⟨i - j, by omega⟩
      have ei2 : (i : Int) - (j : Int) = (i2 : Int) := by omega
      have hs : X = X.take j ++ X.drop j := (List.take_append_drop _ _).symm
      have hx1 : (X.take j).length = j := by have := HX.out; simp; omega
      have hx2 : (X.drop j).length = i2 := by have := HX.out; simp; omega
      generalize X.take j = X1 at *
      generalize X.drop j = X2 at *
      have hsw := swapRange_c b o c n pl m j P X1 X2 Y Q wr (by have := HR.out; rw [hs] at this; simpa using this) Hpl.out hx1 HY.out (by have := Hpm.out; omega) (by have := HQ.out; omega) hn'
      have Hsw := Lib.hid hsw
      have Hs := Lib.hid hs
      have Hx1 := Lib.hid hx1
      have Hx2 := Lib.hid hx2
      have Hi2 := Lib.hid hi2
      have hij : ¬ i = j := by omega
      clear hsw hs hx1 hx2 hi2
      go_wp2_with fail
      refine Hsw.out.mono ?_
      rintro e' w1 ⟨rfl, hP1, hF1⟩
      have HP1 := Lib.hid hP1
      have HF1 := Lib.hid (HF.out.trans' hF1)
      clear hP1 hF1
      go_wp2_with fail
      go_roundg (i2 + j)
      case measure => have := Hi2.out; omega
      case rel =>
        refine ⟨P ++ Y, X2, X1, Q, i2, j, rfl, rfl, rfl, by have := Hi2.out; omega, hj, Hx2, Hx1, Lib.hid (by have := Hpm.out; have := Hpl.out; have := Hi2.out; have := HY.out; simp; omega), HQ, ?_, HF1, ?_⟩
        · have := HP1.out
          simpa using Lib.hid this
        · have := HS.out
          rw [Hs.out] at this
          simpa using Lib.hid this
end Go.Proofs.YtbfmpbhikipipaaGreatDoor
namespace Go.Proofs.YtbfmpbhikipipaaGreatDoor
set_option linter.unusedVariables false
set_option linter.unusedSimpArgs false
set_option linter.unusedSectionVars false
open Go.RowKit

section
variable {α : Type} {key : α → Bs}
theorem asc_parts {v1 v2 : List α} {y : α} (h : Asc key (v1 ++ y :: v2)) : (∀ z ∈ v1, lk key y z = false) ∧ (∀ z ∈ v2, lk key z y = false) := by
  unfold Asc at h
  rw [List.pairwise_append] at h
  exact ⟨fun z hz => h.2.2 z hz y (by simp), fun z hz => (List.pairwise_cons.1 h.2.1).1 z hz⟩
theorem low_true {v1 v2 : List α} {y x : α} (h : Asc key (v1 ++ y :: v2)) (hx : lk key y x = true) : ∀ z ∈ v1 ++ [y], lk key z x = true := by
  intro z hz
  rcases List.mem_append.1 hz with hz | hz
  · have h1 := (asc_parts h).1 z hz
    rcases lk_mid z hx with h2 | h2
    · rw [h1] at h2; cases h2
    · exact h2
  · simp at hz; subst hz; exact hx
theorem high_false {v1 v2 : List α} {y x : α} (h : Asc key (v1 ++ y :: v2)) (hx : lk key y x = false) : ∀ z ∈ y :: v2, lk key z x = false := by
  intro z hz
  rcases List.mem_cons.1 hz with rfl | hz
  · exact hx
  · have h1 := (asc_parts h).2 z hz
    cases h2 : lk key z x with
    | false => rfl
    | true =>
      rcases lk_mid y h2 with h3 | h3
      · rw [h1] at h3; cases h3
      · rw [hx] at h3; cases h3
theorem low_false {u1 u2 : List α} {z y : α} (h : Asc key (u1 ++ z :: u2)) (hx : lk key y z = false) : ∀ t ∈ u1 ++ [z], lk key y t = false := by
  intro t ht
  rcases List.mem_append.1 ht with ht | ht
  · have h1 := (asc_parts h).1 t ht
    cases h2 : lk key y t with
    | false => rfl
    | true =>
      rcases lk_mid z h2 with h3 | h3
      · rw [hx] at h3; cases h3
      · rw [h1] at h3; cases h3
  · simp at ht; subst ht; exact hx
theorem high_true {u1 u2 : List α} {z y : α} (h : Asc key (u1 ++ z :: u2)) (hx : lk key y z = true) : ∀ t ∈ z :: u2, lk key y t = true := by
  intro t ht
  rcases List.mem_cons.1 ht with rfl | ht
  · exact hx
  · have h1 := (asc_parts h).2 t ht
    rcases lk_mid t hx with h3 | h3
    · exact h3
    · rw [h1] at h3; cases h3
end
theorem cmpB_lt {x y : PV} : (cmpB x.nm y.nm < 0) ↔ lk PV.nm x y = true := by
  unfold cmpB lk
  cases Op.bytesLess x.nm y.nm with
  | true => simp
  | false => simp; split <;> decide
theorem split_at {α : Type} {l : List α} {i : Nat} (h : i < l.length) : ∃ l1 x l2, l = l1 ++ x :: l2 ∧ l1.length = i ∧ l.take (i + 1) = l1 ++ [x] ∧ l.drop i = x :: l2 ∧ l.take i = l1 ∧ l.drop (i + 1) = l2 := by
  refine ⟨l.take i, l[i], l.drop (i + 1), ?_, by simp; omega, ?_, ?_, rfl, rfl⟩
  · rw [← List.drop_eq_getElem_cons h, List.take_append_drop]
  · exact List.take_succ_eq_append_getElem h
  · exact List.drop_eq_getElem_cons h

set_option maxRecDepth 100000 in
set_option maxHeartbeats 2000000 in
theorem sym_one (b o c n a m e : Nat) (A v B : List PV) (x : PV) (w : World) (h : PRow b o (A ++ (x :: (v ++ B))) w) (hA : A.length = a) (hm : a + 1 = m) (hv : m + v.length = e) (hn : e + B.length = n) (hn' : n ≤ 67108864) (hasc : Asc PV.nm v) :
    Calls Tryz.prog 106 #[.slice (some ⟨b, o, none⟩) n c, .int .i64 a, .int .i64 m, .int .i64 e, .func (.func 58) #[] #[]] w fun e w' =>
      e = .returned (.tuple #[]) ∧ PRow b o (A ++ (mrg PV.nm [x] v ++ B)) w' ∧ Fr (MBk b) w w' := by
  have H := Lib.hid h
  have HA := Lib.hid hA
  have Hv := Lib.hid hv
  have Hn := Lib.hid hn
  have Hm := Lib.hid hm
  have em : (m : Int) - (a : Int) = 1 := by omega
  have hen : e ≤ n := by omega
  have hme : m ≤ e := by omega
  have Hasc := Lib.hid hasc
  clear h hA hv hn hm hasc
  go_enter Tryz.func106, Tryz.ntmps106
  go_wp2_with fail
  go_loopg [10, 11] (e - m + 1) (fun g vi vj wr => ∃ (i j : Nat), vi = .int .i64 i ∧ vj = .int .i64 j ∧ m ≤ i ∧ i ≤ j ∧ j ≤ e ∧ g = j - i + 1 ∧ Hid (∀ y ∈ v.take (i - m), lk PV.nm y x = true) ∧ Hid (∀ y ∈ v.drop (j - m), lk PV.nm y x = false) ∧
    Hid (PRow b o (A ++ (x :: (v ++ B))) wr) ∧ Hid (Fr (MBk b) w wr))
  case atStart => exact ⟨m, e, rfl, rfl, Nat.le_refl _, hme, Nat.le_refl _, rfl, Lib.hid (by simp), Lib.hid (by have := Hv.out; rw [List.drop_eq_nil_of_le (by omega)]; simp), H, Lib.hid Fr.refl⟩
  case round =>
    obtain ⟨i, j, rfl, rfl, hmi, hij, hje, hg, HL, HR, HP, HF⟩ := hrel
    rcases Nat.lt_or_ge i j with hlt | hge
    · obtain ⟨q, hq⟩ : ∃ q, (i + j) / 2 = q := ⟨_, rfl⟩
      have hq1 : i ≤ q ∧ q < j := by omega
      obtain ⟨v1, y, v2, hvs, hv1, ht1, hd1, ht2, hd2⟩ := split_at (l := v) (i := q - m) (by have := Hv.out; omega)
      have eq1 : ((i : Int) + (j : Int)) / 2 = (q : Int) := by omega
      have hP0 : PRow b o (A ++ x :: (v1 ++ y :: (v2 ++ B))) wr := by have := HP.out; rw [hvs] at this; simpa using this
      have hL2 : a + 1 + v1.length = q := by have := Hm.out; omega
      obtain ⟨⟨x0, x1, x2, x3, x4, x5⟩, y0, y1, y2, y3, y4, y5⟩ := hP0.two2 HA.out hL2
      have hqn : q < n := by omega
      have han : a < n := by have := Hm.out; omega
      have hascv := Hasc.out
      rw [hvs] at hascv
      have Hascv := Lib.hid hascv
      have Ht1 := Lib.hid ht1
      have Hd1 := Lib.hid hd1
      have HP0 := Lib.hid hP0
      have Hq := Lib.hid hq
      clear hvs hv1 ht1 hd1 ht2 hd2 hP0 hL2 hascv hq
      cases hc : lk PV.nm y x with
      | true =>
        have hcb : cmpB y.nm x.nm < 0 := cmpB_lt.2 hc
        have Hc := Lib.hid hc
        clear hc
        go_wp2_with fail
        go_still_tail 9, (by kernel_rfl)
        change wpList _ _ _ _ _ wr.drew
        go_wp2_with fail
        refine (byName_c y.nm x.nm _ _ _ _ _ _ _ _ _ _ _).mono ?_
        rintro e' w' ⟨rfl, rfl⟩
        go_wp2_with fail
        go_roundg (j - (q + 1) + 1)
        case measure => omega
        case rel =>
          refine ⟨q + 1, j, by simp, rfl, by omega, by omega, hje, by omega, Lib.hid ?_, HR, Lib.hid (((HP.out.alloc (.cells #[.string ⟨y.nm.toArray⟩, .int .i64 y.k, .int .i64 y.n, .string ⟨y.t.toArray⟩, .slice y.a1 y.n1 y.c1, .slice y.a2 y.n2 y.c2] 62)).alloc (.cells #[.string ⟨x.nm.toArray⟩, .int .i64 x.k, .int .i64 x.n, .string ⟨x.t.toArray⟩, .slice x.a1 x.n1 x.c1, .slice x.a2 x.n2 x.c2] 62)).drew), Lib.hid (((HF.out.alloc (.cells #[.string ⟨y.nm.toArray⟩, .int .i64 y.k, .int .i64 y.n, .string ⟨y.t.toArray⟩, .slice y.a1 y.n1 y.c1, .slice y.a2 y.n2 y.c2] 62)).alloc (.cells #[.string ⟨x.nm.toArray⟩, .int .i64 x.k, .int .i64 x.n, .string ⟨x.t.toArray⟩, .slice x.a1 x.n1 x.c1, .slice x.a2 x.n2 x.c2] 62)).drew)⟩
          have h1 := low_true Hascv.out Hc.out
          rw [show q + 1 - m = q - m + 1 by omega, Ht1.out]
          exact h1
      | false =>
        have hcb : ¬ cmpB y.nm x.nm < 0 := fun h => by rw [cmpB_lt.1 h] at hc; cases hc
        have Hc := Lib.hid hc
        clear hc
        go_wp2_with fail
        go_still_tail 9, (by kernel_rfl)
        change wpList _ _ _ _ _ wr.drew
        go_wp2_with fail
        refine (byName_c y.nm x.nm _ _ _ _ _ _ _ _ _ _ _).mono ?_
        rintro e' w' ⟨rfl, rfl⟩
        go_wp2_with fail
        go_roundg (q - i + 1)
        case measure => omega
        case rel =>
          refine ⟨i, q, rfl, rfl, hmi, by omega, by omega, rfl, HL, Lib.hid ?_, Lib.hid (((HP.out.alloc (.cells #[.string ⟨y.nm.toArray⟩, .int .i64 y.k, .int .i64 y.n, .string ⟨y.t.toArray⟩, .slice y.a1 y.n1 y.c1, .slice y.a2 y.n2 y.c2] 62)).alloc (.cells #[.string ⟨x.nm.toArray⟩, .int .i64 x.k, .int .i64 x.n, .string ⟨x.t.toArray⟩, .slice x.a1 x.n1 x.c1, .slice x.a2 x.n2 x.c2] 62)).drew), Lib.hid (((HF.out.alloc (.cells #[.string ⟨y.nm.toArray⟩, .int .i64 y.k, .int .i64 y.n, .string ⟨y.t.toArray⟩, .slice y.a1 y.n1 y.c1, .slice y.a2 y.n2 y.c2] 62)).alloc (.cells #[.string ⟨x.nm.toArray⟩, .int .i64 x.k, .int .i64 x.n, .string ⟨x.t.toArray⟩, .slice x.a1 x.n1 x.c1, .slice x.a2 x.n2 x.c2] 62)).drew)⟩
          rw [Hd1.out]
          exact high_false Hascv.out Hc.out
    · obtain rfl : i = j := by omega
      obtain ⟨v1, hv1⟩ : ∃ v1, v.take (i - m) = v1 := ⟨_, rfl⟩
      obtain ⟨v2, hv2⟩ : ∃ v2, v.drop (i - m) = v2 := ⟨_, rfl⟩
      have hvs : v = v1 ++ v2 := by rw [← hv1, ← hv2, List.take_append_drop]
      have hl1 : v1.length = i - m := by rw [← hv1]; have := Hv.out; simp; omega
      have hmr : mrg PV.nm [x] v = v1 ++ x :: v2 := by
        have h1 := HL.out
        have h2 := HR.out
        rw [hv1] at h1
        rw [hv2] at h2
        rw [hvs]
        exact mrg_first h1 h2
      have Hmr := Lib.hid hmr
      have hP0 : PRow b o (A ++ (x :: (v1 ++ (v2 ++ B)))) wr := by have := HP.out; rw [hvs] at this; simpa using this
      have HP0 := Lib.hid hP0
      have Hl1 := Lib.hid hl1
      have ei : (i : Int) - 1 = ((a + v1.length : Nat) : Int) := by have := Hm.out; omega
      have hin : a + v1.length + 1 ≤ n := by have := Hm.out; omega
      obtain ⟨tl, htl⟩ : ∃ tl, a + v1.length = tl := ⟨_, rfl⟩
      rw [htl] at ei hin
      have Htl := Lib.hid htl
      clear hv1 hv2 hvs hl1 hmr hP0 HL HR HP htl
      go_wp2_with fail
      go_loopg [13] (v1.length + 1) (fun g vk wr => ∃ (k : Nat) (p1 p2 : List PV), vk = .int .i64 k ∧ k + p2.length = tl ∧ g = p2.length + 1 ∧ Hid (p1.length + a = k) ∧ Hid (v1 = p1 ++ p2) ∧
        Hid (PRow b o (A ++ (p1 ++ x :: (p2 ++ (v2 ++ B)))) wr) ∧ Hid (Fr (MBk b) w wr))
      case atStart => exact ⟨a, [], v1, rfl, Htl.out, rfl, Lib.hid (by simp), Lib.hid rfl, HP0, HF⟩
      case round =>
        clear HP0 HF
        obtain ⟨k, p1, p2, rfl, hk, hg2, Hp1, Hvs, HP, HF⟩ := hrel
        cases p2 with
        | nil =>
          obtain rfl : k = tl := by simpa using hk
          have hkt : ¬ (k : Int) < k := by omega
          have e0 := Hvs.out
          rw [List.append_nil] at e0
          subst e0
          have HP9 := HP
          clear hk
          go_wp2_with fail
          ((try simp only [Exit.inBlock, Exit.then]); refine bodyPost_ret (results_none rfl _ _ _) rfl ?_)
          rw [Hmr.out]
          exact ⟨rfl, by have := HP9.out; simpa using this, HF.out⟩
        | cons z p2 =>
          have hkt : k < tl := by simp at hk; omega
          have hP0 : PRow b o ((A ++ p1) ++ x :: ([] ++ z :: (p2 ++ (v2 ++ B)))) wr := by simpa using HP.out
          have hL1 : (A ++ p1).length = k := by have := HA.out; have := Hp1.out; simp; omega
          have hL2 : k + 1 + ([] : List PV).length = k + 1 := rfl
          obtain ⟨⟨x0, x1, x2, x3, x4, x5⟩, z0, z1, z2, z3, z4, z5⟩ := hP0.two2 hL1 hL2
          have fz := hP0.open
          have HP0 := Lib.hid hP0
          have HL1 := Lib.hid hL1
          have ek1 : (k : Int) + 1 < n := by omega
          have ek2 : (0 : Int) ≤ (k : Int) + 1 := by omega
          have ek3 : k < n := by omega
          have ek4 : k + 1 < n := by omega
          have Hk := Lib.hid hk
          clear hP0 hL1 hL2 hk HP
          go_wp2_with fail
          go_region
          go_wp2_with fail
          go_roundg (p2.length + 1)
          case measure => simp at hg2; omega
          case rel =>
            refine ⟨k + 1, p1 ++ [z], p2, by simp, by have := Hk.out; simp at this; omega, rfl, Lib.hid (by have := Hp1.out; simp; omega), Lib.hid (by rw [Hvs.out]; simp), ?_, ?_⟩
            · have h1 := (HP0.out.swap2 HL1.out rfl).drew
              have e0 : A ++ ((p1 ++ [z]) ++ x :: (p2 ++ (v2 ++ B))) = (A ++ p1) ++ z :: ([] ++ x :: (p2 ++ (v2 ++ B))) := by simp
              rw [e0]
              exact h1
            · exact Lib.hid (((HF.out.put6 b _ _ _ _ _ _ _ (fun _ _ => rfl)).put6 b _ _ _ _ _ _ _ (fun _ _ => rfl)).drew)
end Go.Proofs.YtbfmpbhikipipaaGreatDoor
namespace Go.Proofs.YtbfmpbhikipipaaGreatDoor
set_option linter.unusedVariables false
set_option linter.unusedSimpArgs false
set_option linter.unusedSectionVars false
open Go.RowKit

set_option maxRecDepth 100000 in
set_option maxHeartbeats 2000000 in
theorem sym_last (b o c n a m e : Nat) (A u B : List PV) (y : PV) (w : World) (h : PRow b o (A ++ (u ++ (y :: B))) w) (hA : A.length = a) (hu : a + u.length = m) (he : m + 1 = e) (hn : e + B.length = n) (hn' : n ≤ 67108864) (hu1 : u.length ≠ 1) (hasc : Asc PV.nm u) :
    Calls Tryz.prog 106 #[.slice (some ⟨b, o, none⟩) n c, .int .i64 a, .int .i64 m, .int .i64 e, .func (.func 58) #[] #[]] w fun e w' =>
      e = .returned (.tuple #[]) ∧ PRow b o (A ++ (mrg PV.nm u [y] ++ B)) w' ∧ Fr (MBk b) w w' := by
  have H := Lib.hid h
  have HA := Lib.hid hA
  have Hu := Lib.hid hu
  have Hn := Lib.hid hn
  have He := Lib.hid he
  have em : ((m : Int) - (a : Int) == 1) = false := by rw [beq_eq_false_iff_ne]; omega
  have ee : (e : Int) - (m : Int) = 1 := by omega
  have hmn : m < n := by omega
  have ham : a ≤ m := by omega
  have Hasc := Lib.hid hasc
  clear h hA hu hn he hasc hu1
  go_enter Tryz.func106, Tryz.ntmps106
  go_wp2_with fail
  go_loopg [14, 15] (m - a + 1) (fun g vi vj wr => ∃ (i j : Nat), vi = .int .i64 i ∧ vj = .int .i64 j ∧ a ≤ i ∧ i ≤ j ∧ j ≤ m ∧ g = j - i + 1 ∧ Hid (∀ z ∈ u.take (i - a), lk PV.nm y z = false) ∧ Hid (∀ z ∈ u.drop (j - a), lk PV.nm y z = true) ∧
    Hid (PRow b o (A ++ (u ++ (y :: B))) wr) ∧ Hid (Fr (MBk b) w wr))
  case atStart => exact ⟨a, m, rfl, rfl, Nat.le_refl _, ham, Nat.le_refl _, rfl, Lib.hid (by simp), Lib.hid (by have := Hu.out; rw [List.drop_eq_nil_of_le (by omega)]; simp), H, Lib.hid Fr.refl⟩
  case round =>
    obtain ⟨i, j, rfl, rfl, hai, hij, hjm, hg, HL, HR, HP, HF⟩ := hrel
    rcases Nat.lt_or_ge i j with hlt | hge
    · obtain ⟨q, hq⟩ : ∃ q, (i + j) / 2 = q := ⟨_, rfl⟩
      have hq1 : i ≤ q ∧ q < j := by omega
      obtain ⟨u1, z, u2, hus, hu1, ht1, hd1, ht2, hd2⟩ := split_at (l := u) (i := q - a) (by have := Hu.out; omega)
      have eq1 : ((i : Int) + (j : Int)) / 2 = (q : Int) := by omega
      have hP0 : PRow b o ((A ++ u1) ++ z :: (u2 ++ y :: B)) wr := by have := HP.out; rw [hus] at this; simpa using this
      have hL1 : (A ++ u1).length = q := by have := HA.out; simp; omega
      have hL2 : q + 1 + u2.length = m := by have := Hu.out; rw [hus] at this; simp at this; omega
      obtain ⟨⟨z0, z1, z2, z3, z4, z5⟩, y0, y1, y2, y3, y4, y5⟩ := hP0.two2 hL1 hL2
      have hqn : q < n := by omega
      have hascv := Hasc.out
      rw [hus] at hascv
      have Hascv := Lib.hid hascv
      have Ht1 := Lib.hid ht1
      have Hd1 := Lib.hid hd1
      have HP0 := Lib.hid hP0
      have Hq := Lib.hid hq
      clear hus hu1 ht1 hd1 ht2 hd2 hP0 hL1 hL2 hascv hq
      cases hc : lk PV.nm y z with
      | false =>
        have hcb0 : ¬ cmpB y.nm z.nm < 0 := fun h => by rw [cmpB_lt.1 h] at hc; cases hc
        have hcb : decide (cmpB y.nm z.nm < 0) = false := decide_eq_false hcb0
        clear hcb0
        have Hc := Lib.hid hc
        clear hc
        go_wp2_with fail
        go_still_tail 9, (by kernel_rfl)
        change wpList _ _ _ _ _ wr.drew
        go_wp2_with fail
        refine (byName_c y.nm z.nm _ _ _ _ _ _ _ _ _ _ _).mono ?_
        rintro e' w' ⟨rfl, rfl⟩
        go_wp2_with fail
        go_roundg (j - (q + 1) + 1)
        case measure => omega
        case rel =>
          refine ⟨q + 1, j, by simp, rfl, by omega, by omega, hjm, by omega, Lib.hid ?_, HR, Lib.hid (((HP.out.alloc (.cells #[.string ⟨y.nm.toArray⟩, .int .i64 y.k, .int .i64 y.n, .string ⟨y.t.toArray⟩, .slice y.a1 y.n1 y.c1, .slice y.a2 y.n2 y.c2] 62)).alloc (.cells #[.string ⟨z.nm.toArray⟩, .int .i64 z.k, .int .i64 z.n, .string ⟨z.t.toArray⟩, .slice z.a1 z.n1 z.c1, .slice z.a2 z.n2 z.c2] 62)).drew), Lib.hid (((HF.out.alloc (.cells #[.string ⟨y.nm.toArray⟩, .int .i64 y.k, .int .i64 y.n, .string ⟨y.t.toArray⟩, .slice y.a1 y.n1 y.c1, .slice y.a2 y.n2 y.c2] 62)).alloc (.cells #[.string ⟨z.nm.toArray⟩, .int .i64 z.k, .int .i64 z.n, .string ⟨z.t.toArray⟩, .slice z.a1 z.n1 z.c1, .slice z.a2 z.n2 z.c2] 62)).drew)⟩
          have h1 := low_false Hascv.out Hc.out
          rw [show q + 1 - a = q - a + 1 by omega, Ht1.out]
          exact h1
      | true =>
        have hcb : decide (cmpB y.nm z.nm < 0) = true := decide_eq_true (cmpB_lt.2 hc)
        have Hc := Lib.hid hc
        clear hc
        go_wp2_with fail
        go_still_tail 9, (by kernel_rfl)
        change wpList _ _ _ _ _ wr.drew
        go_wp2_with fail
        refine (byName_c y.nm z.nm _ _ _ _ _ _ _ _ _ _ _).mono ?_
        rintro e' w' ⟨rfl, rfl⟩
        go_wp2_with fail
        go_roundg (q - i + 1)
        case measure => omega
        case rel =>
          refine ⟨i, q, rfl, rfl, hai, by omega, by omega, rfl, HL, Lib.hid ?_, Lib.hid (((HP.out.alloc (.cells #[.string ⟨y.nm.toArray⟩, .int .i64 y.k, .int .i64 y.n, .string ⟨y.t.toArray⟩, .slice y.a1 y.n1 y.c1, .slice y.a2 y.n2 y.c2] 62)).alloc (.cells #[.string ⟨z.nm.toArray⟩, .int .i64 z.k, .int .i64 z.n, .string ⟨z.t.toArray⟩, .slice z.a1 z.n1 z.c1, .slice z.a2 z.n2 z.c2] 62)).drew), Lib.hid (((HF.out.alloc (.cells #[.string ⟨y.nm.toArray⟩, .int .i64 y.k, .int .i64 y.n, .string ⟨y.t.toArray⟩, .slice y.a1 y.n1 y.c1, .slice y.a2 y.n2 y.c2] 62)).alloc (.cells #[.string ⟨z.nm.toArray⟩, .int .i64 z.k, .int .i64 z.n, .string ⟨z.t.toArray⟩, .slice z.a1 z.n1 z.c1, .slice z.a2 z.n2 z.c2] 62)).drew)⟩
          rw [Hd1.out]
          exact high_true Hascv.out Hc.out
    · obtain rfl : i = j := by omega
      obtain ⟨u1, hu1⟩ : ∃ u1, u.take (i - a) = u1 := ⟨_, rfl⟩
      obtain ⟨u2, hu2⟩ : ∃ u2, u.drop (i - a) = u2 := ⟨_, rfl⟩
      have hus : u = u1 ++ u2 := by rw [← hu1, ← hu2, List.take_append_drop]
      have hl1 : u1.length = i - a := by rw [← hu1]; have := Hu.out; simp; omega
      have hl2 : i + u2.length = m := by have := Hu.out; rw [hus] at this; simp at this; omega
      have hmr : mrg PV.nm u [y] = u1 ++ y :: u2 := by
        have h1 := HL.out
        have h2 := HR.out
        rw [hu1] at h1
        rw [hu2] at h2
        rw [hus]
        exact mrg_last h1 h2
      have Hmr := Lib.hid hmr
      have hP0 : PRow b o (A ++ (u1 ++ (u2 ++ y :: B))) wr := by have := HP.out; rw [hus] at this; simpa using this
      have HP0 := Lib.hid hP0
      have Hl1 := Lib.hid hl1
      have Hl2 := Lib.hid hl2
      clear hu1 hu2 hus hl1 hl2 hmr hP0 HL HR HP
      go_wp2_with fail
      go_loopg [17] (u2.length + 1) (fun g vk wr => ∃ (k : Nat) (p1 p2 : List PV), vk = .int .i64 k ∧ i + p1.length = k ∧ g = p1.length + 1 ∧ k ≤ m ∧ Hid (u2 = p1 ++ p2) ∧
        Hid (PRow b o (A ++ (u1 ++ (p1 ++ y :: (p2 ++ B)))) wr) ∧ Hid (Fr (MBk b) w wr))
      case atStart => exact ⟨m, u2, [], rfl, Hl2.out, rfl, Nat.le_refl _, Lib.hid (by simp), HP0, HF⟩
      case round =>
        clear HP0 HF
        obtain ⟨k, p1, p2, rfl, hk, hg2, hkm, Hus, HP, HF⟩ := hrel
        rcases List.eq_nil_or_concat p1 with rfl | ⟨p3, z, hp1⟩
        · have hkt : ¬ i < k := by simp at hk; omega
          have e0 := Hus.out
          rw [List.nil_append] at e0
          subst e0
          have HP9 := HP
          clear hk
          go_wp2_with fail
          ((try simp only [Exit.inBlock, Exit.then]); refine bodyPost_ret (results_none rfl _ _ _) rfl ?_)
          rw [Hmr.out]
          exact ⟨rfl, by have := HP9.out; simpa using this, HF.out⟩
        · rw [List.concat_eq_append] at hp1
          subst hp1
          obtain ⟨k, rfl⟩ : ∃ k', k = k' + 1 := ⟨k - 1, by simp at hk; omega⟩
          have hkt : i < k + 1 := by simp at hk; omega
          have ep : ((k + 1 : Nat) : Int) = (k : Int) + 1 := by omega
          rw [ep]
          have hkt2 : (i : Int) < (k : Int) + 1 := by omega
          have hP0 : PRow b o ((A ++ (u1 ++ p3)) ++ z :: y :: (p2 ++ B)) wr := by simpa using HP.out
          have hL1 : (A ++ (u1 ++ p3)).length = k := by have := HA.out; have := Hl1.out; simp at hk ⊢; omega
          obtain ⟨⟨z0, z1, z2, z3, z4, z5⟩, y0, y1, y2, y3, y4, y5⟩ := hP0.two hL1
          have fz := hP0.open
          have HP0 := Lib.hid hP0
          have HL1 := Lib.hid hL1
          have ek1 : (k : Int) + 1 < n := by omega
          have ek2 : (0 : Int) ≤ (k : Int) + 1 := by omega
          have ek3 : k < n := by omega
          have ek4 : k + 1 < n := by omega
          have ek6 : IntKind.i64.wrap (k : Int) = k := by rw [IntKind.wrap_i64]; omega
          have Hk := Lib.hid hk
          clear hP0 hL1 hk HP ep
          go_wp2_with fail
          go_region
          go_wp2_with fail
          go_roundg (p3.length + 1)
          case measure => simp at hg2; omega
          case rel =>
            refine ⟨k, p3, z :: p2, by simp, by have := Hk.out; simp at this; omega, rfl, by omega, Lib.hid (by rw [Hus.out]; simp), ?_, ?_⟩
            · have h1 := (HP0.out.swap HL1.out).drew
              have e0 : A ++ (u1 ++ (p3 ++ y :: ((z :: p2) ++ B))) = (A ++ (u1 ++ p3)) ++ y :: z :: (p2 ++ B) := by simp
              rw [e0]
              exact h1
            · exact Lib.hid (((HF.out.put6 b _ _ _ _ _ _ _ (fun _ _ => rfl)).put6 b _ _ _ _ _ _ _ (fun _ _ => rfl)).drew)
end Go.Proofs.YtbfmpbhikipipaaGreatDoor
namespace Go.Proofs.YtbfmpbhikipipaaGreatDoor
set_option linter.unusedVariables false
set_option linter.unusedSimpArgs false
set_option linter.unusedSectionVars false
open Go.RowKit

/-- what symMergeCmpFunc does to lists that have at most K pairs together -/
def SymOk (K : Nat) : Prop := ∀ (b o c n a m e : Nat) (A u v B : List PV) (w : World), PRow b o (A ++ (u ++ (v ++ B))) w → A.length = a → a + u.length = m → m + v.length = e → e + B.length = n → n ≤ 67108864 → 1 ≤ u.length → 1 ≤ v.length → Asc PV.nm u → Asc PV.nm v → u.length + v.length ≤ K →
    Calls Tryz.prog 106 #[.slice (some ⟨b, o, none⟩) n c, .int .i64 a, .int .i64 m, .int .i64 e, .func (.func 58) #[] #[]] w fun e w' =>
      e = .returned (.tuple #[]) ∧ PRow b o (A ++ (mrg PV.nm u v ++ B)) w' ∧ Fr (MBk b) w w'
theorem asc_take {l : List PV} (h : Asc PV.nm l) (i : Nat) : Asc PV.nm (l.take i) := List.Pairwise.sublist (List.take_sublist _ _) h
theorem asc_drop {l : List PV} (h : Asc PV.nm l) (i : Nat) : Asc PV.nm (l.drop i) := List.Pairwise.sublist (List.drop_sublist _ _) h
/-- the last of a list is no less than any, the first no greater -/
theorem asc_last {l : List PV} (h : Asc PV.nm l) {z : PV} (hz : l[l.length - 1]? = some z) : ∀ y ∈ l, lk PV.nm z y = false := by
  intro y hy
  obtain ⟨hlt, hz'⟩ := List.getElem?_eq_some_iff.1 hz
  obtain ⟨i, hi, rfl⟩ := List.getElem_of_mem hy
  rcases Nat.lt_or_ge i (l.length - 1) with h1 | h1
  · have := List.pairwise_iff_getElem.1 h i (l.length - 1) hi hlt h1
    rw [← hz']; exact this
  · have e : i = l.length - 1 := by omega
    subst e
    rw [← hz']
    exact bl_irrefl _
theorem asc_head {l : List PV} (h : Asc PV.nm l) {z : PV} (hz : l[0]? = some z) : ∀ y ∈ l, lk PV.nm y z = false := by
  intro y hy
  obtain ⟨hlt, hz'⟩ := List.getElem?_eq_some_iff.1 hz
  obtain ⟨i, hi, rfl⟩ := List.getElem_of_mem hy
  rcases Nat.lt_or_ge 0 i with h1 | h1
  · have := List.pairwise_iff_getElem.1 h 0 i hlt hi h1
    rw [← hz']; exact this
  · have e : i = 0 := by omega
    subst e
    rw [← hz']
    exact bl_irrefl _
theorem cross_true {u v : List PV} (hu : Asc PV.nm u) (hv : Asc PV.nm v) (h : ∀ x y, u[0]? = some x → v[v.length - 1]? = some y → lk PV.nm y x = true) : ∀ y ∈ v, ∀ x ∈ u, lk PV.nm y x = true := by
  intro y hy x hx
  obtain ⟨x0, hx0⟩ : ∃ x0, u[0]? = some x0 := ⟨_, List.getElem?_eq_getElem (List.length_pos_of_mem hx)⟩
  obtain ⟨y0, hy0⟩ : ∃ y0, v[v.length - 1]? = some y0 := ⟨_, List.getElem?_eq_getElem (by have := List.length_pos_of_mem hy; omega)⟩
  have h0 := h x0 y0 hx0 hy0
  have h1 : lk PV.nm y x0 = true := by
    rcases lk_mid y h0 with h2 | h2
    · rw [asc_last hv hy0 y hy] at h2; cases h2
    · exact h2
  rcases lk_mid x h1 with h2 | h2
  · exact h2
  · rw [asc_head hu hx0 x hx] at h2; cases h2
theorem cross_false {u v : List PV} (hu : Asc PV.nm u) (hv : Asc PV.nm v) (h : ∀ x y, u[u.length - 1]? = some x → v[0]? = some y → lk PV.nm y x = false) : ∀ x ∈ u, ∀ y ∈ v, lk PV.nm y x = false := by
  intro x hx y hy
  obtain ⟨x0, hx0⟩ : ∃ x0, u[u.length - 1]? = some x0 := ⟨_, List.getElem?_eq_getElem (by have := List.length_pos_of_mem hx; omega)⟩
  obtain ⟨y0, hy0⟩ : ∃ y0, v[0]? = some y0 := ⟨_, List.getElem?_eq_getElem (List.length_pos_of_mem hy)⟩
  have h0 := h x0 y0 hx0 hy0
  cases h1 : lk PV.nm y x with
  | false => rfl
  | true =>
    rcases lk_mid y0 h1 with h2 | h2
    · rw [asc_head hv hy0 y hy] at h2; cases h2
    · rcases lk_mid x0 h2 with h3 | h3
      · rw [h0] at h3; cases h3
      · rw [asc_last hu hx0 x hx] at h3; cases h3

/-- what the search for the turn holds -/
def SymInv (g : Nat) (vi vj : Value) (wr : World) (a m mid nn e b o : Nat) (A B u v : List PV) (w : World) : Prop :=
  ∃ (s r : Nat), vi = .int .i64 s ∧ vj = .int .i64 r ∧ a ≤ s ∧ s ≤ r ∧ r ≤ m ∧ r ≤ mid ∧ nn ≤ s + e ∧ g = r - s + 1 ∧
    Hid (a < s → nn < s + e → ∀ x y, u[s - 1 - a]? = some x → v[nn - s - m]? = some y → lk PV.nm y x = false) ∧
    Hid (r < m → r < mid → ∀ x y, u[r - a]? = some x → v[nn - 1 - r - m]? = some y → lk PV.nm y x = true) ∧
    Hid (PRow b o (A ++ (u ++ (v ++ B))) wr) ∧ Hid (Fr (MBk b) w wr)

set_option maxRecDepth 100000 in
set_option maxHeartbeats 8000000 in
theorem sym_step (K : Nat) (ih : SymOk K) (b o c n a m e : Nat) (A u v B : List PV) (w : World) (h : PRow b o (A ++ (u ++ (v ++ B))) w) (hA : A.length = a) (hu : a + u.length = m) (hv : m + v.length = e) (hn : e + B.length = n) (hn' : n ≤ 67108864) (hu2 : 2 ≤ u.length) (hv2 : 2 ≤ v.length) (hau : Asc PV.nm u) (hav : Asc PV.nm v) (hK : u.length + v.length ≤ K + 1) :
    Calls Tryz.prog 106 #[.slice (some ⟨b, o, none⟩) n c, .int .i64 a, .int .i64 m, .int .i64 e, .func (.func 58) #[] #[]] w fun e w' =>
      e = .returned (.tuple #[]) ∧ PRow b o (A ++ (mrg PV.nm u v ++ B)) w' ∧ Fr (MBk b) w w' := by
  have H := Lib.hid h
  have HA := Lib.hid hA
  have Hu := Lib.hid hu
  have Hv := Lib.hid hv
  have Hn := Lib.hid hn
  have Hau := Lib.hid hau
  have Hav := Lib.hid hav
  have HK := Lib.hid hK
  have em : ((m : Int) - (a : Int) == 1) = false := by rw [beq_eq_false_iff_ne]; omega
  have ee : ((e : Int) - (m : Int) == 1) = false := by rw [beq_eq_false_iff_ne]; omega
  obtain ⟨mid, hmid⟩ : ∃ mid, (a + e) / 2 = mid := ⟨_, rfl⟩
  obtain ⟨nn, hnn⟩ : ∃ nn, mid + m = nn := ⟨_, rfl⟩
  have hmb : a < mid ∧ mid < e ∧ a + e ≤ 2 * mid + 1 ∧ 2 * mid ≤ a + e := by omega
  have f1 : ((a : Int) + (e : Int)) / 2 = (mid : Int) := by omega
  have f2 : (mid : Int) + (m : Int) = (nn : Int) := by omega
  obtain ⟨p, hp⟩ : ∃ p, nn = p + 1 := ⟨nn - 1, by omega⟩
  have f4 : (nn : Int) - 1 = (p : Int) := by omega
  have hbn : m < n ∧ e ≤ n ∧ a < m ∧ m < e := by omega
  have Hmid := Lib.hid hmid
  have Hnn := Lib.hid hnn
  have Hmb := Lib.hid hmb
  have Hp := Lib.hid hp
  have hcase : (mid < m ∧ ∃ s0, nn = s0 + e ∧ a ≤ s0 ∧ s0 ≤ mid) ∨ m ≤ mid := by
    rcases Nat.lt_or_ge mid m with h1 | h1
    · exact .inl ⟨h1, nn - e, by omega, by omega, by omega⟩
    · exact .inr h1
  clear h hA hu hv hn hau hav hK hmid hnn hmb hp
  rcases hcase with ⟨hc, s0, hs0, hs1, hs2⟩ | hc
  all_goals
    first
      | (have f3 : (nn : Int) - (e : Int) = (s0 : Int) := by omega
         have Hs0 := Lib.hid hs0
         clear hs0
         go_enter Tryz.func106, Tryz.ntmps106
         go_wp2_with fail
         go_loopg [20, 21] (mid - s0 + 1) (fun g vi vj wr => SymInv g vi vj wr a m mid nn e b o A B u v w)
         case atStart => exact ⟨s0, mid, rfl, rfl, hs1, hs2, by omega, Nat.le_refl _, by have := Hs0.out; omega, rfl, Lib.hid (fun _ h9 => by have := Hs0.out; omega), Lib.hid (fun _ h9 => by omega), H, Lib.hid Fr.refl⟩
         clear hs1 hs2 f3 Hs0)
      | (have hcd : decide (mid < m) = false := decide_eq_false (by omega)
         go_enter Tryz.func106, Tryz.ntmps106
         go_wp2_with fail
         go_loopg [20, 21] (m - a + 1) (fun g vi vj wr => SymInv g vi vj wr a m mid nn e b o A B u v w)
         case atStart => exact ⟨a, m, rfl, rfl, Nat.le_refl _, by omega, Nat.le_refl _, hc, by have := Hmb.out; have := Hnn.out; omega, rfl, Lib.hid (fun h8 _ => by omega), Lib.hid (fun h8 _ => by omega), H, Lib.hid Fr.refl⟩)
    clear hc H f1 f2 f4
    obtain ⟨s, r, rfl, rfl, has, hsr, hrm, hrd, hne, hg, HL, HR, HP, HF⟩ := hrel
    rcases Nat.lt_or_ge s r with hlt | hge
    · obtain ⟨q, hq⟩ : ∃ q, (s + r) / 2 = q := ⟨_, rfl⟩
      have hq1 : s ≤ q ∧ q < r := by omega
      have eq1 : ((s : Int) + (r : Int)) / 2 = (q : Int) := by omega
      obtain ⟨pc, hpc⟩ : ∃ pc, p = pc + q := ⟨p - q, by have := Hp.out; have := Hnn.out; omega⟩
      have epc : (p : Int) - (q : Int) = (pc : Int) := by omega
      have hpc1 : m ≤ pc ∧ pc < e := by have := Hp.out; have := Hnn.out; have := Hmb.out; omega
      obtain ⟨u1, x, u2, hus, hu1, hut1, hud1, _, _⟩ := split_at (l := u) (i := q - a) (by have := Hu.out; omega)
      obtain ⟨v1, y, v2, hvs, hv1, hvt1, hvd1, _, _⟩ := split_at (l := v) (i := pc - m) (by have := Hv.out; omega)
      have hux : u[q - a]? = some x := by rw [hus, List.getElem?_append_right (by omega), hu1]; simp
      have hvy : v[pc - m]? = some y := by rw [hvs, List.getElem?_append_right (by omega), hv1]; simp
      have hP0 : PRow b o ((A ++ u1) ++ x :: ((u2 ++ v1) ++ y :: (v2 ++ B))) wr := by have := HP.out; rw [hus, hvs] at this; simpa using this
      have hL1 : (A ++ u1).length = q := by have := HA.out; simp; omega
      have hL2 : q + 1 + (u2 ++ v1).length = pc := by have := Hu.out; rw [hus] at this; simp at this ⊢; omega
      obtain ⟨⟨x0, x1, x2, x3, x4, x5⟩, y0, y1, y2, y3, y4, y5⟩ := hP0.two2 hL1 hL2
      have hqn : q < n := by omega
      have hpn : pc < n := by omega
      have hpw : IntKind.i64.wrap (pc : Int) = pc := by rw [IntKind.wrap_i64]; omega
      have Hux := Lib.hid hux
      have Hvy := Lib.hid hvy
      have Hpc := Lib.hid hpc
      have Hq := Lib.hid hq
      clear hus hu1 hut1 hud1 hvs hv1 hvt1 hvd1 hux hvy hP0 hL1 hL2 hpc hq
      cases hc : lk PV.nm y x with
      | false =>
        have hcb0 : ¬ cmpB y.nm x.nm < 0 := fun h => by rw [cmpB_lt.1 h] at hc; cases hc
        have hcb : decide (cmpB y.nm x.nm < 0) = false := decide_eq_false hcb0
        have Hc := Lib.hid hc
        clear hc hcb0
        go_wp2_with fail
        go_still_tail 11, (by kernel_rfl)
        change wpList _ _ _ _ _ wr.drew
        go_wp2_with fail
        refine (byName_c y.nm x.nm _ _ _ _ _ _ _ _ _ _ _).mono ?_
        rintro e' w' ⟨rfl, rfl⟩
        go_wp2_with fail
        go_roundg (r - (q + 1) + 1)
        case measure => omega
        case rel =>
          refine ⟨q + 1, r, by simp, rfl, by omega, by omega, hrm, hrd, by omega, rfl, Lib.hid ?_, HR, Lib.hid (((HP.out.alloc (.cells #[.string ⟨y.nm.toArray⟩, .int .i64 y.k, .int .i64 y.n, .string ⟨y.t.toArray⟩, .slice y.a1 y.n1 y.c1, .slice y.a2 y.n2 y.c2] 62)).alloc (.cells #[.string ⟨x.nm.toArray⟩, .int .i64 x.k, .int .i64 x.n, .string ⟨x.t.toArray⟩, .slice x.a1 x.n1 x.c1, .slice x.a2 x.n2 x.c2] 62)).drew), Lib.hid (((HF.out.alloc (.cells #[.string ⟨y.nm.toArray⟩, .int .i64 y.k, .int .i64 y.n, .string ⟨y.t.toArray⟩, .slice y.a1 y.n1 y.c1, .slice y.a2 y.n2 y.c2] 62)).alloc (.cells #[.string ⟨x.nm.toArray⟩, .int .i64 x.k, .int .i64 x.n, .string ⟨x.t.toArray⟩, .slice x.a1 x.n1 x.c1, .slice x.a2 x.n2 x.c2] 62)).drew)⟩
          intro _ _ x' y' hx' hy'
          have h1 : q + 1 - 1 - a = q - a := by omega
          have h2 : nn - (q + 1) - m = pc - m := by have := Hp.out; have := Hpc.out; omega
          rw [h1, Hux.out] at hx'
          rw [h2, Hvy.out] at hy'
          obtain rfl := Option.some.inj hx'
          obtain rfl := Option.some.inj hy'
          exact Hc.out
      | true =>
        have hcb : decide (cmpB y.nm x.nm < 0) = true := decide_eq_true (cmpB_lt.2 hc)
        have Hc := Lib.hid hc
        clear hc
        go_wp2_with fail
        go_still_tail 11, (by kernel_rfl)
        change wpList _ _ _ _ _ wr.drew
        go_wp2_with fail
        refine (byName_c y.nm x.nm _ _ _ _ _ _ _ _ _ _ _).mono ?_
        rintro e' w' ⟨rfl, rfl⟩
        go_wp2_with fail
        go_roundg (q - s + 1)
        case measure => omega
        case rel =>
          refine ⟨s, q, rfl, rfl, has, by omega, by omega, by omega, hne, rfl, HL, Lib.hid ?_, Lib.hid (((HP.out.alloc (.cells #[.string ⟨y.nm.toArray⟩, .int .i64 y.k, .int .i64 y.n, .string ⟨y.t.toArray⟩, .slice y.a1 y.n1 y.c1, .slice y.a2 y.n2 y.c2] 62)).alloc (.cells #[.string ⟨x.nm.toArray⟩, .int .i64 x.k, .int .i64 x.n, .string ⟨x.t.toArray⟩, .slice x.a1 x.n1 x.c1, .slice x.a2 x.n2 x.c2] 62)).drew), Lib.hid (((HF.out.alloc (.cells #[.string ⟨y.nm.toArray⟩, .int .i64 y.k, .int .i64 y.n, .string ⟨y.t.toArray⟩, .slice y.a1 y.n1 y.c1, .slice y.a2 y.n2 y.c2] 62)).alloc (.cells #[.string ⟨x.nm.toArray⟩, .int .i64 x.k, .int .i64 x.n, .string ⟨x.t.toArray⟩, .slice x.a1 x.n1 x.c1, .slice x.a2 x.n2 x.c2] 62)).drew)⟩
          intro _ _ x' y' hx' hy'
          have h2 : nn - 1 - q - m = pc - m := by have := Hp.out; have := Hpc.out; omega
          rw [Hux.out] at hx'
          rw [h2, Hvy.out] at hy'
          obtain rfl := Option.some.inj hx'
          obtain rfl := Option.some.inj hy'
          exact Hc.out
    · obtain rfl : s = r := by omega
      obtain ⟨en, hen⟩ : ∃ en, nn = en + s := ⟨nn - s, by have := Hnn.out; omega⟩
      have een : (nn : Int) - (s : Int) = (en : Int) := by omega
      have hen1 : m ≤ en ∧ en ≤ e ∧ en - m = mid - s ∧ s ≤ mid := by have := Hnn.out; omega
      obtain ⟨u1, hu1⟩ : ∃ u1, u.take (s - a) = u1 := ⟨_, rfl⟩
      obtain ⟨u2, hu2⟩ : ∃ u2, u.drop (s - a) = u2 := ⟨_, rfl⟩
      obtain ⟨v1, hv1⟩ : ∃ v1, v.take (en - m) = v1 := ⟨_, rfl⟩
      obtain ⟨v2, hv2⟩ : ∃ v2, v.drop (en - m) = v2 := ⟨_, rfl⟩
      have lu1 : u1.length = s - a := by rw [← hu1]; have := Hu.out; simp; omega
      have lu2 : u2.length = m - s := by rw [← hu2]; have := Hu.out; simp; omega
      have lv1 : v1.length = en - m := by rw [← hv1]; have := Hv.out; simp; omega
      have lv2 : v2.length = e - en := by rw [← hv2]; have := Hv.out; simp; omega
      have hus : u = u1 ++ u2 := by rw [← hu1, ← hu2, List.take_append_drop]
      have hvs : v = v1 ++ v2 := by rw [← hv1, ← hv2, List.take_append_drop]
      have au1 : Asc PV.nm u1 := by rw [← hu1]; exact asc_take Hau.out _
      have au2 : Asc PV.nm u2 := by rw [← hu2]; exact asc_drop Hau.out _
      have av1 : Asc PV.nm v1 := by rw [← hv1]; exact asc_take Hav.out _
      have av2 : Asc PV.nm v2 := by rw [← hv2]; exact asc_drop Hav.out _
      have hC1 : ∀ y ∈ v1, ∀ x ∈ u2, lk PV.nm y x = true := by
        rcases Nat.lt_or_ge s m with h1 | h1
        · rcases Nat.lt_or_ge s mid with h2 | h2
          · refine cross_true au2 av1 (fun x y hx hy => HR.out h1 h2 x y ?_ ?_)
            · rw [hus, List.getElem?_append_right (by omega)]
              rw [show s - a - u1.length = 0 by omega]
              exact hx
            · have hidx : nn - 1 - s - m = v1.length - 1 := by have := Hnn.out; omega
              rw [hidx, hvs, List.getElem?_append_left (by omega)]
              exact hy
          · have : v1 = [] := List.length_eq_zero_iff.1 (by omega)
            subst this
            intro y hy; simp at hy
        · have : u2 = [] := List.length_eq_zero_iff.1 (by omega)
          subst this
          intro y _ x hx; simp at hx
      have hC2 : ∀ x ∈ u1, ∀ y ∈ v2, lk PV.nm y x = false := by
        rcases Nat.lt_or_ge a s with h1 | h1
        · rcases Nat.lt_or_ge nn (s + e) with h2 | h2
          · refine cross_false au1 av2 (fun x y hx hy => HL.out h1 h2 x y ?_ ?_)
            · have hidx : s - 1 - a = u1.length - 1 := by omega
              rw [hidx, hus, List.getElem?_append_left (by omega)]
              exact hx
            · have hidx : nn - s - m = v1.length + 0 := by omega
              rw [hidx, hvs, List.getElem?_append_right (by omega)]
              rw [show v1.length + 0 - v1.length = 0 by omega]
              exact hy
          · have : v2 = [] := List.length_eq_zero_iff.1 (by omega)
            subst this
            intro x _ y hy; simp at hy
        · have : u1 = [] := List.length_eq_zero_iff.1 (by omega)
          subst this
          intro x hx; simp at hx
      have hmr : mrg PV.nm u v = mrg PV.nm u1 v1 ++ mrg PV.nm u2 v2 := by rw [hus, hvs]; exact mrg_split _ u1 u2 v1 v2 rfl hC1 hC2
      have hP0 : PRow b o ((A ++ u1) ++ (u2 ++ (v1 ++ (v2 ++ B)))) wr := by have := HP.out; rw [hus, hvs] at this; simpa using this
      have lm1 : (mrg PV.nm u1 v1).length = u1.length + v1.length := mrg_length _ _ _ rfl
      have hl0 : (A ++ u1).length = s := by have := HA.out; simp; omega
      have hKl : u1.length + v1.length ≤ K ∧ u2.length + v2.length ≤ K := by have := HK.out; have := Hu.out; have := Hv.out; have := Hmb.out; omega
      have HKl := Lib.hid hKl
      have Hmr := Lib.hid hmr
      have HP0 := Lib.hid hP0
      have Hau1 := Lib.hid au1
      have Hau2 := Lib.hid au2
      have Hav1 := Lib.hid av1
      have Hav2 := Lib.hid av2
      have Hlu1 := Lib.hid lu1
      have Hlu2 := Lib.hid lu2
      have Hlv1 := Lib.hid lv1
      have Hlv2 := Lib.hid lv2
      have Hlm1 := Lib.hid lm1
      have Hl0 := Lib.hid hl0
      have Hen := Lib.hid hen
      have Hen1 := Lib.hid hen1
      clear hu1 hu2 hv1 hv2 hus hvs au1 au2 av1 av2 lu1 lu2 lv1 lv2 hC1 hC2 hmr hP0 lm1 HP HL HR hl0 hKl hg hge hen hen1
      rcases Nat.lt_or_ge s m with hP | hP
      all_goals rcases Nat.lt_or_ge m en with hD | hD
      all_goals first
        | (have hPD : s < m ∧ m < en := ⟨hP, hD⟩
           go_wp2_with fail
           refine (rotate_c b o c n s m en (A ++ u1) u2 v1 (v2 ++ B) wr HP0.out Hl0.out (by have := Hlu2.out; omega) (by have := Hlv1.out; have := Hen1.out; omega) (by have := Hlv2.out; have := Hen1.out; have := Hn.out; simp; omega) hn' (by have := Hlu2.out; omega) (by have := Hlv1.out; omega)).mono ?_
           rintro e' w1 ⟨rfl, hP1, hF1⟩
           have HP1 := Lib.hid hP1
           have HF1 := Lib.hid (HF.out.trans' hF1)
           clear hP1 hF1 HP0 HF hPD)
        | (have HP1 : Hid (PRow b o ((A ++ u1) ++ (v1 ++ (u2 ++ (v2 ++ B)))) wr) := Lib.hid (by
             have hz : u2 = [] ∨ v1 = [] := by
               rcases Nat.lt_or_ge s m with h1 | h1
               · right; exact List.length_eq_zero_iff.1 (by have := Hlv1.out; omega)
               · left; exact List.length_eq_zero_iff.1 (by have := Hlu2.out; omega)
             rcases hz with hz | hz
             · have := HP0.out; rw [hz] at this ⊢; simpa using this
             · have := HP0.out; rw [hz] at this ⊢; simpa using this)
           have HF1 := HF
           clear HP0 HF)
      all_goals rcases Nat.lt_or_ge a s with hL | hL
      all_goals rcases Nat.lt_or_ge s mid with hM | hM
      all_goals first
        | (exfalso; have := Hen1.out; omega)
        | (have hLM : a < s ∧ s < mid := ⟨hL, hM⟩
           go_wp2_with fail
           refine (ih b o c n a s mid A u1 v1 (u2 ++ (v2 ++ B)) _ (by have := HP1.out; simpa using this) HA.out (by have := Hlu1.out; omega) (by have := Hlv1.out; have := Hen1.out; omega) (by have := Hlv2.out; have := Hlu2.out; have := Hen1.out; have := Hen.out; have := Hnn.out; have := Hn.out; simp; omega) hn' (by have := Hlu1.out; omega) (by have := Hlv1.out; have := Hen1.out; omega) Hau1.out Hav1.out HKl.out.1).mono ?_
           rintro e' w2 ⟨rfl, hP2, hF2⟩
           have HP2 := Lib.hid hP2
           have HF2 := Lib.hid (HF1.out.trans' hF2)
           clear hP2 hF2 HP1 HF1 hLM)
        | (have HP2 : Hid (PRow b o (A ++ (mrg PV.nm u1 v1 ++ (u2 ++ (v2 ++ B)))) _) := Lib.hid (by
             have hz : u1 = [] ∨ v1 = [] := by
               rcases Nat.lt_or_ge a s with h1 | h1
               · right; exact List.length_eq_zero_iff.1 (by have := Hlv1.out; have := Hen1.out; omega)
               · left; exact List.length_eq_zero_iff.1 (by have := Hlu1.out; omega)
             rcases hz with hz | hz
             · have := HP1.out; rw [hz] at this ⊢; rw [nil_mrg]; simpa using this
             · have := HP1.out; rw [hz] at this ⊢; rw [mrg_nil]; simpa using this)
           have HF2 := HF1
           clear HP1 HF1)
      all_goals rcases Nat.lt_or_ge mid en with hQ | hQ
      all_goals rcases Nat.lt_or_ge en e with hE | hE
      all_goals first
        | (exfalso; have := Hen1.out; have := Hen.out; have := Hnn.out; omega)
        | (have hQE : mid < en ∧ en < e := ⟨hQ, hE⟩
           go_wp2_with fail
           refine (ih b o c n mid en e (A ++ mrg PV.nm u1 v1) u2 v2 B _ (by have := HP2.out; simpa using this) (by have := HA.out; have := Hlm1.out; have := Hlu1.out; have := Hlv1.out; have := Hen1.out; simp; omega) (by have := Hlu2.out; have := Hen.out; have := Hnn.out; omega) (by have := Hlv2.out; have := Hen1.out; omega) Hn.out hn' (by have := Hlu2.out; have := Hen.out; have := Hnn.out; omega) (by have := Hlv2.out; omega) Hau2.out Hav2.out HKl.out.2).mono ?_
           rintro e' w3 ⟨rfl, hP3, hF3⟩
           have HP3 := Lib.hid hP3
           have HF3 := Lib.hid (HF2.out.trans' hF3)
           clear hP3 hF3 HP2 HF2 hQE)
        | (have HP3 : Hid (PRow b o ((A ++ mrg PV.nm u1 v1) ++ (mrg PV.nm u2 v2 ++ B)) _) := Lib.hid (by
             have hz : u2 = [] ∨ v2 = [] := by
               rcases Nat.lt_or_ge mid en with h1 | h1
               · right; exact List.length_eq_zero_iff.1 (by have := Hlv2.out; omega)
               · left; exact List.length_eq_zero_iff.1 (by have := Hlu2.out; have := Hen.out; have := Hnn.out; omega)
             rcases hz with hz | hz
             · have := HP2.out; rw [hz] at this ⊢; rw [nil_mrg]; simpa using this
             · have := HP2.out; rw [hz] at this ⊢; rw [mrg_nil]; simpa using this)
           have HF3 := HF2
           clear HP2 HF2)
      all_goals
        go_wp2_with fail
        go_end0
        rw [Hmr.out]
        exact ⟨rfl, by have := HP3.out; simpa using this, HF3.out⟩
end Go.Proofs.YtbfmpbhikipipaaGreatDoor
namespace Go.Proofs.YtbfmpbhikipipaaGreatDoor
set_option linter.unusedVariables false
set_option linter.unusedSimpArgs false
set_option linter.unusedSectionVars false

section
variable {α : Type} (key : α → Bs)
/-- each block of so many sorted by itself -/
def sblk (bs : Nat) (l : List α) : List α :=
  if h : bs = 0 ∨ l.length ≤ bs then isort key l else isort key (l.take bs) ++ sblk bs (l.drop bs)
termination_by l.length
decreasing_by simp; omega
variable {key}
theorem sblk_small {bs : Nat} {l : List α} (h : l.length ≤ bs) : sblk key bs l = isort key l := by
  rw [sblk, dif_pos (.inr h)]
theorem sblk_step {bs : Nat} {l : List α} (hb : 0 < bs) (h : bs ≤ l.length) : sblk key bs l = isort key (l.take bs) ++ sblk key bs (l.drop bs) := by
  by_cases h1 : l.length ≤ bs
  · have h2 : l.length = bs := by omega
    rw [sblk_small h1, List.take_of_length_le (by omega), List.drop_eq_nil_of_le (by omega), sblk_small (by simp)]
    simp [isort, isortR]
  · conv => lhs; rw [sblk]
    rw [dif_neg (by omega)]
theorem sblk_length (bs : Nat) : ∀ (n : Nat) (l : List α), l.length = n → (sblk key bs l).length = n := by
  intro n
  induction n using Nat.strongRecOn with
  | _ n ih =>
    intro l hl
    rw [sblk]
    split
    · rw [isort_length, hl]
    · rename_i h
      rw [List.length_append, isort_length, ih (l.drop bs).length (by simp; omega) (l.drop bs) rfl]
      simp
      omega
/-- two blocks merged are one of twice the size -/
theorem sblk_two {bs : Nat} {l : List α} (hb : 0 < bs) (h : 2 * bs ≤ l.length) : sblk key bs l = isort key (l.take bs) ++ (isort key ((l.drop bs).take bs) ++ sblk key bs (l.drop (2 * bs))) := by
  rw [sblk_step hb (by omega), sblk_step hb (by simp; omega), List.drop_drop, show bs + bs = 2 * bs by omega]
theorem isort_two (bs : Nat) (l : List α) : mrg key (isort key (l.take bs)) (isort key ((l.drop bs).take bs)) = isort key (l.take (2 * bs)) := by
  rw [← isort_append _ _ _ rfl]
  congr 1
  rw [show 2 * bs = bs + bs by omega, List.take_add]
theorem isort_rest (bs : Nat) (l : List α) : mrg key (isort key (l.take bs)) (isort key (l.drop bs)) = isort key l := by
  rw [← isort_append _ _ _ rfl, List.take_append_drop]
theorem isort_asc (l : List α) : Asc key (isort key l) := (isort_facts l).1
end
end Go.Proofs.YtbfmpbhikipipaaGreatDoor
namespace Go.Proofs.YtbfmpbhikipipaaGreatDoor
set_option linter.unusedVariables false
set_option linter.unusedSimpArgs false
set_option linter.unusedSectionVars false
open Go.RowKit

theorem sym_c : ∀ K, SymOk K := by
  intro K
  induction K with
  | zero =>
    intro b o c n a m e A u v B w h hA hu hv hn hn' hu1 hv1 hau hav hK
    omega
  | succ K ih =>
    intro b o c n a m e A u v B w h hA hu hv hn hn' hu1 hv1 hau hav hK
    by_cases h1 : u.length = 1
    · obtain ⟨x, rfl⟩ := List.length_eq_one_iff.1 h1
      exact sym_one b o c n a m e A v B x w (by simpa using h) hA (by simpa using hu) hv hn hn' hav
    · by_cases h2 : v.length = 1
      · obtain ⟨y, rfl⟩ := List.length_eq_one_iff.1 h2
        exact sym_last b o c n a m e A u B y w (by simpa using h) hA hu (by simpa using hv) hn hn' h1 hau
      · exact sym_step K ih b o c n a m e A u v B w h hA hu hv hn hn' (by omega) (by omega) hau hav hK

set_option maxRecDepth 100000 in
set_option maxHeartbeats 2000000 in
theorem stable_c (b o c n : Nat) (l : List PV) (w : World) (h : PRow b o l w) (hl : l.length = n) (hn : n ≤ 67108864) :
    Calls Tryz.prog 84 #[.slice (some ⟨b, o, none⟩) n c, .int .i64 n, .func (.func 58) #[] #[]] w fun e w' => e = .returned (.tuple #[]) ∧ PRow b o (isort PV.nm l) w' ∧ Fr (MBk b) w w' := by
  have H := Lib.hid h
  have Hl := Lib.hid hl
  clear h hl
  go_enter Tryz.func84, Tryz.ntmps84
  go_wp2_with fail
  go_loopg [7, 8] (n + 1) (fun g va vb wr => ∃ (a : Nat) (d r : List PV), va = .int .i64 a ∧ vb = .int .i64 ((a : Int) + 20) ∧ a + r.length = n ∧ g = r.length + 1 ∧ Hid (d.length = a) ∧ Hid (PRow b o (d ++ r) wr) ∧ Hid (Fr (MBk b) w wr) ∧ Hid (d ++ sblk PV.nm 20 r = sblk PV.nm 20 l))
  case atStart => exact ⟨0, [], l, rfl, rfl, by have := Hl.out; omega, by have := Hl.out; omega, rfl, H, Lib.hid Fr.refl, rfl⟩
  case round =>
    clear H
    obtain ⟨a, d, r, rfl, rfl, har, hg, Hd, HP, HF, HS⟩ := hrel
    rcases Nat.lt_or_ge r.length 20 with hlt | hge
    · -- the blocks are sorted, but for the last
      have hb1 : ¬ (a : Int) + 20 ≤ n := by omega
      have hins := insert_c b o c n a n d r [] wr (by simpa using HP.out) Hd.out har (by simp) hn
      have Hins := Lib.hid hins
      have hR := HS.out
      rw [sblk_small (by omega)] at hR
      have HR := Lib.hid hR
      clear hins hR HS HP
      go_wp2_with fail
      refine Hins.out.mono ?_
      rintro e' w1 ⟨rfl, hP1, hF1⟩
      rw [List.append_nil, HR.out] at hP1
      have HP1 := Lib.hid hP1
      have HF1 := Lib.hid (HF.out.trans' hF1)
      clear hP1 hF1 HF HR Hd har hg hlt hb1 Hins
      go_wp2_with fail
      go_loopg [6, 7, 8] (n + 1 - 20) (fun g vs va vb wr => ∃ (bs : Nat), vs = .int .i64 bs ∧ 20 ≤ bs ∧ bs ≤ 2 * n + 20 ∧ g = n + 1 - bs ∧ Hid (PRow b o (sblk PV.nm bs l) wr) ∧ Hid (Fr (MBk b) w wr))
      case atStart => exact ⟨20, rfl, by omega, by omega, by omega, HP1, HF1⟩
      case round =>
        clear HP1 HF1
        obtain ⟨bs, rfl, hbs, hbs2, hg, HP, HF⟩ := hrel
        rcases Nat.lt_or_ge bs n with hlt | hge
        · -- two blocks by two
          have eb2 : (2 : Int) * (bs : Int) = ((2 * bs : Nat) : Int) := by omega
          obtain ⟨b2, hb2⟩ : ∃ b2, 2 * bs = b2 := ⟨_, rfl⟩
          rw [hb2] at eb2
          have eb3 : (bs : Int) * 2 = (b2 : Int) := by omega
          have Hb2 := Lib.hid hb2
          have hb2n : b2 ≤ 2 * 67108864 := by omega
          clear hb2
          go_wp2_with fail
          go_loopg [7, 8] (n + 1) (fun g va vb wq => ∃ (a : Nat) (d r : List PV), va = .int .i64 a ∧ vb = .int .i64 ((a : Int) + (b2 : Int)) ∧ Hid (a + r.length = n) ∧ a ≤ n ∧ g = r.length + 1 ∧ Hid (d.length = a) ∧ Hid (PRow b o (d ++ sblk PV.nm bs r) wq) ∧ Hid (Fr (MBk b) w wq) ∧ Hid (d ++ sblk PV.nm b2 r = sblk PV.nm b2 l))
          case atStart => exact ⟨0, [], l, rfl, by simp, Lib.hid (by have := Hl.out; omega), by omega, by have := Hl.out; omega, rfl, Lib.hid (by simpa using HP.out), HF, rfl⟩
          case round =>
            clear HP HF
            obtain ⟨a, d, r, rfl, rfl, Har, han, hg2, Hd, HP, HF, HS⟩ := hrel
            rcases Nat.lt_or_ge r.length b2 with hlt2 | hge2
            · have hb3 : ¬ (a : Int) + (b2 : Int) ≤ n := by have := Har.out; omega
              have hR := HS.out
              rw [sblk_small (by omega)] at hR
              have HR := Lib.hid hR
              clear hR HS
              rcases Nat.lt_or_ge (a + bs) n with hm | hm
              · have hrl : bs < r.length := by have := Har.out; omega
                have e1 : sblk PV.nm bs r = isort PV.nm (r.take bs) ++ isort PV.nm (r.drop bs) := by
                  rw [sblk_step (by omega) (by omega), sblk_small (by have := Hb2.out; simp; omega)]
                have hsy := sym_c _ b o c n a (a + bs) n d (isort PV.nm (r.take bs)) (isort PV.nm (r.drop bs)) [] wr (by have := HP.out; rw [e1] at this; simpa using this) Hd.out (by rw [isort_length]; simp; omega) (by rw [isort_length]; have := Har.out; simp; omega) (by simp) hn (by rw [isort_length]; simp; omega) (by rw [isort_length]; simp; omega) (isort_asc _) (isort_asc _) (Nat.le_refl _)
                rw [isort_rest, List.append_nil] at hsy
                have ecast : ((a + bs : Nat) : Int) = (a : Int) + (bs : Int) := by omega
                rw [ecast] at hsy
                have Hsy := Lib.hid hsy
                have hm2 : (a : Int) + (bs : Int) < n := by omega
                clear hsy ecast
                go_wp2_with fail
                refine Hsy.out.mono ?_
                rintro e' w2 ⟨rfl, hP2, hF2⟩
                rw [HR.out] at hP2
                have HP2 := Lib.hid hP2
                have HF2 := Lib.hid (HF.out.trans' hF2)
                clear hP2 hF2
                go_wp2_with fail
                go_roundg (n + 1 - b2)
                case measure => have := Hb2.out; omega
                case rel => exact ⟨b2, rfl, by have := Hb2.out; omega, by have := Hb2.out; omega, rfl, HP2, HF2⟩
              · have hm2 : ¬ (a : Int) + (bs : Int) < n := by omega
                have hP2 := HP.out
                rw [sblk_small (by have := Har.out; omega), HR.out] at hP2
                have HP2 := Lib.hid hP2
                clear hP2
                go_wp2_with fail
                go_roundg (n + 1 - b2)
                case measure => have := Hb2.out; omega
                case rel => exact ⟨b2, rfl, by have := Hb2.out; omega, by have := Hb2.out; omega, rfl, HP2, HF⟩
            · have hb3 : (a : Int) + (b2 : Int) ≤ n := by have := Har.out; omega
              have hbb := Hb2.out
              have e1 : sblk PV.nm bs r = isort PV.nm (r.take bs) ++ (isort PV.nm ((r.drop bs).take bs) ++ sblk PV.nm bs (r.drop b2)) := by
                rw [← hbb]; exact sblk_two (by omega) (by omega)
              have hrd : (r.drop b2).length = r.length - b2 := by simp
              have hsy := sym_c _ b o c n a (a + bs) (a + b2) d (isort PV.nm (r.take bs)) (isort PV.nm ((r.drop bs).take bs)) (sblk PV.nm bs (r.drop b2)) wr (by have := HP.out; rw [e1] at this; simpa using this) Hd.out (by rw [isort_length]; simp; omega) (by rw [isort_length]; simp; omega) (by rw [sblk_length _ _ _ rfl]; have := Har.out; simp; omega) hn (by rw [isort_length]; simp; omega) (by rw [isort_length]; simp; omega) (isort_asc _) (isort_asc _) (Nat.le_refl _)
              rw [isort_two, hbb] at hsy
              have ecast : ((a + bs : Nat) : Int) = (a : Int) + (bs : Int) := by omega
              have ecast2 : ((a + b2 : Nat) : Int) = (a : Int) + (b2 : Int) := by omega
              rw [ecast, ecast2] at hsy
              have Hsy := Lib.hid hsy
              have hR := HS.out
              rw [sblk_step (by omega) hge2] at hR
              have HR := Lib.hid hR
              clear hsy ecast ecast2 e1 hrd hbb hR HS
              go_wp2_with fail
              refine Hsy.out.mono ?_
              rintro e' w2 ⟨rfl, hP2, hF2⟩
              have HP2 := Lib.hid hP2
              have HF2 := Lib.hid (HF.out.trans' hF2)
              clear hP2 hF2
              go_wp2_with fail
              go_roundg (r.length - b2 + 1)
              case measure => have := Hb2.out; omega
              case rel =>
                refine ⟨a + b2, d ++ isort PV.nm (r.take b2), r.drop b2, by simp, by first | (simp; done) | (simp; omega), Lib.hid (by have := Har.out; simp; omega), by have := Har.out; omega, by simp, Lib.hid (by rw [List.length_append, isort_length]; have := Hd.out; simp; omega), Lib.hid (by simpa using HP2.out), HF2, Lib.hid (by simpa using HR.out)⟩
        · have hP := HP.out
          rw [sblk_small (by have := Hl.out; omega)] at hP
          have HP2 := Lib.hid hP
          have hge2 : ¬ bs < n := by omega
          clear hP HP
          go_wp2_with fail
          go_end0
          exact ⟨rfl, HP2.out, HF.out⟩
    · have hb1 : (a : Int) + 20 ≤ n := by omega
      have hd9 : (r.drop 20).length = r.length - 20 := by simp
      have hins := insert_c b o c n a (a + 20) d (r.take 20) (r.drop 20) wr (by rw [List.take_append_drop]; exact HP.out) Hd.out (by simp; omega) (by simp; omega) hn
      have ecast : ((a + 20 : Nat) : Int) = (a : Int) + 20 := by omega
      rw [ecast] at hins
      have Hins := Lib.hid hins
      have hR := HS.out
      rw [sblk_step (by decide) hge] at hR
      have HR := Lib.hid hR
      clear hins hR HS HP hd9 ecast
      go_wp2_with fail
      refine Hins.out.mono ?_
      rintro e' w1 ⟨rfl, hP1, hF1⟩
      have HP1 := Lib.hid hP1
      have HF1 := Lib.hid (HF.out.trans' hF1)
      clear hP1 hF1
      go_wp2_with fail
      go_roundg (r.length - 20 + 1)
      case measure => omega
      case rel =>
        refine ⟨a + 20, d ++ isort PV.nm (r.take 20), r.drop 20, by simp, by simp, by simp; omega, by simp, Lib.hid (by rw [List.length_append, isort_length]; have := Hd.out; simp; omega), Lib.hid (by simpa using HP1.out), HF1, Lib.hid (by simpa using HR.out)⟩

set_option maxRecDepth 100000 in
set_option maxHeartbeats 1000000 in
theorem sort_all : SortOk 67108864 := by
  intro b o c l w h hl
  go_enter Tryz.func57, Tryz.ntmps57
  go_wp2_with fail
  refine (stable_c b o c l.length l w h rfl hl).mono ?_
  rintro e w1 ⟨rfl, hP, hF⟩
  go_wp2_with fail
  go_end0
  exact ⟨rfl, hP, hF⟩
end Go.Proofs.YtbfmpbhikipipaaGreatDoor
