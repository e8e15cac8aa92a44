/-
  Rows of values and of pairs, read cell by cell.
-/
import Derived.Test.YtbfmpbhikipipaaDoorRep
namespace Go.Proofs.YtbfmpbhikipipaaDoor
set_option linter.unusedVariables false
set_option linter.unusedSimpArgs false
set_option linter.unusedSectionVars false
open Go.RowKit
variable [OldK]

theorem RC.at {S : Nat → Prop} {w : World} : ∀ (l : List J) (xs : List Value), RC S w l xs → ∀ i j, l[i]? = some j →
    ∃ c0 c1 c2 c3 c4, xs[5 * i]? = some c0 ∧ xs[5 * i + 1]? = some c1 ∧ xs[5 * i + 2]? = some c2 ∧ xs[5 * i + 3]? = some c3 ∧ xs[5 * i + 4]? = some c4 ∧ RJ S w j (.agg #[c0, c1, c2, c3, c4]) := by
  intro l
  induction l with
  | nil => intro xs h i j hi; simp at hi
  | cons x l ih =>
    intro xs h i j hi
    unfold RC at h
    obtain ⟨c0, c1, c2, c3, c4, ys, rfl, hj, hr⟩ := h
    cases i with
    | zero => simp at hi; subst hi; exact ⟨c0, c1, c2, c3, c4, rfl, rfl, rfl, rfl, rfl, hj⟩
    | succ i =>
      obtain ⟨d0, d1, d2, d3, d4, e0, e1, e2, e3, e4, e5⟩ := ih ys hr i j (by simpa using hi)
      exact ⟨d0, d1, d2, d3, d4, e0, e1, e2, e3, e4, e5⟩
theorem RP.at {S : Nat → Prop} {w : World} : ∀ (l : List (Bs × J)) (xs : List Value), RP S w l xs → ∀ i nm j, l[i]? = some (nm, j) →
    ∃ c0 c1 c2 c3 c4, xs[6 * i]? = some (.string ⟨nm.toArray⟩) ∧ xs[6 * i + 1]? = some c0 ∧ xs[6 * i + 2]? = some c1 ∧ xs[6 * i + 3]? = some c2 ∧ xs[6 * i + 4]? = some c3 ∧ xs[6 * i + 5]? = some c4 ∧ RJ S w j (.agg #[c0, c1, c2, c3, c4]) := by
  intro l
  induction l with
  | nil => intro xs h i nm j hi; simp at hi
  | cons x l ih =>
    obtain ⟨xn, xj⟩ := x
    intro xs h i nm j hi
    unfold RP at h
    obtain ⟨c0, c1, c2, c3, c4, ys, rfl, hj, hr⟩ := h
    cases i with
    | zero => simp at hi; obtain ⟨rfl, rfl⟩ := hi; exact ⟨c0, c1, c2, c3, c4, rfl, rfl, rfl, rfl, rfl, rfl, hj⟩
    | succ i =>
      obtain ⟨d0, d1, d2, d3, d4, e⟩ := ih ys hr i nm j (by simpa using hi)
      exact ⟨d0, d1, d2, d3, d4, e⟩

/-- a row of values at an address -/
def RowV (S : Nat → Prop) (w : World) (l : List J) (a : Option Addr) : Prop :=
  l = [] ∨ ∃ b o cs f, a = some ⟨b, o, none⟩ ∧ S b ∧ Blk 25 w b cs f ∧ RC S w l ((cs.toList.drop o).take (5 * l.length))
def RowP (S : Nat → Prop) (w : World) (p : List (Bs × J)) (a : Option Addr) : Prop :=
  p = [] ∨ ∃ b o cs f, a = some ⟨b, o, none⟩ ∧ S b ∧ Blk 31 w b cs f ∧ RP S w p ((cs.toList.drop o).take (6 * p.length))
theorem RowV.kp {S S' : Nat → Prop} {w w' : World} {l : List J} {a : Option Addr} (h : RowV S w l a) (hk : Kp S S' w w') : RowV S' w' l a := by
  rcases h with h1 | ⟨b, o, cs, f, ha, hs, hb, hr⟩
  · exact .inl h1
  · obtain ⟨hs', hb'⟩ := hb.kpV hk hs
    exact .inr ⟨b, o, cs, f, ha, hs', hb', RC.kp hk l _ hr⟩
theorem RowP.kp {S S' : Nat → Prop} {w w' : World} {l : List (Bs × J)} {a : Option Addr} (h : RowP S w l a) (hk : Kp S S' w w') : RowP S' w' l a := by
  rcases h with h1 | ⟨b, o, cs, f, ha, hs, hb, hr⟩
  · exact .inl h1
  · obtain ⟨hs', hb'⟩ := hb.kpP hk hs
    exact .inr ⟨b, o, cs, f, ha, hs', hb', RP.kp hk l _ hr⟩
theorem cells_of_drop {b o : Nat} {cs : Array Value} {U : TypeId} {f : Nat × Nat} {w : World} (h0 : Blk U w b cs f) {n k : Nat} {v : Value} (hv : ((cs.toList.drop o).take n)[k]? = some v) : w.cell? ⟨b, o + k, none⟩ = some v := by
  obtain ⟨T, h, _⟩ := h0
  have h1 : cs[o + k]? = some v := by
    rw [List.getElem?_take] at hv
    split at hv
    · rw [List.getElem?_drop] at hv; simpa using hv
    · simp at hv
  simp [World.cell?, h, h1]
theorem RowV.at {S : Nat → Prop} {w : World} {l : List J} {a : Option Addr} (h : RowV S w l a) {i : Nat} {j : J} (hi : l[i]? = some j) :
    ∃ b o c0 c1 c2 c3 c4, a = some ⟨b, o, none⟩ ∧ b < w.heap.size ∧ w.cell? ⟨b, o + i * 5, none⟩ = some c0 ∧ w.cell? ⟨b, o + i * 5 + 1, none⟩ = some c1 ∧ w.cell? ⟨b, o + i * 5 + 2, none⟩ = some c2 ∧ w.cell? ⟨b, o + i * 5 + 3, none⟩ = some c3 ∧ w.cell? ⟨b, o + i * 5 + 4, none⟩ = some c4 ∧ RJ S w j (.agg #[c0, c1, c2, c3, c4]) := by
  rcases h with rfl | ⟨b, o, cs, f, ha, hs, hb, hr⟩
  · simp at hi
  · obtain ⟨c0, c1, c2, c3, c4, e0, e1, e2, e3, e4, e5⟩ := RC.at l _ hr i j hi
    rw [Nat.mul_comm i 5]
    exact ⟨b, o, c0, c1, c2, c3, c4, ha, hb.lt, cells_of_drop hb e0, cells_of_drop (k := 5 * i + 1) hb e1, cells_of_drop (k := 5 * i + 2) hb e2, cells_of_drop (k := 5 * i + 3) hb e3, cells_of_drop (k := 5 * i + 4) hb e4, e5⟩
theorem RowP.at {S : Nat → Prop} {w : World} {l : List (Bs × J)} {a : Option Addr} (h : RowP S w l a) {i : Nat} {nm : Bs} {j : J} (hi : l[i]? = some (nm, j)) :
    ∃ b o c0 c1 c2 c3 c4, a = some ⟨b, o, none⟩ ∧ b < w.heap.size ∧ w.cell? ⟨b, o + i * 6, none⟩ = some (.string ⟨nm.toArray⟩) ∧ w.cell? ⟨b, o + i * 6 + 1, none⟩ = some c0 ∧ w.cell? ⟨b, o + i * 6 + 2, none⟩ = some c1 ∧ w.cell? ⟨b, o + i * 6 + 3, none⟩ = some c2 ∧ w.cell? ⟨b, o + i * 6 + 4, none⟩ = some c3 ∧ w.cell? ⟨b, o + i * 6 + 5, none⟩ = some c4 ∧ RJ S w j (.agg #[c0, c1, c2, c3, c4]) := by
  rcases h with rfl | ⟨b, o, cs, f, ha, hs, hb, hr⟩
  · simp at hi
  · obtain ⟨c0, c1, c2, c3, c4, e0, e1, e2, e3, e4, e5, e6⟩ := RP.at l _ hr i nm j hi
    rw [Nat.mul_comm i 6]
    exact ⟨b, o, c0, c1, c2, c3, c4, ha, hb.lt, cells_of_drop hb e0, cells_of_drop (k := 6 * i + 1) hb e1, cells_of_drop (k := 6 * i + 2) hb e2, cells_of_drop (k := 6 * i + 3) hb e3, cells_of_drop (k := 6 * i + 4) hb e4, cells_of_drop (k := 6 * i + 5) hb e5, e6⟩
/-- a value taken apart -/
theorem RJ.open {S : Nat → Prop} {w : World} {k n : Int} {t : Bs} {l : List J} {p : List (Bs × J)} {v : Value} (h : RJ S w (.mk k n t l p) v) :
    ∃ a1 c1 a2 c2, v = .agg #[.int .i64 k, .int .i64 n, .string ⟨t.toArray⟩, .slice a1 l.length c1, .slice a2 p.length c2] ∧ RowV S w l a1 ∧ RowP S w p a2 := by
  unfold RJ at h; exact h
theorem Kp.ofFr {S : Nat → Prop} {w w' : World} (hF : Fr NoB w w') : Kp S S w w' := Kp.fr hF (fun _ h _ => h) (fun _ _ _ _ _ h => h)
end Go.Proofs.YtbfmpbhikipipaaDoor
