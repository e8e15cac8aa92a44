/-
  The walk of canon's sorted.
-/
import Derived.Test.YtbfmpbhikipipaaDoorSpecSort
import Derived.Test.YtbfmpbhikipipaaDoorStable
import Derived.Test.YtbfmpbhikipipaaDoorSound3
import Derived.Deep.RegionLaw
import Derived.Deep.LoopGhost
namespace Go.Proofs.YtbfmpbhikipipaaDoor
set_option linter.unusedVariables false
set_option linter.unusedSimpArgs false
set_option linter.unusedSectionVars false
open Go.RowKit
variable [OldK]

/-- the rows of a value lie in new blocks -/
def TopN (B : Nat) (w : World) (x : Value) : Prop := ∃ k n t a1 n1 c1 a2 n2 c2, x = .agg #[k, n, t, .slice a1 n1 c1, .slice a2 n2 c2] ∧
  (n1 = 0 ∨ ∃ g cs, a1 = some ⟨g, 0, none⟩ ∧ B ≤ g ∧ w.heap[g]? = some (.cells cs 25 (0, 0))) ∧
  (n2 = 0 ∨ ∃ g cs, a2 = some ⟨g, 0, none⟩ ∧ B ≤ g ∧ w.heap[g]? = some (.cells cs 31 (0, 0)))
/-- what 'sorted' does, f levels deep, to values whose objects have at most N pairs -/
def SortedOk (N f : Nat) : Prop := ∀ (d : Int) (S : Nat → Prop) (j : J) (v : Value) (w : World), RJ S w j v → fits 67108864 j = true → few N j = true → 0 ≤ d → d + f = 8 →
  Calls Tryd.prog 18 #[v, .int .i64 d] w fun e w' => ∃ x, e = .returned x ∧ RJ (fun k => S k ∨ w.heap.size ≤ k) w' (pSorts f j) x ∧ Fr NoB w w' ∧ (f = 0 ∨ TopN w.heap.size w' x)

theorem RJ.lt {S : Nat → Prop} {w : World} {j : J} {v : Value} (h : RJ S w j v) : RJ (fun k => S k ∧ k < w.heap.size) w j v :=
  RJ.kp (fun b o hs hb _ => ⟨⟨hs, get_lt hb⟩, hb⟩) j v h
theorem RowV.lt {S : Nat → Prop} {w : World} {l : List J} {a : Option Addr} (h : RowV S w l a) : RowV (fun k => S k ∧ k < w.heap.size) w l a :=
  h.kp (fun b o hs hb _ => ⟨⟨hs, get_lt hb⟩, hb⟩)
theorem RowP.lt {S : Nat → Prop} {w : World} {l : List (Bs × J)} {a : Option Addr} (h : RowP S w l a) : RowP (fun k => S k ∧ k < w.heap.size) w l a :=
  h.kp (fun b o hs hb _ => ⟨⟨hs, get_lt hb⟩, hb⟩)

/-- a list that grows -/
def LRow (S : Nat → Prop) (N : Nat) (l : List J) (lv : Value) (w : World) : Prop :=
  ∃ xs, w.ownsRow N 25 5 lv l.length xs ∧ RC (fun k => (S k ∨ N ≤ k) ∧ lv.ownBlock ≠ some k) w l xs
theorem LRow.nil (S : Nat → Prop) (N : Nat) (w : World) : LRow S N [] (.slice none 0 0) w := ⟨[], ⟨rfl, .inl ⟨rfl, rfl⟩⟩, by unfold RC; rfl⟩
theorem LRow.fr {S : Nat → Prop} {N : Nat} {l : List J} {lv : Value} {w w' : World} (h : LRow S N l lv w) (hF : Fr NoB w w') : LRow S N l lv w' := by
  obtain ⟨xs, hown, hrc⟩ := h
  exact ⟨xs, own_fr hown hF (fun _ _ _ _ _ h => h), RC.kp (Kp.ofFr hF) l xs hrc⟩

set_option maxRecDepth 100000 in
set_option maxHeartbeats 1000000 in
theorem sorted_deep (N : Nat) : SortedOk N 0 := by
  intro d S j v w h hfit hfew hd0 hd
  have hd8 : d = 8 := by simp at hd; omega
  subst hd8
  simp only [pSorts]
  obtain ⟨k, n, t, l, p⟩ := j
  obtain ⟨a1, c1, a2, c2, rfl, _, _⟩ := h.open
  have hb := heap_alloc_new w (.cells #[.int .i64 k, .int .i64 n, .string ⟨t.toArray⟩, .slice a1 l.length c1, .slice a2 p.length c2] 25)
  obtain ⟨b0, b1, b2, b3, b4, bz, blt⟩ := VB.at hb
  have hr := heap_alloc_new (w.alloc (.cells #[.int .i64 k, .int .i64 n, .string ⟨t.toArray⟩, .slice a1 l.length c1, .slice a2 p.length c2] 25)) (.cells #[.int .i64 k, .int .i64 n, .string ⟨t.toArray⟩, .slice a1 l.length c1, .slice a2 p.length c2] 25)
  rw [World.size_alloc] at hr
  obtain ⟨r0, r1, r2, r3, r4, rz, rlt⟩ := VB.at hr
  have hF : Fr NoB w ((w.alloc (.cells #[.int .i64 k, .int .i64 n, .string ⟨t.toArray⟩, .slice a1 l.length c1, .slice a2 p.length c2] 25)).alloc (.cells #[.int .i64 k, .int .i64 n, .string ⟨t.toArray⟩, .slice a1 l.length c1, .slice a2 p.length c2] 25)) := (Fr.refl.alloc _).alloc _
  have HF := Lib.hid hF
  have Hx := Lib.hid (RJ.kp (Kp.fr (S' := fun k => S k ∨ w.heap.size ≤ k) hF (fun _ h _ => .inl h) (fun _ _ _ _ _ h => h)) _ _ h)
  clear hF h hfit hfew hb hr
  go_enter Tryd.func18, Tryd.ntmps18
  go_wp2_with fail
  refine bodyPost_ret (v := .agg #[.int .i64 k, .int .i64 n, .string ⟨t.toArray⟩, .slice a1 l.length c1, .slice a2 p.length c2]) (by simp [results, Tryd.results18, go_sem, r0, r1, r2, r3, r4]) rfl ?_
  exact ⟨_, rfl, Hx.out, HF.out, by simp⟩

end Go.Proofs.YtbfmpbhikipipaaDoor
