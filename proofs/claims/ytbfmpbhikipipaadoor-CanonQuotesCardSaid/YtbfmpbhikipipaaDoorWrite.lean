/-
  The walk of canon's write.
-/
import Derived.Test.YtbfmpbhikipipaaDoorSpecWrite
import Derived.Test.YtbfmpbhikipipaaDoorCanon1
import Derived.Test.YtbfmpbhikipipaaDoorSound3
namespace Go.Proofs.YtbfmpbhikipipaaDoor
set_option linter.unusedVariables false
set_option linter.unusedSimpArgs false
open Go.RowKit

theorem grow_fr (w : World) (q : Nat) (os : Array Obj) : Fr NoB w (Go.Sort.grow (w.drewN q) os) := by
  refine ⟨rfl, rfl, rfl, ?_, fun k o h _ => ?_⟩
  · show w.heap.size ≤ (w.heap ++ os).size
    simp
  · show (w.heap ++ os)[k]? = some o
    rw [Array.getElem?_append_left (get_lt h)]
    exact h
theorem Bld.keep {B b : Nat} {l : Bs} {w w' : World} (h : Bld B b l w) (hF : Fr NoB w w') : Bld B b l w' := h.fr hF (fun _ _ _ _ _ x => x)
theorem mb_no {B b : Nat} : ∀ k o, NoB k o → MB B b k o := fun _ _ h => h.elim
/-- a value stays as it is, whatever a builder does -/
theorem Kp.mb {S : Nat → Prop} {B b : Nat} {l : Bs} {w w' : World} (hb : Bld B b l w) (hF : Fr (MB B b) w w') : Kp S S w w' :=
  Kp.fr hF (fun _ h _ => h) (fun k o _ ho ht hm => by
    obtain ⟨ob, h1, c, f, rfl⟩ := hb.ty
    rcases hm.2 with rfl | ⟨c', f', rfl⟩
    · rw [h1] at ho
      obtain rfl := Option.some.inj ho
      rcases ht with ⟨_, _, h⟩ | ⟨_, _, h⟩ <;> simp at h
    · rcases ht with ⟨_, _, h⟩ | ⟨_, _, h⟩ <;> simp at h)

/-- what 'write' does to values less than n large -/
def WriteOk (n : Nat) : Prop := ∀ (j : J), SizeOf.sizeOf j < n → ∀ (S : Nat → Prop) (B b : Nat) (l : Bs) (v : Value) (w : World), Bld B b l w → RJ S w j v → 6 ≤ B → Gl w → fits 67108864 j = true → l.length + (pWrite j).length + 16 ≤ 140737488355328 →
  Calls Tryd.prog 26 #[.pointer (some ⟨b, 0, none⟩), v] w fun e w' => e = .returned (.tuple #[]) ∧ Bld B b (l ++ pWrite j) w' ∧ Fr (MB B b) w w'

set_option maxRecDepth 100000 in
set_option maxHeartbeats 2000000 in
theorem write_flat (S : Nat → Prop) (B b : Nat) (o : Bs) (k n : Int) (t : Bs) (l : List J) (p : List (Bs × J)) (v : Value) (w : World) (hb : Bld B b o w) (h : RJ S w (.mk k n t l p) v) (_hB : 6 ≤ B) (hg : Gl w) (hfit : fits 67108864 (.mk k n t l p) = true)
    (hlen : o.length + (pWrite (.mk k n t l p)).length + 16 ≤ 140737488355328) (h4 : ¬ k = 4) (h5 : ¬ k = 5) :
    Calls Tryd.prog 26 #[.pointer (some ⟨b, 0, none⟩), v] w fun e w' => e = .returned (.tuple #[]) ∧ Bld B b (o ++ pWrite (.mk k n t l p)) w' ∧ Fr (MB B b) w w' := by
  obtain ⟨a1, c1, a2, c2, rfl, _, _⟩ := h.open
  obtain ⟨i0, i1⟩ := fits.int hfit
  have htl := (fits.open hfit).1
  have hx := heap_alloc_new w (.cells #[.int .i64 k, .int .i64 n, .string ⟨t.toArray⟩, .slice a1 l.length c1, .slice a2 p.length c2] 25)
  obtain ⟨d0, d1, d2, d3, d4, dz, dlt⟩ := VB.at hx
  have hF0 : Fr (MB B b) w (w.alloc (.cells #[.int .i64 k, .int .i64 n, .string ⟨t.toArray⟩, .slice a1 l.length c1, .slice a2 p.length c2] 25)) := Fr.refl.alloc _
  have hb0 := hb.keep (Fr.refl.alloc (.cells #[.int .i64 k, .int .i64 n, .string ⟨t.toArray⟩, .slice a1 l.length c1, .slice a2 p.length c2] 25))
  have hg0 := hg.alloc (.cells #[.int .i64 k, .int .i64 n, .string ⟨t.toArray⟩, .slice a1 l.length c1, .slice a2 p.length c2] 25)
  have e4 := eq_false h4
  have e5 := eq_false h5
  have HF0 := Lib.hid hF0
  have Hx := Lib.hid hx
  have Hg0 := Lib.hid hg0
  clear h hfit hF0 hx hg0
  unfold pWrite at hlen ⊢
  by_cases h0 : k = 0
  · subst h0
    rw [if_pos rfl] at hlen ⊢
    clear h4 h5 e4 e5
    go_enter Tryd.func26, Tryd.ntmps26
    go_wp2_with fail
    refine (writeString_c _ _ o [110, 117, 108, 108] _ hb0 (by simp at hlen ⊢; omega)).mono ?_
    rintro e w1 ⟨rfl, hb1, hF1⟩
    go_wp2_with fail
    go_end0
    exact ⟨rfl, hb1, HF0.out.trans' hF1⟩
  by_cases h1 : k = 1
  · subst h1
    rw [if_neg (by decide), if_pos rfl] at hlen ⊢
    clear h4 h5 e4 e5 h0
    go_enter Tryd.func26, Tryd.ntmps26
    go_wp2_with fail
    refine (Go.Proofs.Tryd.strconv_FormatBool (n == 1) _).mono ?_
    rintro e w1 ⟨rfl, rfl⟩
    go_wp2_with fail
    refine (writeString_c _ _ o (Lib.formatBool (n == 1)) _ hb0 (by omega)).mono ?_
    rintro e w1 ⟨rfl, hb1, hF1⟩
    go_wp2_with fail
    go_end0
    exact ⟨rfl, hb1, HF0.out.trans' hF1⟩
  by_cases h2 : k = 2
  · subst h2
    rw [if_neg (by decide), if_neg (by decide), if_pos rfl] at hlen ⊢
    clear h4 h5 e4 e5 h0 h1
    go_enter Tryd.func26, Tryd.ntmps26
    go_wp2_with fail
    refine (Go.Proofs.Tryd.strconv_Itoa n i0 i1 _ Hg0.out.pow10).mono ?_
    rintro e w1 ⟨rfl, q, os, rfl⟩
    have hb1 := hb0.keep (grow_fr _ q os)
    have HF1 := Lib.hid (HF0.out.trans' ((grow_fr _ q os).mono mb_no))
    go_wp2_with fail
    refine (writeString_c _ _ o (Lib.itoa n) _ hb1 (by omega)).mono ?_
    rintro e w2 ⟨rfl, hb2, hF2⟩
    go_wp2_with fail
    go_end0
    exact ⟨rfl, hb2, HF1.out.trans' hF2⟩
  by_cases h3 : k = 3
  · subst h3
    rw [if_neg (by decide), if_neg (by decide), if_neg (by decide), if_pos rfl] at hlen ⊢
    clear h4 h5 e4 e5 h0 h1 h2
    go_enter Tryd.func26, Tryd.ntmps26
    go_wp2_with fail
    refine (quote_c t _ htl).mono ?_
    rintro e w1 ⟨rfl, hq⟩
    have hb1 := hb0.keep hq
    have HF1 := Lib.hid (HF0.out.trans' (hq.mono mb_no))
    go_wp2_with fail
    refine (writeString_c _ _ o (pQuote t) _ hb1 (by omega)).mono ?_
    rintro e w2 ⟨rfl, hb2, hF2⟩
    go_wp2_with fail
    go_end0
    exact ⟨rfl, hb2, HF1.out.trans' hF2⟩
  rw [if_neg h0, if_neg h1, if_neg h2, if_neg h3, if_neg h4, if_neg h5]
  have e0 := eq_false h0
  have e1 := eq_false h1
  have e2 := eq_false h2
  have e3 := eq_false h3
  clear h0 h1 h2 h3 h4 h5 hlen
  go_enter Tryd.func26, Tryd.ntmps26
  go_wp2_with fail
  go_end0
  exact ⟨rfl, by simpa using hb0, HF0.out⟩
end Go.Proofs.YtbfmpbhikipipaaDoor
