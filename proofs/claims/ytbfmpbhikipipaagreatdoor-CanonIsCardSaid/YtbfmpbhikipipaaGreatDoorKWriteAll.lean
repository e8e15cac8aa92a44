/-
  In one: Write, Write2, Write3.
-/
import Derived.Test.YtbfmpbhikipipaaGreatDoorKSpecWrite
import Derived.Test.YtbfmpbhikipipaaGreatDoorKCanon1
import Derived.Test.YtbfmpbhikipipaaGreatDoorKSound3
import Derived.Deep.LoopGhost
namespace Go.Proofs.YtbfmpbhikipipaaGreatDoor
set_option linter.unusedVariables false
set_option linter.unusedSimpArgs false
set_option linter.unusedSectionVars false
open Go.RowKit
variable [OldK]

theorem grow_fr (w : World) (q : Nat) (os : Array Obj) : Fr NoB w (Go.Sort.grow (w.drewN q) os) := by
  refine ⟨rfl, rfl, rfl, ?_, fun k o h _ => ?_⟩
  · show w.heap.size ≤ (w.heap ++ os).size
    simp
  · show (w.heap ++ os)[k]? = some o
    rw [Array.getElem?_append_left (get_lt h)]
    exact h
theorem Bld.keep {B b : Nat} {l : Bs} {w w' : World} (h : Bld B b l w) (hF : Fr NoB w w') : Bld B b l w' := h.fr hF (fun _ _ _ _ _ x => x)
theorem mb_no {B b : Nat} : ∀ k o, NoB k o → MB B b k o := fun _ _ h => h.elim
/-- a block from which a builder's rows may lie -/
def Bok (B : Nat) : Prop := 6 ≤ B ∧ OldK.k ≤ B
theorem mb_keepV {B b : Nat} {l : Bs} {w w' : World} (hb : Bld B b l w) (hF : Fr (MB B b) w w') (hB : Bok B) {k : Nat} {o : Obj} (ho : w.heap[k]? = some o) (ht : Vt k o) : w'.heap[k]? = some o :=
  hF.block k o ho (fun hm => by
    obtain ⟨ob, h1, c, f, rfl⟩ := hb.ty
    rcases ht with ⟨c', f', rfl⟩ | ⟨c', f', rfl⟩ | ht
    · rcases hm.2 with rfl | ⟨c2, f2, h2⟩
      · rw [h1] at ho
        have := Option.some.inj ho
        simp at this
      · simp at h2
    · rcases hm.2 with rfl | ⟨c2, f2, h2⟩
      · rw [h1] at ho
        have := Option.some.inj ho
        simp at this
      · simp at h2
    · have := hm.1
      have := hB.2
      omega)
/-- a value stays as it is, whatever a builder does -/
theorem Kp.mb {S : Nat → Prop} {B b : Nat} {l : Bs} {w w' : World} (hb : Bld B b l w) (hF : Fr (MB B b) w w') (hB : Bok B) : Kp S S w w' :=
  fun k o hs ho ht => ⟨hs, mb_keepV hb hF hB ho ht⟩

/-- what 'write' does to values less than n large -/
def WriteOk (n : Nat) : Prop := ∀ (j : J), SizeOf.sizeOf j < n → ∀ (S : Nat → Prop) (B b : Nat) (l : Bs) (v : Value) (w : World), Bld B b l w → RJ S w j v → Bok B → Gl w → fits 67108864 j = true → l.length + (pWrite j).length + 16 ≤ 140737488355328 →
  Calls Tryz.prog 22 #[.pointer (some ⟨b, 0, none⟩), v] w fun e w' => e = .returned (.tuple #[]) ∧ Bld B b (l ++ pWrite j) w' ∧ Fr (MB B b) w w'

set_option maxRecDepth 100000 in
set_option maxHeartbeats 2000000 in
theorem write_flat (S : Nat → Prop) (B b : Nat) (o : Bs) (k n : Int) (t : Bs) (l : List J) (p : List (Bs × J)) (v : Value) (w : World) (hb : Bld B b o w) (h : RJ S w (.mk k n t l p) v) (_hB : Bok B) (hg : Gl w) (hfit : fits 67108864 (.mk k n t l p) = true)
    (hlen : o.length + (pWrite (.mk k n t l p)).length + 16 ≤ 140737488355328) (h4 : ¬ k = 4) (h5 : ¬ k = 5) :
    Calls Tryz.prog 22 #[.pointer (some ⟨b, 0, none⟩), v] w fun e w' => e = .returned (.tuple #[]) ∧ Bld B b (o ++ pWrite (.mk k n t l p)) w' ∧ Fr (MB B b) w w' := by
  obtain ⟨a1, c1, a2, c2, rfl, _, _⟩ := h.open
  obtain ⟨i0, i1⟩ := fits.int hfit
  have htl := (fits.open hfit).1
  have hx := heap_alloc_new w (.cells #[.int .i64 k, .int .i64 n, .string ⟨t.toArray⟩, .slice a1 l.length c1, .slice a2 p.length c2] 25)
  obtain ⟨d0, d1, d2, d3, d4, dz, dlt⟩ := VB.at hx
  have hF0 : Fr (MB B b) w (w.alloc (.cells #[.int .i64 k, .int .i64 n, .string ⟨t.toArray⟩, .slice a1 l.length c1, .slice a2 p.length c2] 25)) := Fr.refl.alloc _
  have hb0 := hb.keep (Fr.refl.alloc (.cells #[.int .i64 k, .int .i64 n, .string ⟨t.toArray⟩, .slice a1 l.length c1, .slice a2 p.length c2] 25))
  have hg0 := hg.alloc (.cells #[.int .i64 k, .int .i64 n, .string ⟨t.toArray⟩, .slice a1 l.length c1, .slice a2 p.length c2] 25)
  have e4 := eq_false h4
  have e5 := eq_false h5
  have HF0 := Lib.hid hF0
  have Hx := Lib.hid hx
  have Hg0 := Lib.hid hg0
  clear h hfit hF0 hx hg0
  unfold pWrite at hlen ⊢
  by_cases h0 : k = 0
  · subst h0
    rw [if_pos rfl] at hlen ⊢
    clear h4 h5 e4 e5
    go_enter Tryz.func22, Tryz.ntmps22
    go_wp2_with fail
    refine (writeString_c _ _ o [110, 117, 108, 108] _ hb0 (by simp at hlen ⊢; omega)).mono ?_
    rintro e w1 ⟨rfl, hb1, hF1⟩
    go_wp2_with fail
    go_end0
    exact ⟨rfl, hb1, HF0.out.trans' hF1⟩
  by_cases h1 : k = 1
  · subst h1
    rw [if_neg (by decide), if_pos rfl] at hlen ⊢
    clear h4 h5 e4 e5 h0
    go_enter Tryz.func22, Tryz.ntmps22
    go_wp2_with fail
    refine (Go.Proofs.Tryz.strconv_FormatBool (n == 1) _).mono ?_
    rintro e w1 ⟨rfl, rfl⟩
    go_wp2_with fail
    refine (writeString_c _ _ o (Lib.formatBool (n == 1)) _ hb0 (by omega)).mono ?_
    rintro e w1 ⟨rfl, hb1, hF1⟩
    go_wp2_with fail
    go_end0
    exact ⟨rfl, hb1, HF0.out.trans' hF1⟩
  by_cases h2 : k = 2
  · subst h2
    rw [if_neg (by decide), if_neg (by decide), if_pos rfl] at hlen ⊢
    clear h4 h5 e4 e5 h0 h1
    go_enter Tryz.func22, Tryz.ntmps22
    go_wp2_with fail
    refine (Go.Proofs.Tryz.strconv_Itoa n i0 i1 _ Hg0.out.pow10).mono ?_
    rintro e w1 ⟨rfl, q, os, rfl⟩
    have hb1 := hb0.keep (grow_fr _ q os)
    have HF1 := Lib.hid (HF0.out.trans' ((grow_fr _ q os).mono mb_no))
    go_wp2_with fail
    refine (writeString_c _ _ o (Lib.itoa n) _ hb1 (by omega)).mono ?_
    rintro e w2 ⟨rfl, hb2, hF2⟩
    go_wp2_with fail
    go_end0
    exact ⟨rfl, hb2, HF1.out.trans' hF2⟩
  by_cases h3 : k = 3
  · subst h3
    rw [if_neg (by decide), if_neg (by decide), if_neg (by decide), if_pos rfl] at hlen ⊢
    clear h4 h5 e4 e5 h0 h1 h2
    go_enter Tryz.func22, Tryz.ntmps22
    go_wp2_with fail
    refine (quote_c t _ htl).mono ?_
    rintro e w1 ⟨rfl, hq⟩
    have hb1 := hb0.keep hq
    have HF1 := Lib.hid (HF0.out.trans' (hq.mono mb_no))
    go_wp2_with fail
    refine (writeString_c _ _ o (pQuote t) _ hb1 (by omega)).mono ?_
    rintro e w2 ⟨rfl, hb2, hF2⟩
    go_wp2_with fail
    go_end0
    exact ⟨rfl, hb2, HF1.out.trans' hF2⟩
  rw [if_neg h0, if_neg h1, if_neg h2, if_neg h3, if_neg h4, if_neg h5]
  have e0 := eq_false h0
  have e1 := eq_false h1
  have e2 := eq_false h2
  have e3 := eq_false h3
  clear h0 h1 h2 h3 h4 h5 hlen
  go_enter Tryz.func22, Tryz.ntmps22
  go_wp2_with fail
  go_end0
  exact ⟨rfl, by simpa using hb0, HF0.out⟩
end Go.Proofs.YtbfmpbhikipipaaGreatDoor
namespace Go.Proofs.YtbfmpbhikipipaaGreatDoor
set_option linter.unusedVariables false
set_option linter.unusedSimpArgs false
set_option linter.unusedSectionVars false
open Go.RowKit
variable [OldK]

theorem mem_size {l : List J} {i : Nat} {j : J} (h : l[i]? = some j) (k n : Int) (t : Bs) (p : List (Bs × J)) : SizeOf.sizeOf j < SizeOf.sizeOf (J.mk k n t l p) := by
  have h1 := List.sizeOf_lt_of_mem (List.mem_of_getElem? h)
  simp only [J.mk.sizeOf_spec]
  omega
theorem memp_size {p : List (Bs × J)} {i : Nat} {nm : Bs} {j : J} (h : p[i]? = some (nm, j)) (k n : Int) (t : Bs) (l : List J) : SizeOf.sizeOf j < SizeOf.sizeOf (J.mk k n t l p) := by
  have h1 := List.sizeOf_lt_of_mem (List.mem_of_getElem? h)
  simp only [J.mk.sizeOf_spec, Prod.mk.sizeOf_spec] at h1 ⊢
  omega
/-- a block of values or pairs stays, whatever a builder does -/
theorem mb_keep {B b : Nat} {l : Bs} {w w' : World} (hb : Bld B b l w) (hF : Fr (MB B b) w w') (hB : Bok B) {k : Nat} {o : Obj} (ho : w.heap[k]? = some o) (ht : OfTy 25 o ∨ OfTy 62 o) : w'.heap[k]? = some o :=
  mb_keepV hb hF hB ho (ht.elim .inl (fun h => .inr (.inl h)))
theorem Gl.mb {B b : Nat} {w w' : World} (h : Gl w) (hB : Bok B) (hF : Fr (MB B b) w w') : Gl w' :=
  h.fr hF (fun k o _ hm => Nat.le_trans hB.1 hm.1)
/-- the sign ahead of an element -/
def Comma (op : UInt8) (i : Nat) (cz : Int) (c : UInt8) : Prop := (cz = (op.toNat : Int) ∧ c = op ∧ i = 0) ∨ (cz = 44 ∧ c = 44 ∧ 0 < i)

set_option maxRecDepth 100000 in
set_option maxHeartbeats 2000000 in
theorem write_list (N : Nat) (ih : WriteOk N) (S : Nat → Prop) (B b : Nat) (o : Bs) (n : Int) (t : Bs) (l : List J) (p : List (Bs × J)) (v : Value) (w : World) (hb : Bld B b o w) (h : RJ S w (.mk 4 n t l p) v) (hB : Bok B) (hg : Gl w) (hfit : fits 67108864 (.mk 4 n t l p) = true)
    (hlen : o.length + (pWrite (.mk 4 n t l p)).length + 16 ≤ 140737488355328) (hs : SizeOf.sizeOf (J.mk 4 n t l p) ≤ N) :
    Calls Tryz.prog 22 #[.pointer (some ⟨b, 0, none⟩), v] w fun e w' => e = .returned (.tuple #[]) ∧ Bld B b (o ++ pWrite (.mk 4 n t l p)) w' ∧ Fr (MB B b) w w' := by
  obtain ⟨a1, c1, a2, c2, rfl, hl, _⟩ := h.open
  have hll := (fits.open hfit).2.1
  have Hfl := Lib.hid (fits.open hfit).2.2.2.1
  have hx := heap_alloc_new w (.cells #[.int .i64 4, .int .i64 n, .string ⟨t.toArray⟩, .slice a1 l.length c1, .slice a2 p.length c2] 25)
  obtain ⟨d0, d1, d2, d3, d4, dz, dlt⟩ := VB.at hx
  have hF0 : Fr (MB B b) w (w.alloc (.cells #[.int .i64 4, .int .i64 n, .string ⟨t.toArray⟩, .slice a1 l.length c1, .slice a2 p.length c2] 25)) := Fr.refl.alloc _
  have hb0 := hb.keep (Fr.refl.alloc (.cells #[.int .i64 4, .int .i64 n, .string ⟨t.toArray⟩, .slice a1 l.length c1, .slice a2 p.length c2] 25))
  have hg0 := hg.alloc (.cells #[.int .i64 4, .int .i64 n, .string ⟨t.toArray⟩, .slice a1 l.length c1, .slice a2 p.length c2] 25)
  have hl0 := hl.kp (Kp.ofFr ((Fr.refl (M := NoB)).alloc (.cells #[.int .i64 4, .int .i64 n, .string ⟨t.toArray⟩, .slice a1 l.length c1, .slice a2 p.length c2] 25)))
  have e : pWrite (.mk 4 n t l p) = (if l.isEmpty then [91] else pWrites 91 l) ++ [93] := by unfold pWrite; rfl
  rw [e] at hlen ⊢
  clear e
  have HF0 := Lib.hid hF0
  have Hx := Lib.hid hx
  have Hg0 := Lib.hid hg0
  have Hl0 := Lib.hid hl0
  have Hb0 := Lib.hid hb0
  clear h hfit hF0 hx hg0 hb hg hl hl0 hb0
  cases hle : l.isEmpty with
  | true =>
    have hl0 : l = [] := by simpa using hle
    subst hl0
    simp only [if_true] at hlen ⊢
    simp at hlen
    go_enter Tryz.func22, Tryz.ntmps22
    go_wp2_with fail
    go_loopg [4, 43] 0 (fun g vc vi wr => vc = .int .i32 91 ∧ vi = .int .i64 0 ∧ wr = w.alloc (.cells #[.int .i64 4, .int .i64 n, .string ⟨t.toArray⟩, .slice a1 0 c1, .slice a2 p.length c2] 25))
    case atStart => exact ⟨rfl, rfl, rfl⟩
    case round =>
      obtain ⟨rfl, rfl, rfl⟩ := hrel
      go_wp2_with fail
      refine (writeRune_c B b o 91 (by decide) (by decide) _ Hb0.out (by omega)).mono ?_
      rintro e w1 ⟨rfl, hb1, hF1⟩
      have h91 : Lib.encodeRune 91 = [91] := by decide
      rw [h91] at hb1 ⊢
      go_wp2_with fail
      refine (writeByte_c B b _ 93 _ hb1 (by simp; omega)).mono ?_
      rintro e w2 ⟨rfl, hb2, hF2⟩
      go_wp2_with fail
      go_end0
      exact ⟨rfl, by simpa using hb2, (HF0.out.trans' hF1).trans' hF2⟩
  | false =>
    have hl1 : 1 ≤ l.length := by
      cases l with
      | nil => simp at hle
      | cons _ _ => simp
    rw [hle] at hlen
    simp only [Bool.false_eq_true, if_false] at hlen ⊢
    generalize hG : o ++ pWrites 91 l = G
    have hGl : G.length + 17 ≤ 140737488355328 := by rw [← hG]; simp only [List.length_append, List.length_cons, List.length_nil] at hlen ⊢; omega
    rw [← List.append_assoc, hG]
    have HG := Lib.hid hG
    have HB := Lib.hid hB
    clear hG hlen hB
    go_enter Tryz.func22, Tryz.ntmps22
    go_wp2_with fail
    go_loopg [4, 43] (l.length + 1) (fun g vc vi wr => ∃ (i : Nat) (cz : Int) (c : UInt8) (out : Bs), vc = .int .i32 cz ∧ vi = .int .i64 i ∧ i ≤ l.length ∧ i + g = l.length + 1 ∧ Hid (Comma 91 i cz c) ∧
      Hid (Bld B b out wr) ∧ Hid (RowV S wr l a1) ∧ Hid (Gl wr) ∧ Hid (Fr (MB B b) w wr) ∧ Hid (out ++ pWrites c (l.drop i) = G))
    case atStart => exact ⟨0, 91, 91, o, rfl, rfl, by omega, by omega, .inl ⟨rfl, rfl, rfl⟩, Hb0, Hl0, Hg0, HF0, HG⟩
    case round =>
      obtain ⟨i, cz, c, out, rfl, rfl, hi, hgk, Hc, Hb, Hl, Hg, HF, HS⟩ := hrel
      rcases Nat.lt_or_ge i l.length with hlt | hge
      · obtain ⟨j, hj⟩ : ∃ j, l[i]? = some j := ⟨_, List.getElem?_eq_getElem hlt⟩
        obtain ⟨bb, oo, x0, x1, x2, x3, x4, rfl, hbl, e0, e1, e2, e3, e4, hrj⟩ := Hl.out.at hj
        obtain ⟨jk, jn, jt, jl, jp⟩ := j
        obtain ⟨y1, n1, y2, n2, hval, _, _⟩ := hrj.open
        obtain ⟨rfl, rfl, rfl, rfl, rfl⟩ : x0 = .int .i64 jk ∧ x1 = .int .i64 jn ∧ x2 = .string ⟨jt.toArray⟩ ∧ x3 = .slice y1 jl.length n1 ∧ x4 = .slice y2 jp.length n2 := by simpa using hval
        have hfx := (Fr.refl (M := NoB)).alloc (w := wr) (.cells #[.int .i64 jk, .int .i64 jn, .string ⟨jt.toArray⟩, .slice y1 jl.length n1, .slice y2 jp.length n2] 25)
        have hxb := heap_alloc_new wr (.cells #[.int .i64 jk, .int .i64 jn, .string ⟨jt.toArray⟩, .slice y1 jl.length n1, .slice y2 jp.length n2] 25)
        have Hrj := Lib.hid (RJ.kp (Kp.ofFr hfx) _ _ hrj)
        have Hxb := Lib.hid hxb
        have Hbx := Lib.hid (Hb.out.keep hfx)
        have HFx := Lib.hid (HF.out.trans' (hfx.mono mb_no))
        have Hgx := Lib.hid (Hg.out.fr hfx (fun _ _ _ h => h.elim))
        have Hlx := Lib.hid (Hl.out.kp (Kp.ofFr hfx))
        have hcs : Lib.encodeRune cz = [c] ∧ -2147483648 ≤ cz ∧ cz ≤ 2147483647 := by
          rcases Hc.out with ⟨rfl, rfl, _⟩ | ⟨rfl, rfl, _⟩ <;> decide
        have hS := HS.out
        rw [drop_at hj, pWrites] at hS
        have hfj := fitsl.at l Hfl.out i _ hj
        have hsz : SizeOf.sizeOf (J.mk jk jn jt jl jp) < N := Nat.lt_of_lt_of_le (mem_size hj _ _ _ _) hs
        have hwr := fun W out' hbW hrW hgW hlW => ih (.mk jk jn jt jl jp) hsz S B b out' (.agg #[.int .i64 jk, .int .i64 jn, .string ⟨jt.toArray⟩, .slice y1 jl.length n1, .slice y2 jp.length n2]) W hbW hrW HB.out hgW hfj hlW
        generalize pWrite (.mk jk jn jt jl jp) = PW at *
        have hl3 : out.length + (PW.length + 1) + 17 ≤ 140737488355328 := by
          have := congrArg List.length hS
          simp at this
          omega
        have Hwr := Lib.hid hwr
        have HS2 := Lib.hid hS
        have Hcs := Lib.hid hcs
        clear hwr hS hcs hval hrj hxb hfx Hb Hl Hg HF HS hbl hfj hsz
        go_wp2_with fail
        refine (writeRune_c B b out cz Hcs.out.2.1 Hcs.out.2.2 _ Hbx.out (by omega)).mono ?_
        rintro e w1 ⟨rfl, hb1, hF1⟩
        rw [Hcs.out.1] at hb1 ⊢
        have hk1 := Kp.mb (S := S) Hbx.out hF1 HB.out
        have hblk := mb_keep Hbx.out hF1 HB.out Hxb.out (.inl ⟨_, _, rfl⟩)
        obtain ⟨d0', d1', d2', d3', d4', dz', dlt'⟩ := VB.at hblk
        have Hb1 := Lib.hid hb1
        have HF1 := Lib.hid hF1
        have Hk1 := Lib.hid hk1
        clear hb1 hF1 hk1 hblk
        go_wp2_with fail
        refine (Hwr.out _ _ Hb1.out (RJ.kp Hk1.out _ _ Hrj.out) (Hgx.out.mb HB.out HF1.out) (by simp; omega)).mono ?_
        rintro e w2 ⟨rfl, hb2, hF2⟩
        have Hb2 := Lib.hid hb2
        have HF2 := Lib.hid hF2
        clear hb2 hF2
        go_wp2_with fail
        go_roundg (gk - 1)
        case measure => omega
        case rel =>
          exact ⟨i + 1, 44, 44, out ++ [c] ++ PW, rfl, by simp, by omega, by omega, .inr ⟨rfl, rfl, by omega⟩, Hb2, Lib.hid ((Hlx.out.kp Hk1.out).kp (Kp.mb Hb1.out HF2.out HB.out)), Lib.hid ((Hgx.out.mb HB.out HF1.out).mb HB.out HF2.out), Lib.hid ((HFx.out.trans' HF1.out).trans' HF2.out), by have := HS2.out; simpa using Lib.hid this⟩
      · obtain rfl : i = l.length := by omega
        have hcz : cz = 44 := by
          rcases Hc.out with ⟨_, _, h⟩ | ⟨h, _, _⟩
          · omega
          · exact h
        subst hcz
        go_wp2_with fail
        have hS := HS.out
        simp [pWrites] at hS
        subst hS
        refine (writeByte_c B b out 93 _ Hb.out (by omega)).mono ?_
        rintro e w2 ⟨rfl, hb2, hF2⟩
        go_wp2_with fail
        go_end0
        exact ⟨rfl, hb2, HF.out.trans' hF2⟩
end Go.Proofs.YtbfmpbhikipipaaGreatDoor
namespace Go.Proofs.YtbfmpbhikipipaaGreatDoor
set_option linter.unusedVariables false
set_option linter.unusedSimpArgs false
set_option linter.unusedSectionVars false
open Go.RowKit
variable [OldK]

set_option maxRecDepth 100000 in
set_option maxHeartbeats 2000000 in
theorem write_object (N : Nat) (ih : WriteOk N) (S : Nat → Prop) (B b : Nat) (o : Bs) (n : Int) (t : Bs) (l : List J) (p : List (Bs × J)) (v : Value) (w : World) (hb : Bld B b o w) (h : RJ S w (.mk 5 n t l p) v) (hB : Bok B) (hg : Gl w) (hfit : fits 67108864 (.mk 5 n t l p) = true)
    (hlen : o.length + (pWrite (.mk 5 n t l p)).length + 16 ≤ 140737488355328) (hs : SizeOf.sizeOf (J.mk 5 n t l p) ≤ N) :
    Calls Tryz.prog 22 #[.pointer (some ⟨b, 0, none⟩), v] w fun e w' => e = .returned (.tuple #[]) ∧ Bld B b (o ++ pWrite (.mk 5 n t l p)) w' ∧ Fr (MB B b) w w' := by
  obtain ⟨a1, c1, a2, c2, rfl, _, hl⟩ := h.open
  have hll := (fits.open hfit).2.2.1
  have Hfl := Lib.hid (fits.open hfit).2.2.2.2
  have hx := heap_alloc_new w (.cells #[.int .i64 5, .int .i64 n, .string ⟨t.toArray⟩, .slice a1 l.length c1, .slice a2 p.length c2] 25)
  obtain ⟨d0, d1, d2, d3, d4, dz, dlt⟩ := VB.at hx
  have hF0 : Fr (MB B b) w (w.alloc (.cells #[.int .i64 5, .int .i64 n, .string ⟨t.toArray⟩, .slice a1 l.length c1, .slice a2 p.length c2] 25)) := Fr.refl.alloc _
  have hb0 := hb.keep (Fr.refl.alloc (.cells #[.int .i64 5, .int .i64 n, .string ⟨t.toArray⟩, .slice a1 l.length c1, .slice a2 p.length c2] 25))
  have hg0 := hg.alloc (.cells #[.int .i64 5, .int .i64 n, .string ⟨t.toArray⟩, .slice a1 l.length c1, .slice a2 p.length c2] 25)
  have hl0 := hl.kp (Kp.ofFr ((Fr.refl (M := NoB)).alloc (.cells #[.int .i64 5, .int .i64 n, .string ⟨t.toArray⟩, .slice a1 l.length c1, .slice a2 p.length c2] 25)))
  have e : pWrite (.mk 5 n t l p) = (if p.isEmpty then [123] else pWritep 123 p) ++ [125] := by unfold pWrite; rfl
  rw [e] at hlen ⊢
  clear e
  have HF0 := Lib.hid hF0
  have Hx := Lib.hid hx
  have Hg0 := Lib.hid hg0
  have Hl0 := Lib.hid hl0
  have Hb0 := Lib.hid hb0
  clear h hfit hF0 hx hg0 hb hg hl hl0 hb0
  cases hle : p.isEmpty with
  | true =>
    have hl0 : p = [] := by simpa using hle
    subst hl0
    simp only [if_true] at hlen ⊢
    simp at hlen
    go_enter Tryz.func22, Tryz.ntmps22
    go_wp2_with fail
    go_loopg [7, 66] 0 (fun g vc vi wr => vc = .int .i32 123 ∧ vi = .int .i64 0 ∧ wr = w.alloc (.cells #[.int .i64 5, .int .i64 n, .string ⟨t.toArray⟩, .slice a1 l.length c1, .slice a2 0 c2] 25))
    case atStart => exact ⟨rfl, rfl, rfl⟩
    case round =>
      obtain ⟨rfl, rfl, rfl⟩ := hrel
      go_wp2_with fail
      refine (writeRune_c B b o 123 (by decide) (by decide) _ Hb0.out (by omega)).mono ?_
      rintro e w1 ⟨rfl, hb1, hF1⟩
      have h91 : Lib.encodeRune 123 = [123] := by decide
      rw [h91] at hb1 ⊢
      go_wp2_with fail
      refine (writeByte_c B b _ 125 _ hb1 (by simp; omega)).mono ?_
      rintro e w2 ⟨rfl, hb2, hF2⟩
      go_wp2_with fail
      go_end0
      exact ⟨rfl, by simpa using hb2, (HF0.out.trans' hF1).trans' hF2⟩
  | false =>
    have hl1 : 1 ≤ p.length := by
      cases p with
      | nil => simp at hle
      | cons _ _ => simp
    rw [hle] at hlen
    simp only [Bool.false_eq_true, if_false] at hlen ⊢
    generalize hG : o ++ pWritep 123 p = G
    have hGl : G.length + 17 ≤ 140737488355328 := by rw [← hG]; simp only [List.length_append, List.length_cons, List.length_nil] at hlen ⊢; omega
    rw [← List.append_assoc, hG]
    have HG := Lib.hid hG
    have HB := Lib.hid hB
    clear hG hlen hB
    go_enter Tryz.func22, Tryz.ntmps22
    go_wp2_with fail
    go_loopg [7, 66] (p.length + 1) (fun g vc vi wr => ∃ (i : Nat) (cz : Int) (c : UInt8) (out : Bs), vc = .int .i32 cz ∧ vi = .int .i64 i ∧ i ≤ p.length ∧ i + g = p.length + 1 ∧ Hid (Comma 123 i cz c) ∧
      Hid (Bld B b out wr) ∧ Hid (RowP S wr p a2) ∧ Hid (Gl wr) ∧ Hid (Fr (MB B b) w wr) ∧ Hid (out ++ pWritep c (p.drop i) = G))
    case atStart => exact ⟨0, 123, 123, o, rfl, rfl, by omega, by omega, .inl ⟨rfl, rfl, rfl⟩, Hb0, Hl0, Hg0, HF0, HG⟩
    case round =>
      obtain ⟨i, cz, c, out, rfl, rfl, hi, hgk, Hc, Hb, Hl, Hg, HF, HS⟩ := hrel
      rcases Nat.lt_or_ge i p.length with hlt | hge
      · obtain ⟨⟨nm, j⟩, hj⟩ : ∃ j, p[i]? = some j := ⟨_, List.getElem?_eq_getElem hlt⟩
        obtain ⟨bb, oo, x0, x1, x2, x3, x4, rfl, hbl, e5, e0, e1, e2, e3, e4, hrj⟩ := Hl.out.at hj
        obtain ⟨jk, jn, jt, jl, jp⟩ := j
        obtain ⟨y1, n1, y2, n2, hval, _, _⟩ := hrj.open
        obtain ⟨rfl, rfl, rfl, rfl, rfl⟩ : x0 = .int .i64 jk ∧ x1 = .int .i64 jn ∧ x2 = .string ⟨jt.toArray⟩ ∧ x3 = .slice y1 jl.length n1 ∧ x4 = .slice y2 jp.length n2 := by simpa using hval
        have hfx := (Fr.refl (M := NoB)).alloc (w := wr) (.cells #[.string ⟨nm.toArray⟩, .int .i64 jk, .int .i64 jn, .string ⟨jt.toArray⟩, .slice y1 jl.length n1, .slice y2 jp.length n2] 62)
        have hxb := heap_alloc_new wr (.cells #[.string ⟨nm.toArray⟩, .int .i64 jk, .int .i64 jn, .string ⟨jt.toArray⟩, .slice y1 jl.length n1, .slice y2 jp.length n2] 62)
        have Hrj := Lib.hid (RJ.kp (Kp.ofFr hfx) _ _ hrj)
        have Hxb := Lib.hid hxb
        have Hbx := Lib.hid (Hb.out.keep hfx)
        have HFx := Lib.hid (HF.out.trans' (hfx.mono mb_no))
        have Hgx := Lib.hid (Hg.out.fr hfx (fun _ _ _ h => h.elim))
        have Hlx := Lib.hid (Hl.out.kp (Kp.ofFr hfx))
        have hcs : Lib.encodeRune cz = [c] ∧ -2147483648 ≤ cz ∧ cz ≤ 2147483647 := by
          rcases Hc.out with ⟨rfl, rfl, _⟩ | ⟨rfl, rfl, _⟩ <;> decide
        have hS := HS.out
        rw [drop_at hj, pWritep] at hS
        obtain ⟨hnl, hfj⟩ := fitsp.at p Hfl.out i _ _ hj
        have Hquo := Lib.hid (fun W => quote_c nm W hnl)
        have hsz : SizeOf.sizeOf (J.mk jk jn jt jl jp) < N := Nat.lt_of_lt_of_le (memp_size hj _ _ _ _) hs
        have hwr := fun W out' hbW hrW hgW hlW => ih (.mk jk jn jt jl jp) hsz S B b out' (.agg #[.int .i64 jk, .int .i64 jn, .string ⟨jt.toArray⟩, .slice y1 jl.length n1, .slice y2 jp.length n2]) W hbW hrW HB.out hgW hfj hlW
        generalize pWrite (.mk jk jn jt jl jp) = PW at *
        generalize pQuote nm = PQ at *
        have hl3 : out.length + (PW.length + PQ.length + 2) + 17 ≤ 140737488355328 := by
          have := congrArg List.length hS
          simp at this
          omega
        have Hwr := Lib.hid hwr
        have HS2 := Lib.hid hS
        have Hcs := Lib.hid hcs
        clear hwr hS hcs hnl hval hrj hxb hfx Hb Hl Hg HF HS hbl hfj hsz
        go_wp2_with fail
        refine (writeRune_c B b out cz Hcs.out.2.1 Hcs.out.2.2 _ Hbx.out (by omega)).mono ?_
        rintro e w1 ⟨rfl, hb1, hF1⟩
        rw [Hcs.out.1] at hb1 ⊢
        have hk1 := Kp.mb (S := S) Hbx.out hF1 HB.out
        have hblk := mb_keep Hbx.out hF1 HB.out Hxb.out (.inr ⟨_, _, rfl⟩)
        obtain ⟨d5', d0', d1', d2', d3', d4', dz', dlt'⟩ := PB.at hblk
        have Hb1 := Lib.hid hb1
        have HF1 := Lib.hid hF1
        have Hk1 := Lib.hid hk1
        have Hblk := Lib.hid hblk
        clear hb1 hF1 hk1 hblk
        go_wp2_with fail
        refine (Hquo.out _).mono ?_
        rintro e w3 ⟨rfl, hF3⟩
        have hb3 := Hb1.out.keep hF3
        have hblk3 := hF3.block _ _ Hblk.out (fun h => h)
        have HF3 := Lib.hid hF3
        have Hblk3 := Lib.hid hblk3
        have Hb3 := Lib.hid hb3
        clear hF3 hblk3 hb3
        go_wp2_with fail
        refine (writeString_c B b _ PQ _ Hb3.out (by simp; omega)).mono ?_
        rintro e w4 ⟨rfl, hb4, hF4⟩
        have Hb4 := Lib.hid hb4
        have HF4 := Lib.hid hF4
        clear hb4 hF4
        go_wp2_with fail
        refine (writeByte_c B b _ 58 _ Hb4.out (by simp; omega)).mono ?_
        rintro e w5 ⟨rfl, hb5, hF5⟩
        have hblk5 := mb_keep Hb4.out hF5 HB.out (mb_keep Hb3.out HF4.out HB.out Hblk3.out (.inr ⟨_, _, rfl⟩)) (.inr ⟨_, _, rfl⟩)
        have hk5 : Kp S S w1 w5 := fun k o hs ho ht => ⟨hs, mb_keepV Hb4.out hF5 HB.out (mb_keepV Hb3.out HF4.out HB.out (HF3.out.block _ _ ho (fun h => h)) ht) ht⟩
        have hF15 : Fr (MB B b) w1 w5 := ((HF3.out.mono mb_no).trans' HF4.out).trans' hF5
        obtain ⟨d5'', d0'', d1'', d2'', d3'', d4'', dz'', dlt''⟩ := PB.at hblk5
        have Hb5 := Lib.hid hb5
        have Hk5 := Lib.hid hk5
        have HF15 := Lib.hid hF15
        clear hb5 hF5 hblk5 hk5 hF15 d5' d0' d1' d2' d3' d4' dz' dlt'
        go_wp2_with fail
        refine (Hwr.out _ _ Hb5.out (RJ.kp Hk5.out _ _ (RJ.kp Hk1.out _ _ Hrj.out)) ((Hgx.out.mb HB.out HF1.out).mb HB.out HF15.out) (by simp; omega)).mono ?_
        rintro e w2 ⟨rfl, hb2, hF2⟩
        have Hb2 := Lib.hid hb2
        have HF2 := Lib.hid hF2
        clear hb2 hF2
        go_wp2_with fail
        go_roundg (gk - 1)
        case measure => omega
        case rel =>
          exact ⟨i + 1, 44, 44, out ++ [c] ++ PQ ++ [58] ++ PW, rfl, by simp, by omega, by omega, .inr ⟨rfl, rfl, by omega⟩, Hb2, Lib.hid (((Hlx.out.kp Hk1.out).kp Hk5.out).kp (Kp.mb Hb5.out HF2.out HB.out)), Lib.hid (((Hgx.out.mb HB.out HF1.out).mb HB.out HF15.out).mb HB.out HF2.out), Lib.hid (((HFx.out.trans' HF1.out).trans' HF15.out).trans' HF2.out), by have := HS2.out; simpa using Lib.hid this⟩
      · obtain rfl : i = p.length := by omega
        have hcz : cz = 44 := by
          rcases Hc.out with ⟨_, _, h⟩ | ⟨h, _, _⟩
          · omega
          · exact h
        subst hcz
        go_wp2_with fail
        have hS := HS.out
        simp [pWritep] at hS
        subst hS
        refine (writeByte_c B b out 125 _ Hb.out (by omega)).mono ?_
        rintro e w2 ⟨rfl, hb2, hF2⟩
        go_wp2_with fail
        go_end0
        exact ⟨rfl, hb2, HF.out.trans' hF2⟩
theorem write_c : ∀ N, WriteOk N := by
  intro N
  induction N with
  | zero => intro j hj; omega
  | succ N ih =>
    intro j hj S B b o v w hb h hB hg hfit hlen
    obtain ⟨k, n, t, l, p⟩ := j
    by_cases h4 : k = 4
    · subst h4
      exact write_list N ih S B b o n t l p v w hb h hB hg hfit hlen (by omega)
    by_cases h5 : k = 5
    · subst h5
      exact write_object N ih S B b o n t l p v w hb h hB hg hfit hlen (by omega)
    exact write_flat S B b o k n t l p v w hb h hB hg hfit hlen h4 h5
end Go.Proofs.YtbfmpbhikipipaaGreatDoor
