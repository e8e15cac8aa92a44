/-
  The walk of canon's write, further: lists.
-/
import Derived.Test.YtbfmpbhikipipaaDoorWrite
import Derived.Deep.LoopGhost
namespace Go.Proofs.YtbfmpbhikipipaaDoor
set_option linter.unusedVariables false
set_option linter.unusedSimpArgs false
open Go.RowKit

theorem mem_size {l : List J} {i : Nat} {j : J} (h : l[i]? = some j) (k n : Int) (t : Bs) (p : List (Bs × J)) : SizeOf.sizeOf j < SizeOf.sizeOf (J.mk k n t l p) := by
  have h1 := List.sizeOf_lt_of_mem (List.mem_of_getElem? h)
  simp only [J.mk.sizeOf_spec]
  omega
theorem memp_size {p : List (Bs × J)} {i : Nat} {nm : Bs} {j : J} (h : p[i]? = some (nm, j)) (k n : Int) (t : Bs) (l : List J) : SizeOf.sizeOf j < SizeOf.sizeOf (J.mk k n t l p) := by
  have h1 := List.sizeOf_lt_of_mem (List.mem_of_getElem? h)
  simp only [J.mk.sizeOf_spec, Prod.mk.sizeOf_spec] at h1 ⊢
  omega
/-- a block of values or pairs stays, whatever a builder does -/
theorem mb_keep {B b : Nat} {l : Bs} {w w' : World} (hb : Bld B b l w) (hF : Fr (MB B b) w w') {k : Nat} {o : Obj} (ho : w.heap[k]? = some o) (ht : OfTy 25 o ∨ OfTy 31 o) : w'.heap[k]? = some o :=
  ((Kp.mb (S := fun _ => True) hb hF) k o trivial ho ht).2
theorem Gl.mb {B b : Nat} {w w' : World} (h : Gl w) (hB : 6 ≤ B) (hF : Fr (MB B b) w w') : Gl w' :=
  h.fr hF (fun k o _ hm => Nat.le_trans hB hm.1)
/-- the sign ahead of an element -/
def Comma (op : UInt8) (i : Nat) (cz : Int) (c : UInt8) : Prop := (cz = (op.toNat : Int) ∧ c = op ∧ i = 0) ∨ (cz = 44 ∧ c = 44 ∧ 0 < i)

set_option maxRecDepth 100000 in
set_option maxHeartbeats 2000000 in
theorem write_list (N : Nat) (ih : WriteOk N) (S : Nat → Prop) (B b : Nat) (o : Bs) (n : Int) (t : Bs) (l : List J) (p : List (Bs × J)) (v : Value) (w : World) (hb : Bld B b o w) (h : RJ S w (.mk 4 n t l p) v) (hB : 6 ≤ B) (hg : Gl w) (hfit : fits 67108864 (.mk 4 n t l p) = true)
    (hlen : o.length + (pWrite (.mk 4 n t l p)).length + 16 ≤ 140737488355328) (hs : SizeOf.sizeOf (J.mk 4 n t l p) ≤ N) :
    Calls Tryd.prog 26 #[.pointer (some ⟨b, 0, none⟩), v] w fun e w' => e = .returned (.tuple #[]) ∧ Bld B b (o ++ pWrite (.mk 4 n t l p)) w' ∧ Fr (MB B b) w w' := by
  obtain ⟨a1, c1, a2, c2, rfl, hl, _⟩ := h.open
  have hll := (fits.open hfit).2.1
  have Hfl := Lib.hid (fits.open hfit).2.2.2.1
  have hx := heap_alloc_new w (.cells #[.int .i64 4, .int .i64 n, .string ⟨t.toArray⟩, .slice a1 l.length c1, .slice a2 p.length c2] 25)
  obtain ⟨d0, d1, d2, d3, d4, dz, dlt⟩ := VB.at hx
  have hF0 : Fr (MB B b) w (w.alloc (.cells #[.int .i64 4, .int .i64 n, .string ⟨t.toArray⟩, .slice a1 l.length c1, .slice a2 p.length c2] 25)) := Fr.refl.alloc _
  have hb0 := hb.keep (Fr.refl.alloc (.cells #[.int .i64 4, .int .i64 n, .string ⟨t.toArray⟩, .slice a1 l.length c1, .slice a2 p.length c2] 25))
  have hg0 := hg.alloc (.cells #[.int .i64 4, .int .i64 n, .string ⟨t.toArray⟩, .slice a1 l.length c1, .slice a2 p.length c2] 25)
  have hl0 := hl.kp (Kp.ofFr ((Fr.refl (M := NoB)).alloc (.cells #[.int .i64 4, .int .i64 n, .string ⟨t.toArray⟩, .slice a1 l.length c1, .slice a2 p.length c2] 25)))
  have e : pWrite (.mk 4 n t l p) = (if l.isEmpty then [91] else pWrites 91 l) ++ [93] := by unfold pWrite; rfl
  rw [e] at hlen ⊢
  clear e
  have HF0 := Lib.hid hF0
  have Hx := Lib.hid hx
  have Hg0 := Lib.hid hg0
  have Hl0 := Lib.hid hl0
  have Hb0 := Lib.hid hb0
  clear h hfit hF0 hx hg0 hb hg hl hl0 hb0
  cases hle : l.isEmpty with
  | true =>
    have hl0 : l = [] := by simpa using hle
    subst hl0
    simp only [if_true] at hlen ⊢
    simp at hlen
    go_enter Tryd.func26, Tryd.ntmps26
    go_wp2_with fail
    go_loopg [4, 43] 0 (fun g vc vi wr => vc = .int .i32 91 ∧ vi = .int .i64 0 ∧ wr = w.alloc (.cells #[.int .i64 4, .int .i64 n, .string ⟨t.toArray⟩, .slice a1 0 c1, .slice a2 p.length c2] 25))
    case atStart => exact ⟨rfl, rfl, rfl⟩
    case round =>
      obtain ⟨rfl, rfl, rfl⟩ := hrel
      go_wp2_with fail
      refine (writeRune_c B b o 91 (by decide) (by decide) _ Hb0.out (by omega)).mono ?_
      rintro e w1 ⟨rfl, hb1, hF1⟩
      have h91 : Lib.encodeRune 91 = [91] := by decide
      rw [h91] at hb1 ⊢
      go_wp2_with fail
      refine (writeByte_c B b _ 93 _ hb1 (by simp; omega)).mono ?_
      rintro e w2 ⟨rfl, hb2, hF2⟩
      go_wp2_with fail
      go_end0
      exact ⟨rfl, by simpa using hb2, (HF0.out.trans' hF1).trans' hF2⟩
  | false =>
    have hl1 : 1 ≤ l.length := by
      cases l with
      | nil => simp at hle
      | cons _ _ => simp
    rw [hle] at hlen
    simp only [Bool.false_eq_true, if_false] at hlen ⊢
    generalize hG : o ++ pWrites 91 l = G
    have hGl : G.length + 17 ≤ 140737488355328 := by rw [← hG]; simp only [List.length_append, List.length_cons, List.length_nil] at hlen ⊢; omega
    rw [← List.append_assoc, hG]
    have HG := Lib.hid hG
    have HB := Lib.hid hB
    clear hG hlen hB
    go_enter Tryd.func26, Tryd.ntmps26
    go_wp2_with fail
    go_loopg [4, 43] (l.length + 1) (fun g vc vi wr => ∃ (i : Nat) (cz : Int) (c : UInt8) (out : Bs), vc = .int .i32 cz ∧ vi = .int .i64 i ∧ i ≤ l.length ∧ i + g = l.length + 1 ∧ Hid (Comma 91 i cz c) ∧
      Hid (Bld B b out wr) ∧ Hid (RowV S wr l a1) ∧ Hid (Gl wr) ∧ Hid (Fr (MB B b) w wr) ∧ Hid (out ++ pWrites c (l.drop i) = G))
    case atStart => exact ⟨0, 91, 91, o, rfl, rfl, by omega, by omega, .inl ⟨rfl, rfl, rfl⟩, Hb0, Hl0, Hg0, HF0, HG⟩
    case round =>
      obtain ⟨i, cz, c, out, rfl, rfl, hi, hgk, Hc, Hb, Hl, Hg, HF, HS⟩ := hrel
      rcases Nat.lt_or_ge i l.length with hlt | hge
      · obtain ⟨j, hj⟩ : ∃ j, l[i]? = some j := ⟨_, List.getElem?_eq_getElem hlt⟩
        obtain ⟨bb, oo, x0, x1, x2, x3, x4, rfl, hbl, e0, e1, e2, e3, e4, hrj⟩ := Hl.out.at hj
        obtain ⟨jk, jn, jt, jl, jp⟩ := j
        obtain ⟨y1, n1, y2, n2, hval, _, _⟩ := hrj.open
        obtain ⟨rfl, rfl, rfl, rfl, rfl⟩ : x0 = .int .i64 jk ∧ x1 = .int .i64 jn ∧ x2 = .string ⟨jt.toArray⟩ ∧ x3 = .slice y1 jl.length n1 ∧ x4 = .slice y2 jp.length n2 := by simpa using hval
        have hfx := (Fr.refl (M := NoB)).alloc (w := wr) (.cells #[.int .i64 jk, .int .i64 jn, .string ⟨jt.toArray⟩, .slice y1 jl.length n1, .slice y2 jp.length n2] 25)
        have hxb := heap_alloc_new wr (.cells #[.int .i64 jk, .int .i64 jn, .string ⟨jt.toArray⟩, .slice y1 jl.length n1, .slice y2 jp.length n2] 25)
        have Hrj := Lib.hid (RJ.kp (Kp.ofFr hfx) _ _ hrj)
        have Hxb := Lib.hid hxb
        have Hbx := Lib.hid (Hb.out.keep hfx)
        have HFx := Lib.hid (HF.out.trans' (hfx.mono mb_no))
        have Hgx := Lib.hid (Hg.out.fr hfx (fun _ _ _ h => h.elim))
        have Hlx := Lib.hid (Hl.out.kp (Kp.ofFr hfx))
        have hcs : Lib.encodeRune cz = [c] ∧ -2147483648 ≤ cz ∧ cz ≤ 2147483647 := by
          rcases Hc.out with ⟨rfl, rfl, _⟩ | ⟨rfl, rfl, _⟩ <;> decide
        have hS := HS.out
        rw [drop_at hj, pWrites] at hS
        have hfj := fitsl.at l Hfl.out i _ hj
        have hsz : SizeOf.sizeOf (J.mk jk jn jt jl jp) < N := Nat.lt_of_lt_of_le (mem_size hj _ _ _ _) hs
        have hwr := fun W out' hbW hrW hgW hlW => ih (.mk jk jn jt jl jp) hsz S B b out' (.agg #[.int .i64 jk, .int .i64 jn, .string ⟨jt.toArray⟩, .slice y1 jl.length n1, .slice y2 jp.length n2]) W hbW hrW HB.out hgW hfj hlW
        generalize pWrite (.mk jk jn jt jl jp) = PW at *
        have hl3 : out.length + (PW.length + 1) + 17 ≤ 140737488355328 := by
          have := congrArg List.length hS
          simp at this
          omega
        have Hwr := Lib.hid hwr
        have HS2 := Lib.hid hS
        have Hcs := Lib.hid hcs
        clear hwr hS hcs hval hrj hxb hfx Hb Hl Hg HF HS hbl hfj hsz
        go_wp2_with fail
        refine (writeRune_c B b out cz Hcs.out.2.1 Hcs.out.2.2 _ Hbx.out (by omega)).mono ?_
        rintro e w1 ⟨rfl, hb1, hF1⟩
        rw [Hcs.out.1] at hb1 ⊢
        have hk1 := Kp.mb (S := S) Hbx.out hF1
        have hblk := mb_keep Hbx.out hF1 Hxb.out (.inl ⟨_, _, rfl⟩)
        obtain ⟨d0', d1', d2', d3', d4', dz', dlt'⟩ := VB.at hblk
        have Hb1 := Lib.hid hb1
        have HF1 := Lib.hid hF1
        have Hk1 := Lib.hid hk1
        clear hb1 hF1 hk1 hblk
        go_wp2_with fail
        refine (Hwr.out _ _ Hb1.out (RJ.kp Hk1.out _ _ Hrj.out) (Hgx.out.mb HB.out HF1.out) (by simp; omega)).mono ?_
        rintro e w2 ⟨rfl, hb2, hF2⟩
        have Hb2 := Lib.hid hb2
        have HF2 := Lib.hid hF2
        clear hb2 hF2
        go_wp2_with fail
        go_roundg (gk - 1)
        case measure => omega
        case rel =>
          exact ⟨i + 1, 44, 44, out ++ [c] ++ PW, rfl, by simp, by omega, by omega, .inr ⟨rfl, rfl, by omega⟩, Hb2, Lib.hid ((Hlx.out.kp Hk1.out).kp (Kp.mb Hb1.out HF2.out)), Lib.hid ((Hgx.out.mb HB.out HF1.out).mb HB.out HF2.out), Lib.hid ((HFx.out.trans' HF1.out).trans' HF2.out), by have := HS2.out; simpa using Lib.hid this⟩
      · obtain rfl : i = l.length := by omega
        have hcz : cz = 44 := by
          rcases Hc.out with ⟨_, _, h⟩ | ⟨h, _, _⟩
          · omega
          · exact h
        subst hcz
        go_wp2_with fail
        have hS := HS.out
        simp [pWrites] at hS
        subst hS
        refine (writeByte_c B b out 93 _ Hb.out (by omega)).mono ?_
        rintro e w2 ⟨rfl, hb2, hF2⟩
        go_wp2_with fail
        go_end0
        exact ⟨rfl, hb2, HF.out.trans' hF2⟩
end Go.Proofs.YtbfmpbhikipipaaDoor
