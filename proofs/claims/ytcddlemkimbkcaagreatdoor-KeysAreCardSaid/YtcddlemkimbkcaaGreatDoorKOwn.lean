/-
  Bytes that a call gathers in a row of its own.
-/
import Derived.Test.YtcddlemkimbkcaaGreatDoorKBytes
import Derived.Test.YtcddlemkimbkcaaGreatDoorKStore
namespace Go.Proofs.YtcddlemkimbkcaaGreatDoor
set_option linter.unusedVariables false
set_option linter.unusedSimpArgs false
set_option linter.unusedSectionVars false
open Go.RowKit
variable [OldK]
/-- the value v is bytes that the call itself has gathered, from block B on -/
def OB (B : Nat) (out : Bs) (v : Value) (w : World) : Prop := w.ownsRow B 5 1 v out.length (Lib.byteCells out)
theorem OB.fr {M : Nat → Obj → Prop} {B : Nat} {out : Bs} {v : Value} {w w' : World} (h : OB B out v w) (hF : Fr M w w') (hM : ∀ k o, B ≤ k → OfTy 5 o → ¬ M k o) : OB B out v w' :=
  own_fr h hF (fun k o _ hk ht => hM k o hk ht)
theorem OB.sb {B : Nat} {out : Bs} {v : Value} {w : World} (h : OB B out v w) : SB (fun k => B ≤ k) out v w := by
  rcases h.2 with ⟨rfl, h0⟩ | ⟨g, cap, cur, rfl, hb, hg, hn, hcm, hcs, htake⟩
  · have : out = [] := List.length_eq_zero_iff.1 h0
    subst this
    exact SB.nil _ _ _
  · refine ⟨_, cap, rfl, by omega, .inr ⟨g, 0, cur, _, (0, 0), rfl, hb, ⟨hg, .inl rfl⟩, fun j hj => ?_⟩⟩
    have h1 : (cur.toList.take (out.length * 1))[j]? = some (.int .u8 (out[j].toNat : Int)) := by
      rw [htake]
      simp [Lib.byteCells, hj]
    rw [List.getElem?_take] at h1
    rw [if_pos (by omega)] at h1
    rw [Nat.zero_add, ← Array.getElem?_toList]
    exact h1
theorem OB.form {B : Nat} {out : Bs} {v : Value} {w : World} (h : OB B out v w) : ∃ a c, v = .slice a out.length c := own_form h
/-- the first byte's row -/
theorem OB.one (w : World) (c : UInt8) : OB w.heap.size [c] (.slice (some ⟨w.heap.size, 0, none⟩) 1 1) (w.alloc (.cells #[.int .u8 c.toNat] 5)) :=
  ⟨rfl, .inr ⟨w.heap.size, 1, _, rfl, Nat.le_refl _, heap_alloc_new w _, Nat.le_refl _, by unfold maxLen; decide, rfl, rfl⟩⟩
theorem OB.push {B : Nat} {out news : Bs} {v v' : Value} {w W w2 : World} (h : OB B out v w) (hW : Fr NoB w W) (hown : w2.ownsRow B 5 1 v' (out.length + news.length) (Lib.byteCells out ++ Lib.byteCells news)) (hg : W.grownBy w2 v.ownBlock) :
    OB B (out ++ news) v' w2 ∧ Fr (fun k _ => B ≤ k) w w2 := by
  constructor
  · unfold OB
    rw [List.length_append, Lib.byteCells_append]
    exact hown
  · exact (hW.mono (fun _ _ h => h.elim)).trans (Fr.ofGrown hg) (fun k o hm => .inl (own_ty h k hm.symm).1)
/-- append of some elements, as one step of a region that draws -/
theorem step_append_many {P : Program} {ops : Array Oper} {o : Oper} {a : Act} {w : World} {K : Act → World → Prop} {Q : Exit → Act → World → Prop} {E : Prop}
    (hg : o.guard = none) (s x : Operand) (t : TypeId) (hop : o.op = Op.call { callee := Callee.builtin Builtin.append, args := #[s, x], argTypes := #[t, t] })
    (base : Nat) (e : TypeId) (i : TypeInfo) (z : Value) (size bytes : Nat) (ht : P.underlying t = some (.slice e)) (hi : P.info? e = some i) (hz : i.zero = some z)
    (hsize : i.size = size) (hby : i.bytes = bytes) (hzs : z.cells.size = size) (hsz : 0 < size)
    (v : Value) (n : Nat) (xs : List Value) (hs : a.eval s = v) (hown : w.ownsRow base e size v n xs)
    (ad : Addr) (m c : Nat) (news : List Value) (hx : a.eval x = .slice (some ad) m c) (hl : news.length = m * size) (hnews : ∀ j u, news[j]? = some u → w.cell? (ad.add j) = some u) (h1 : ∀ u ∈ news, u.oneCell' = true)
    (h63 : n + m ≤ maxLen) (hbytes : (n + m) * bytes ≤ 140737488355328) (hbase : base ≤ w.heap.size)
    (hK : ∀ v' w', w'.ownsRow base e size v' (n + m) (xs ++ news) → w.grownBy w' v.ownBlock → K (a.put o.dst v') w') :
    if Region.wanted o (yielded ops a.tmps) = true then Oper.wp P o a w K Q else E := by
  have hw : Region.wanted o (yielded ops a.tmps) = true := by simp [Region.wanted, hg]
  rw [if_pos hw]
  obtain ⟨v', w', hr, ho, hgr, _⟩ := run_append_block (P := P) w base t o.type e i z size bytes ht hi hz hsize hby hzs hsz v n xs hown ad m c news hl hnews h1 h63 hbytes hbase
  unfold Oper.wp execOp
  simp only [hop, resolve, invoke, builtin, Sem.run_bind, Sem.run_pure, Result.andThen_ok, List.map_toArray, List.map_cons, List.map_nil, hs, hx, hr]
  exact hK v' w' ho hgr
end Go.Proofs.YtcddlemkimbkcaaGreatDoor
