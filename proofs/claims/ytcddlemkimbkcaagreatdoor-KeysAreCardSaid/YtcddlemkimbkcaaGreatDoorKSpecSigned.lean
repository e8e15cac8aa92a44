/-
  The signatures of an entry, as plain data, and how they lie.
-/
import Derived.Test.YtcddlemkimbkcaaGreatDoorKSigner
namespace Go.Proofs.YtcddlemkimbkcaaGreatDoor
set_option linter.unusedVariables false
set_option linter.unusedSimpArgs false
set_option linter.unusedSectionVars false
open Go.RowKit
/-- 32 zero bytes -/
def zero32 : Bs := List.replicate 32 0
/-- a signature that may not stand behind a signer 'last' -/
def sgBad (last : Bs) (s : Sg) : Bool := (Op.bytesLess (pSigner s) last || pSigner s == last) || (!s.id.isEmpty && (!pNamed s.id || s.key != zero32))
def signedFrom (last : Bs) : List Sg → Bool
  | [] => true
  | s :: r => if sgBad last s then false else signedFrom (pSigner s) r
def pSigned (l : List Sg) : Bool := signedFrom [] l && (decide (1 ≤ l.length) && decide (l.length ≤ 8))
/-- v is the signatures l, in a block of S -/
def GS (S : Nat → Prop) (l : List Sg) (v : Value) (w : World) : Prop := ∃ a cap, v = .slice a l.length cap ∧ l.length ≤ cap ∧
  ((l = [] ∧ a = none) ∨ ∃ b o, a = some ⟨b, o, none⟩ ∧ S b ∧ b < w.heap.size ∧ ∀ i (hi : i < l.length), w.rangeAt b (o + i * 97) l[i].cells.toList)
theorem GS.fr {S : Nat → Prop} {M : Nat → Obj → Prop} {l : List Sg} {v : Value} {w w' : World} (h : GS S l v w) (hF : Fr M w w') (hM : ∀ k o, S k → ¬ M k o) : GS S l v w' := by
  obtain ⟨a, cap, hv, hc, h | ⟨b, o, ha, hS, hb, hr⟩⟩ := h
  · exact ⟨a, cap, hv, hc, .inl h⟩
  · obtain ⟨ob, hob⟩ : ∃ ob, w.heap[b]? = some ob := ⟨_, Array.getElem?_eq_getElem hb⟩
    have hob' := hF.block _ _ hob (hM _ _ hS)
    refine ⟨a, cap, hv, hc, .inr ⟨b, o, ha, hS, get_lt hob', fun i hi j x hx => ?_⟩⟩
    have := hr i hi j x hx
    simp only [World.cell?, hob] at this
    simp only [World.cell?, hob']
    exact this
end Go.Proofs.YtcddlemkimbkcaaGreatDoor
