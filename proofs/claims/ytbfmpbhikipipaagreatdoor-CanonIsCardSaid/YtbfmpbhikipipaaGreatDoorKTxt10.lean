/-
  The reference's reader of texts: texts in quotation marks.
-/
import Derived.Test.YtbfmpbhikipipaaGreatDoorKTxt5
import Derived.Test.YtbfmpbhikipipaaGreatDoorKQuoteRef
import Derived.Test.YtbfmpbhikipipaaGreatDoorKSorted2
namespace Go.Proofs.YtbfmpbhikipipaaGreatDoor
set_option linter.unusedVariables false
set_option linter.unusedSimpArgs false
set_option linter.unusedSectionVars false
open Go.RowKit
variable [OldK]
theorem step_first {s out : Bs} {C : Int} {k : Nat} (h : dFirst s = (C, k)) :
    (k = 0 ∨ C < 32 → ∃ st, sTextStep out ⟨s, false⟩ = (none, out, st) ∧ st.bad = true) ∧
    (k ≠ 0 → 32 ≤ C → (C = 34 → sTextStep out ⟨s, false⟩ = (some out, out, ⟨s.drop k, false⟩)) ∧
      (C = 92 → sTextStep out ⟨s, false⟩ = (none, out ++ Lib.encodeRune ((sEscape ⟨s.drop k, false⟩).1 : Int), (sEscape ⟨s.drop k, false⟩).2)) ∧
      (C ≠ 34 → C ≠ 92 → sTextStep out ⟨s, false⟩ = (none, out ++ Lib.encodeRune C, ⟨s.drop k, false⟩))) := by
  obtain ⟨-, -, -, f4⟩ := dec_facts s
  unfold dFirst at h
  unfold sTextStep
  simp only
  by_cases hs : s = []
  · rw [if_pos hs] at h
    simp only [Prod.mk.injEq] at h
    obtain ⟨rfl, rfl⟩ := h
    subst hs
    have hz : (Lib.decodeGo ⟨([] : Bs).toArray⟩).2 = 0 := rfl
    refine ⟨fun _ => ?_, fun h => absurd rfl h⟩
    rw [if_pos (.inl hz)]
    exact ⟨_, rfl, rfl⟩
  · rw [if_neg hs] at h
    have f5 := f4 hs
    by_cases hb : (Lib.decodeGo ⟨s.toArray⟩).1 = 65533 ∧ (Lib.decodeGo ⟨s.toArray⟩).2 = 1
    · rw [if_pos hb] at h
      simp only [Prod.mk.injEq] at h
      obtain ⟨rfl, rfl⟩ := h
      refine ⟨fun _ => ?_, fun h => absurd rfl h⟩
      rw [if_pos (.inr (.inr hb))]
      exact ⟨_, rfl, rfl⟩
    · rw [if_neg hb] at h
      simp only [Prod.mk.injEq] at h
      obtain ⟨rfl, rfl⟩ := h
      refine ⟨fun h => ?_, fun h1 h2 => ⟨fun h3 => ?_, fun h3 => ?_, fun h3 h4 => ?_⟩⟩
      · rw [if_pos (by omega)]
        exact ⟨_, rfl, rfl⟩
      · rw [if_neg (by omega), if_pos (by omega)]
      · rw [if_neg (by omega), if_neg (by omega), if_pos (by omega)]
      · rw [if_neg (by omega), if_neg (by omega), if_neg (by omega)]
theorem sign_sc (st : St) : Sc ((sSign st).1 : Int) := by
  have hx := hex_max 4 0 st
  unfold sSign
  generalize sHex 4 0 st = G at *
  obtain ⟨n, st1⟩ := G
  simp only at hx ⊢
  unfold Sc
  split
  · simp only; omega
  · split
    · simp only; omega
    · have hx2 := hex_max 4 0 (sMust [92, 117] st1)
      generalize sHex 4 0 (sMust [92, 117] st1) = G2 at *
      obtain ⟨low, st2⟩ := G2
      simp only at hx2 ⊢
      split
      · simp only; omega
      · rename_i h1 h2 h3
        simp only [not_or] at h3
        simp only
        omega
theorem esc_sc (st : St) : Sc ((sEscape st).1 : Int) := by
  unfold sEscape
  split
  · unfold Sc; simp only; omega
  · rename_i c l hl
    cases hp : plainEsc c with
    | some v =>
      simp only
      have : v < 128 := by
        unfold plainEsc at hp
        repeat' split at hp
        all_goals (first | (simp at hp; done) | (simp only [Option.some.injEq] at hp; omega))
      unfold Sc; omega
    | none =>
      simp only
      split
      · exact sign_sc _
      · unfold Sc; simp only; omega
theorem tloop_bad (k : Nat) (out : Bs) (st : St) (h : st.bad = true) : sTextLoop k out st = ([], st) := by
  cases k with
  | zero => rfl
  | succ k => unfold sTextLoop; rw [if_pos h]
/-- the bytes that are read lie in an older block -/
theorem SB.below {l : Bs} {v : Value} {w : World} (h : SB (fun _ => True) l v w) : SB (fun k => k < w.heap.size) l v w :=
  h.kp (fun k o _ hk _ => ⟨get_lt hk, hk⟩)
theorem TX.grow {b B : Nat} {L : Bs} {v : Value} {c : Nat} {bd : Bool} {w w' : World} (h : TX b L v c bd w) (hS : SB (fun k => k < B) L v w) (hb : b < B) (hF : Fr (fun k _ => B ≤ k) w w') :
    TX b L v c bd w' ∧ SB (fun k => k < B) L v w' := by
  have hS' : SB (fun k => k < B) L v w' := hS.fr hF (fun k o hk _ hm => by omega)
  refine ⟨⟨h.1, hS'.kp (fun k o _ hk _ => ⟨trivial, hk⟩), hF.block _ _ h.2.2 (by omega)⟩, hS'⟩
theorem SBlow {b B : Nat} {L : Bs} {v : Value} {w w' : World} (hS : SB (fun k => k < B) L v w) (hb : OldK.k ≤ b) (hF : Fr (MT b) w w') : SB (fun k => k < B) L v w' := by
  refine hS.fr hF (fun k o _ ho hm => ?_)
  obtain ⟨rfl, c, f, rfl⟩ := hm
  rcases ho with ⟨c', f', e⟩ | hk
  · cases e
  · omega
theorem OB.nil (B : Nat) (w : World) : OB B [] (.slice none 0 0) w := World.ownsRow_nil w B _ 1
theorem OB.mt {b B : Nat} {out : Bs} {v : Value} {w w' : World} (h : OB B out v w) (hF : Fr (MT b) w w') : OB B out v w' :=
  h.fr hF (fun k o _ ho hm => by
    obtain ⟨rfl, c, f, rfl⟩ := hm
    obtain ⟨c', f', e⟩ := ho
    cases e)
/-- 'b[c:]' of a slice -/
theorem SB.from {S : Nat → Prop} {L : Bs} {g o cap c : Nat} {w : World} (h : SB S L (.slice (some ⟨g, o, none⟩) L.length cap) w) (hc : c ≤ L.length) (hcap : L.length ≤ cap) :
    SB S (L.drop c) (.slice (if cap = c then some ⟨g, o, none⟩ else some ⟨g, o + c, none⟩) (L.length - c) (cap - c)) w := by
  split
  · rename_i e
    have e1 : L.drop c = [] := List.drop_eq_nil_of_le (by omega)
    have e2 : L.length - c = 0 := by omega
    rw [e1, e2]
    exact h.none' _
  · exact h.drop c hc
end Go.Proofs.YtbfmpbhikipipaaGreatDoor
namespace Go.Proofs.YtbfmpbhikipipaaGreatDoor
set_option linter.unusedVariables false
set_option linter.unusedSimpArgs false
set_option linter.unusedSectionVars false
open Go.RowKit
variable [OldK]
theorem nx_cons {t : Bs} {x : UInt8} (hx : 0 < x.toNat) (h : nx t = (x.toNat : Int)) : ∃ l, t = x :: l := by
  cases t with
  | nil => simp [nx] at h; omega
  | cons y l =>
    simp only [nx] at h
    have : y = x := UInt8.toNat_inj.1 (by omega)
    exact ⟨l, by rw [this]⟩
theorem nx_ne {t : Bs} {x : UInt8} (h : nx t ≠ (x.toNat : Int)) : ∀ l, t ≠ x :: l := by
  rintro l rfl
  exact h rfl
theorem blanks_head {s : Bs} : ∀ x l, sBlanks s = x :: l → ¬ (x = 32 ∨ x = 9 ∨ x = 10 ∨ x = 13) := by
  induction s with
  | nil => intro x l h; simp [sBlanks, Lib.trimLeftS] at h
  | cons y m ih =>
    intro x l h
    rw [blanks_step] at h
    split at h
    · exact ih x l h
    · rename_i hy
      simp only [List.cons.injEq] at h
      rw [← h.1]
      exact hy
theorem blanks_idem (s : Bs) : sBlanks (sBlanks s) = sBlanks s := by
  have h := blanks_head (s := s)
  generalize sBlanks s = t at *
  cases t with
  | nil => rfl
  | cons x l => rw [blanks_step, if_neg (h x l rfl)]
theorem seat_yes {c : UInt8} {s l : Bs} (h : sBlanks s = c :: l) : sEat c s = some l := by
  unfold sEat
  rw [h]
  simp
theorem seat_no {c : UInt8} {s : Bs} (h : ∀ l, sBlanks s ≠ c :: l) : sEat c s = none := by
  unfold sEat
  generalize sBlanks s = t at *
  cases t with
  | nil => rfl
  | cons x m =>
    simp only
    rw [if_neg]
    rintro rfl
    exact h m rfl
section
variable {α : Type} {one : St → α → St × α} {shut : UInt8}
theorem loop_step {k : Nat} {s : Bs} {a : α} {st1 : St} {a1 : α} (h : one ⟨s, false⟩ a = (st1, a1)) :
    (st1.bad = true → sLoop one shut (k + 1) ⟨s, false⟩ a = (st1, a1)) ∧
    (st1.bad = false → (∀ l, sBlanks st1.s = shut :: l → sLoop one shut (k + 1) ⟨s, false⟩ a = (⟨l, false⟩, a1)) ∧
      (∀ l, shut ≠ 44 → sBlanks st1.s = 44 :: l → sLoop one shut (k + 1) ⟨s, false⟩ a = sLoop one shut k ⟨l, false⟩ a1) ∧
      ((∀ l, sBlanks st1.s ≠ shut :: l) → (∀ l, sBlanks st1.s ≠ 44 :: l) → (sLoop one shut (k + 1) ⟨s, false⟩ a).1.bad = true)) := by
  rw [sLoop, h]
  simp only [Bool.false_eq_true, if_false]
  refine ⟨fun hb => by rw [if_pos hb], fun hb => ?_⟩
  rw [if_neg (by simp [hb])]
  refine ⟨fun l hl => by rw [seat_yes hl], fun l hs hl => ?_, fun h1 h2 => ?_⟩
  · have hn : ∀ m, sBlanks st1.s ≠ shut :: m := by
      intro m hm
      rw [hl] at hm
      simp only [List.cons.injEq] at hm
      exact hs hm.1.symm
    rw [seat_no hn, seat_yes (by rw [blanks_idem]; exact hl)]
  · rw [seat_no h1, seat_no (by rw [blanks_idem]; exact h2)]
    exact loop_bad _ _ _
theorem each_start {op : UInt8} {d : Int} {l : Bs} {a : α} (hop : ¬ (op = 32 ∨ op = 9 ∨ op = 10 ∨ op = 13)) (hd : d ≤ 8) :
    (∀ m, sBlanks l = shut :: m → sEach one op shut d ⟨op :: l, false⟩ a = (⟨m, false⟩, a)) ∧
    ((∀ m, sBlanks l ≠ shut :: m) → sEach one op shut d ⟨op :: l, false⟩ a = sLoop one shut (l.length + 2) ⟨sBlanks l, false⟩ a) := by
  have h1 : sOpen op d ⟨op :: l, false⟩ = ⟨l, false⟩ := by
    unfold sOpen
    simp only
    rw [seat_yes (by rw [blanks_step, if_neg hop])]
    simp only [Bool.false_or]
    rw [decide_eq_false (by omega)]
  unfold sEach
  rw [h1]
  refine ⟨fun m hm => by rw [seat_yes hm], fun hm => by rw [seat_no hm]⟩
theorem each_deep {op : UInt8} {d : Int} {l : Bs} {a : α} (hop : ¬ (op = 32 ∨ op = 9 ∨ op = 10 ∨ op = 13)) (hd : 8 < d) : (sEach one op shut d ⟨op :: l, false⟩ a).1.bad = true := by
  have h1 : sOpen op d ⟨op :: l, false⟩ = ⟨l, true⟩ := by
    unfold sOpen
    simp only
    rw [seat_yes (by rw [blanks_step, if_neg hop])]
    simp only [Bool.false_or]
    rw [decide_eq_true hd]
  unfold sEach
  rw [h1]
  split
  · rfl
  · exact loop_bad _ _ _
/-- what a round of a list or an object comes to, behind its value -/
theorem round_facts (hs : shut ≠ 44) (hs0 : 0 < shut.toNat) {L : Bs} {c k a' K : Nat} {acc a1 : α} {st1 : St} {G : St × α}
    (h1 : one ⟨L.drop c, false⟩ acc = (st1, a1)) (hle : st1.s.length ≤ (L.drop c).length) (hcL : c ≤ L.length) (hk : (L.drop c).length + 1 ≤ k + 1)
    (hG : sLoop one shut (k + 1) ⟨L.drop c, false⟩ acc = G) (hpos : st1.bad = false → L.drop a' = st1.s ∧ a' ≤ L.length) (hK : a' + 1 ≤ K) (hK2 : L.length + 1 ≤ K) :
    blk L a' + 1 ≤ K ∧
    (nx (L.drop (blk L a')) = (shut.toNat : Int) → (G.1.bad = false → st1.bad = false ∧ G.2 = a1) ∧ (∀ b v W, TX b L v (blk L a' + 1) st1.bad W → RS b L v K G.1 W)) ∧
    (nx (L.drop (blk L a')) = 44 → (st1.bad = true → G.1.bad = true) ∧
      (st1.bad = false → c + 1 ≤ blk L a' + 1 ∧ blk L a' + 1 ≤ L.length ∧ (L.drop (blk L a' + 1)).length + 1 ≤ k ∧ sLoop one shut k ⟨L.drop (blk L a' + 1), false⟩ a1 = G)) ∧
    (¬ nx (L.drop (blk L a')) = (shut.toNat : Int) → ¬ nx (L.drop (blk L a')) = 44 → G.1.bad = true) := by
  have hb := blk_le L a'
  have hd := drop_blk L a'
  obtain ⟨s1, s2⟩ := loop_step (one := one) (shut := shut) (k := k) h1
  rw [hG] at s1 s2
  have hbs := blanks_le st1.s
  rw [List.length_drop] at hle hk
  refine ⟨by omega, fun hm => ?_, fun hm => ?_, fun hm1 hm2 => ?_⟩
  · obtain ⟨l, hl⟩ := nx_cons hs0 hm
    obtain ⟨q1, q2, q3, q4⟩ := dropAt hl
    cases hbd : st1.bad with
    | true =>
      have hG1 := s1 hbd
      subst hG1
      exact ⟨fun h => by simp only at h; rw [hbd] at h; exact absurd h (by decide), fun b v W hW => ⟨_, by simp only; rw [hbd]; exact hW, fun h => by simp only at h; rw [hbd] at h; exact absurd h (by decide), by omega⟩⟩
    | false =>
      rw [(hpos hbd).1] at hd
      rw [hd] at hl
      have hG1 := (s2 hbd).1 l hl
      subst hG1
      exact ⟨fun _ => ⟨rfl, rfl⟩, fun b v W hW => ⟨_, hW, fun _ => ⟨q3, by omega⟩, by omega⟩⟩
  · obtain ⟨l, hl⟩ := nx_cons (x := 44) (by decide) hm
    obtain ⟨q1, q2, q3, q4⟩ := dropAt hl
    refine ⟨fun hbd => by rw [s1 hbd]; exact hbd, fun hbd => ?_⟩
    rw [(hpos hbd).1] at hd
    rw [hd] at hl
    have hG1 := (s2 hbd).2.1 l hs hl
    rw [hl, List.length_cons] at hbs
    refine ⟨by omega, by omega, by rw [q3]; omega, by rw [q3]; exact hG1.symm⟩
  · cases hbd : st1.bad with
    | true => rw [s1 hbd]; exact hbd
    | false =>
      rw [(hpos hbd).1] at hd
      rw [hd] at hm1 hm2
      exact (s2 hbd).2.2 (nx_ne hm1) (nx_ne (x := 44) hm2)
end
end Go.Proofs.YtbfmpbhikipipaaGreatDoor
namespace Go.Proofs.YtbfmpbhikipipaaGreatDoor
set_option linter.unusedVariables false
set_option linter.unusedSimpArgs false
set_option linter.unusedSectionVars false
open Go.RowKit
variable [OldK]
attribute [local irreducible] wpStill
/-- what 'value' does, at most f deep -/
def TValOk (b : Nat) (L : Bs) (v : Value) (f : Nat) : Prop := ∀ (d : Int) (a : Nat) (w : World), TX b L v a false w → a ≤ L.length → 0 ≤ d → d ≤ 8 → d + f = 10 →
  Calls Tryz.prog 45 #[.pointer (some ⟨b, 0, none⟩), .int .i64 d] w fun e w' => ∃ j x, e = .returned x ∧ RJ (fun k => w.heap.size ≤ k) w' j x ∧
    ((sValue f d ⟨L.drop a, false⟩).2.bad = false → j = (sValue f d ⟨L.drop a, false⟩).1) ∧ RS b L v (L.length + 10 - d.toNat) (sValue f d ⟨L.drop a, false⟩).2 w' ∧ Fr (MT b) w w'
/-- how things lie while a list or an object is read: the reader, the result's block, the value's block -/
structure LS (b : Nat) (L : Bs) (v : Value) (w : World) (c : Nat) (bd : Bool) (cs : Array Value) (wr : World) : Prop where
  tx : TX b L v c bd wr
  sb : SB (fun k => k < w.heap.size) L v wr
  ra : wr.heap[w.heap.size]? = some (.cells #[.int .i64 0, .int .i64 0, .string ⟨#[]⟩, .slice none 0 0, .slice none 0 0] 25 (0, 0))
  rb : wr.heap[w.heap.size + 1]? = some (.cells cs 25 (0, 0))
  fr : Fr (MT b) w wr
  lt : b < w.heap.size
  old : OldK.k ≤ b
section
variable {b : Nat} {L : Bs} {v : Value} {w wr w1 : World} {c c' : Nat} {bd bd' : Bool} {cs : Array Value}
theorem MT_val {k : Nat} {cs : Array Value} {f : Nat × Nat} : ¬ MT b k (.cells cs 25 f) := by
  rintro ⟨_, _, _, h⟩
  cases h
theorem MT_pair {k : Nat} {cs : Array Value} {f : Nat × Nat} : ¬ MT b k (.cells cs 62 f) := by
  rintro ⟨_, _, _, h⟩
  cases h
theorem LS.start (h : TX b L v c bd w) (cs : Array Value) :
    LS b L v w c bd cs ((w.alloc (.cells #[.int .i64 0, .int .i64 0, .string ⟨#[]⟩, .slice none 0 0, .slice none 0 0] 25)).alloc (.cells cs 25)) := by
  have hF : Fr NoB w ((w.alloc (.cells #[.int .i64 0, .int .i64 0, .string ⟨#[]⟩, .slice none 0 0, .slice none 0 0] 25)).alloc (.cells cs 25)) := (Fr.refl.alloc _).alloc _
  have s1 : (w.alloc (.cells #[.int .i64 0, .int .i64 0, .string ⟨#[]⟩, .slice none 0 0, .slice none 0 0] 25)).heap.size = w.heap.size + 1 := World.size_alloc _ _
  refine ⟨h.frN hF, (h.2.1.below).fr hF (fun _ _ _ _ h => h), ?_, ?_, hF.mono (fun _ _ h => h.elim), h.lt, h.1.2⟩
  · rw [Below.heap_alloc _ _ _ (by omega)]; exact heap_alloc_new w _
  · have e2 := heap_alloc_new (w.alloc (.cells #[.int .i64 0, .int .i64 0, .string ⟨#[]⟩, .slice none 0 0, .slice none 0 0] 25)) (.cells cs 25)
    rw [s1] at e2
    exact e2
theorem LS.call (h : LS b L v w c bd cs wr) (hT : TX b L v c' bd' w1) (hF : Fr (MT b) wr w1) : LS b L v w c' bd' cs w1 :=
  ⟨hT, SBlow h.sb h.old hF, hF.block _ _ h.ra MT_val, hF.block _ _ h.rb MT_val, h.fr.trans' hF, h.lt, h.old⟩
theorem LS.callN (h : LS b L v w c bd cs wr) (hF : Fr NoB wr w1) : LS b L v w c bd cs w1 := h.call (h.tx.frN hF) (hF.mono (fun _ _ h => h.elim))
theorem LS.put1 (h : LS b L v w c bd cs wr) (x : Int) (a : Nat) (hx : x = (a : Int)) : LS b L v w a bd cs (wr.setCell ⟨b, 1, none⟩ (.int .i64 x)) :=
  h.call (h.tx.put1 x a hx) (h.tx.setF _ _)
theorem LS.set2 (h : LS b L v w c bd cs wr) (b' : Bool) : LS b L v w c b' cs (wr.setCell ⟨b, 2, none⟩ (.bool b')) := h.call (h.tx.set2 b') (h.tx.setF _ _)
theorem LS.push (h : LS b L v w c bd cs w1) {Z : Obj} {w2 : World} {lv X : Value} {o : Nat} (hgr : (w1.alloc Z).grownBy w2 lv.ownBlock) (hlv : ∀ k, lv.ownBlock = some k → w.heap.size + 2 ≤ k) :
    LS b L v w c bd (cs.setIfInBounds o X) (w2.setCell ⟨w.heap.size + 1, o, none⟩ X) := by
  have hF := push_fr (bv := w.heap.size + 1) (c := o) (X := X) hgr
  obtain ⟨g1, g2⟩ := h.tx.grow h.sb h.lt (hF.mono (M' := fun k _ => w.heap.size ≤ k) (fun k _ hm => by
    rcases hm with hm | hm
    · have := hlv k hm; omega
    · omega))
  refine ⟨g1, g2, hF.block _ _ h.ra ?_, ?_, h.fr.trans hF (fun k _ hm => .inr ?_), h.lt, h.old⟩
  · rintro (hm | hm)
    · have := hlv _ hm; omega
    · omega
  · refine heap_setCell_eq (o := o) X ?_
    exact grown_keep hgr (alloc_keep _ h.rb) (fun e => by have := hlv _ e; omega)
  · rcases hm with hm | hm
    · have := hlv _ hm; omega
    · omega
theorem own_mtV {N n : Nat} {lv : Value} {xs : List Value} (h : wr.ownsRow N 25 5 lv n xs) (hF : Fr (MT b) wr w1) : w1.ownsRow N 25 5 lv n xs :=
  own_fr h hF (by rintro k o _ _ ⟨c, f, rfl⟩; exact MT_val)
theorem own_mtP {N n : Nat} {lv : Value} {xs : List Value} (h : wr.ownsRow N 62 6 lv n xs) (hF : Fr (MT b) wr w1) : w1.ownsRow N 62 6 lv n xs :=
  own_fr h hF (by rintro k o _ _ ⟨c, f, rfl⟩; exact MT_pair)
theorem RC.mt {S : Nat → Prop} {l : List J} {xs : List Value} (h : RC S wr l xs) (hb : OldK.k ≤ b) (hF : Fr (MT b) wr w1) : RC S w1 l xs := by
  refine RC.kp (Kp.fr hF (fun b hb _ => hb) ?_) l xs h
  rintro k o _ _ (⟨c, f, rfl⟩ | ⟨c, f, rfl⟩ | hk)
  · exact MT_val
  · exact MT_pair
  · rintro ⟨rfl, -⟩; omega
theorem RP.mt {S : Nat → Prop} {l : List (Bs × J)} {xs : List Value} (h : RP S wr l xs) (hb : OldK.k ≤ b) (hF : Fr (MT b) wr w1) : RP S w1 l xs := by
  refine RP.kp (Kp.fr hF (fun b hb _ => hb) ?_) l xs h
  rintro k o _ _ (⟨c, f, rfl⟩ | ⟨c, f, rfl⟩ | hk)
  · exact MT_val
  · exact MT_pair
  · rintro ⟨rfl, -⟩; omega
theorem LRow.mt {S : Nat → Prop} {N : Nat} {l : List J} {lv : Value} (h : LRow S N l lv wr) (hb : OldK.k ≤ b) (hF : Fr (MT b) wr w1) : LRow S N l lv w1 := by
  obtain ⟨xs, hown, hrc⟩ := h
  refine ⟨xs, own_fr hown hF ?_, RC.kp (Kp.fr hF (fun b hb _ => hb) ?_) l xs hrc⟩
  · rintro k o _ _ ⟨c, f, rfl⟩
    exact MT_val
  · rintro k o _ _ (⟨c, f, rfl⟩ | ⟨c, f, rfl⟩ | hk)
    · exact MT_val
    · exact MT_pair
    · rintro ⟨rfl, -⟩; omega
theorem QRow.mt {S : Nat → Prop} {N : Nat} {l : List (Bs × J)} {lv : Value} (h : QRow S N l lv wr) (hb : OldK.k ≤ b) (hF : Fr (MT b) wr w1) : QRow S N l lv w1 := by
  obtain ⟨xs, hown, hrc⟩ := h
  refine ⟨xs, own_fr hown hF ?_, RP.kp (Kp.fr hF (fun b hb _ => hb) ?_) l xs hrc⟩
  · rintro k o _ _ ⟨c, f, rfl⟩
    exact MT_pair
  · rintro k o _ _ (⟨c, f, rfl⟩ | ⟨c, f, rfl⟩ | hk)
    · exact MT_val
    · exact MT_pair
    · rintro ⟨rfl, -⟩; omega
theorem QRow.rowQ {S : Nat → Prop} {N : Nat} {l : List (Bs × J)} {lv : Value} (h : QRow S N l lv wr) : ∃ a c, lv = .slice a l.length c ∧ RowP (fun k => (S k ∨ N ≤ k) ∧ k < wr.heap.size) wr l a := by
  obtain ⟨xs, hown, hrc⟩ := h
  rcases hown.2 with ⟨rfl, h0⟩ | ⟨g, cap, cur, rfl, hb, hg, hn, hcm, hcs, htake⟩
  · exact ⟨none, 0, by rw [h0], .inl (List.length_eq_zero_iff.1 h0)⟩
  · refine ⟨_, _, rfl, .inr ⟨g, 0, cur, (0, 0), rfl, ⟨.inr hb, get_lt hg⟩, Blk.of hg, ?_⟩⟩
    have e : (cur.toList.drop 0).take (6 * l.length) = xs := by rw [List.drop_zero, Nat.mul_comm]; exact htake
    rw [e]
    exact RP.kp (fun b o hs hb _ => ⟨⟨hs.1, get_lt hb⟩, hb⟩) l xs hrc
/-- the list, as the result -/
theorem LRow.val {l : List J} {lv : Value} {N : Nat} (h : LRow (fun _ => False) (N + 2) l lv wr) (v0 v1 v2 v3 v4 : Value) :
    RJ (fun k => N ≤ k) (setV N v0 v1 v2 v3 v4 wr) (.mk 4 0 [] l []) (.agg #[.int .i64 4, .int .i64 0, .string ⟨#[]⟩, lv, .slice none 0 0]) := by
  obtain ⟨a, e, rfl, hr⟩ := h.row
  have h1 : RJ (fun k => (False ∨ N + 2 ≤ k) ∧ k < wr.heap.size) wr (.mk 4 0 [] l []) (.agg #[.int .i64 4, .int .i64 0, .string ⟨#[]⟩, .slice a l.length e, .slice none 0 0]) := by
    unfold RJ
    exact ⟨a, e, none, 0, rfl, hr, .inl rfl⟩
  exact RJ.kp (fun q o hq ho _ => ⟨by rcases hq.1 with h | h; exact h.elim; omega, (setV_fr _ _ _ _ _ _ _).block q o ho (by rcases hq.1 with h | h; exact h.elim; omega)⟩) _ _ h1
theorem QRow.val {l : List (Bs × J)} {lv : Value} {N : Nat} (h : QRow (fun _ => False) (N + 2) l lv wr) (v0 v1 v2 v3 v4 : Value) :
    RJ (fun k => N ≤ k) (setV N v0 v1 v2 v3 v4 wr) (.mk 5 0 [] [] l) (.agg #[.int .i64 5, .int .i64 0, .string ⟨#[]⟩, .slice none 0 0, lv]) := by
  obtain ⟨a, e, rfl, hr⟩ := h.rowQ
  have h1 : RJ (fun k => (False ∨ N + 2 ≤ k) ∧ k < wr.heap.size) wr (.mk 5 0 [] [] l) (.agg #[.int .i64 5, .int .i64 0, .string ⟨#[]⟩, .slice none 0 0, .slice a l.length e]) := by
    unfold RJ
    exact ⟨none, 0, a, e, rfl, .inl rfl, hr⟩
  exact RJ.kp (fun q o hq ho _ => ⟨by rcases hq.1 with h | h; exact h.elim; omega, (setV_fr _ _ _ _ _ _ _).block q o ho (by rcases hq.1 with h | h; exact h.elim; omega)⟩) _ _ h1
theorem LS.tset (h : LS b L v w c bd cs wr) (v0 v1 v2 v3 v4 : Value) : TX b L v c bd (setV w.heap.size v0 v1 v2 v3 v4 wr) ∧ Fr (MT b) w (setV w.heap.size v0 v1 v2 v3 v4 wr) :=
  ⟨(h.tx.grow h.sb h.lt ((setV_fr _ _ _ _ _ _ _).mono (fun _ _ hm => by omega))).1, h.fr.setV (Nat.le_refl _) _ _ _ _ _⟩
end
end Go.Proofs.YtbfmpbhikipipaaGreatDoor
