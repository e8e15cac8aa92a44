/-
  The walk of the reference's Quote.
-/
import Derived.Test.YtbfmpbhikipipaaGreatDoorKIsAll
import Derived.Deep.RegionLaw
import Derived.StillTailTactics
namespace Go.Proofs.YtbfmpbhikipipaaGreatDoor
set_option linter.unusedVariables false
set_option linter.unusedSimpArgs false
set_option linter.unusedSectionVars false
open Go.RowKit
variable [OldK]

/-- the value v is bytes that the call itself has gathered, from block B on -/
def OB (B : Nat) (out : Bs) (v : Value) (w : World) : Prop := w.ownsRow B 5 1 v out.length (Lib.byteCells out)
theorem OB.fr {M : Nat → Obj → Prop} {B : Nat} {out : Bs} {v : Value} {w w' : World} (h : OB B out v w) (hF : Fr M w w') (hM : ∀ k o, B ≤ k → OfTy 5 o → ¬ M k o) : OB B out v w' :=
  own_fr h hF (fun k o _ hk ht => hM k o hk ht)
theorem OB.sb {B : Nat} {out : Bs} {v : Value} {w : World} (h : OB B out v w) : SB (fun k => B ≤ k) out v w := by
  rcases h.2 with ⟨rfl, h0⟩ | ⟨g, cap, cur, rfl, hb, hg, hn, hcm, hcs, htake⟩
  · have : out = [] := List.length_eq_zero_iff.1 h0
    subst this
    exact SB.nil _ _ _
  · refine ⟨_, cap, rfl, by omega, .inr ⟨g, 0, cur, _, (0, 0), rfl, hb, ⟨hg, .inl rfl⟩, fun j hj => ?_⟩⟩
    have h1 : (cur.toList.take (out.length * 1))[j]? = some (.int .u8 (out[j].toNat : Int)) := by
      rw [htake]
      simp [Lib.byteCells, hj]
    rw [List.getElem?_take] at h1
    rw [if_pos (by omega)] at h1
    rw [Nat.zero_add, ← Array.getElem?_toList]
    exact h1
theorem OB.form {B : Nat} {out : Bs} {v : Value} {w : World} (h : OB B out v w) : ∃ a c, v = .slice a out.length c := own_form h
/-- the first byte's row -/
theorem OB.one (w : World) (c : UInt8) : OB w.heap.size [c] (.slice (some ⟨w.heap.size, 0, none⟩) 1 1) (w.alloc (.cells #[.int .u8 c.toNat] 5)) :=
  ⟨rfl, .inr ⟨w.heap.size, 1, _, rfl, Nat.le_refl _, heap_alloc_new w _, Nat.le_refl _, by unfold maxLen; decide, rfl, rfl⟩⟩
/-- what stands behind the table's signs -/
def rTab : List (UInt8 × UInt8) := [(34, 34), (92, 92), (8, 98), (9, 116), (10, 110), (12, 102), (13, 114)]
def rLook (c : UInt8) : List (UInt8 × UInt8) → Bs
  | [] => []
  | (p, m) :: l => (if p = c then [92, m] else []) ++ rLook c l
def rHas (c : UInt8) : List (UInt8 × UInt8) → Bool
  | [] => false
  | (p, _) :: l => (p == c) || rHas c l
theorem ref_esc (c : UInt8) : (if pEsc c = [] then [c] else pEsc c) = rLook c rTab ++ (if rHas c rTab then [] else if c.toNat < 32 then [92, 117, 48, 48, fig (c.toNat / 16), fig (c.toNat % 16)] else [c]) := by
  unfold pEsc rTab
  simp only [rLook, rHas]
  by_cases h1 : c = 34
  · subst h1; decide
  by_cases h2 : c = 92
  · subst h2; decide
  by_cases h3 : c = 8
  · subst h3; decide
  by_cases h4 : c = 9
  · subst h4; decide
  by_cases h5 : c = 10
  · subst h5; decide
  by_cases h6 : c = 12
  · subst h6; decide
  by_cases h7 : c = 13
  · subst h7; decide
  have e : ∀ x : UInt8, ¬ c = x → (x == c) = false ∧ ¬ x = c := fun x h => ⟨by rw [beq_eq_false_iff_ne]; exact fun e => h e.symm, fun e => h e.symm⟩
  simp only [h1, h2, h3, h4, h5, h6, h7, if_false, (e 34 h1).1, (e 92 h2).1, (e 8 h3).1, (e 9 h4).1, (e 10 h5).1, (e 12 h6).1, (e 13 h7).1, (e 34 h1).2, (e 92 h2).2, (e 8 h3).2, (e 9 h4).2, (e 10 h5).2, (e 12 h6).2, (e 13 h7).2, Bool.or_self, Bool.false_eq_true, List.nil_append]
  split
  · simp
  · simp

theorem rTab_at {k : Nat} (hk : k < 7) : ∃ p m, rTab.drop k = (p, m) :: rTab.drop (k + 1) ∧ (∀ h, (ByteArray.mk #[34, 92, 8, 9, 10, 12, 13])[k]'h = p) ∧ (∀ h, (ByteArray.mk #[34, 92, 98, 116, 110, 102, 114])[k]'h = m) := by
  have : k = 0 ∨ k = 1 ∨ k = 2 ∨ k = 3 ∨ k = 4 ∨ k = 5 ∨ k = 6 := by omega
  rcases this with rfl | rfl | rfl | rfl | rfl | rfl | rfl
  all_goals exact ⟨_, _, rfl, fun _ => rfl, fun _ => rfl⟩
theorem OB.push {B : Nat} {out news : Bs} {v v' : Value} {w W w2 : World} (h : OB B out v w) (hW : Fr NoB w W) (hown : w2.ownsRow B 5 1 v' (out.length + news.length) (Lib.byteCells out ++ Lib.byteCells news)) (hg : W.grownBy w2 v.ownBlock) :
    OB B (out ++ news) v' w2 ∧ Fr (fun k _ => B ≤ k) w w2 := by
  constructor
  · unfold OB
    rw [List.length_append, Lib.byteCells_append]
    exact hown
  · exact (hW.mono (fun _ _ h => h.elim)).trans (Fr.ofGrown hg) (fun k o hm => .inl (own_ty h k hm.symm).1)
theorem figs_at {k : Nat} (hk : k < 16) : ∀ h, (ByteArray.mk #[48, 49, 50, 51, 52, 53, 54, 55, 56, 57, 97, 98, 99, 100, 101, 102])[k]'h = fig k := by
  have : k = 0 ∨ k = 1 ∨ k = 2 ∨ k = 3 ∨ k = 4 ∨ k = 5 ∨ k = 6 ∨ k = 7 ∨ k = 8 ∨ k = 9 ∨ k = 10 ∨ k = 11 ∨ k = 12 ∨ k = 13 ∨ k = 14 ∨ k = 15 := by omega
  rcases this with rfl | rfl | rfl | rfl | rfl | rfl | rfl | rfl | rfl | rfl | rfl | rfl | rfl | rfl | rfl | rfl
  all_goals exact fun _ => rfl
/-- append of some elements, as one step of a region that draws -/
theorem step_append_many {P : Program} {ops : Array Oper} {o : Oper} {a : Act} {w : World} {K : Act → World → Prop} {Q : Exit → Act → World → Prop} {E : Prop}
    (hg : o.guard = none) (s x : Operand) (t : TypeId) (hop : o.op = Op.call { callee := Callee.builtin Builtin.append, args := #[s, x], argTypes := #[t, t] })
    (base : Nat) (e : TypeId) (i : TypeInfo) (z : Value) (size bytes : Nat) (ht : P.underlying t = some (.slice e)) (hi : P.info? e = some i) (hz : i.zero = some z)
    (hsize : i.size = size) (hby : i.bytes = bytes) (hzs : z.cells.size = size) (hsz : 0 < size)
    (v : Value) (n : Nat) (xs : List Value) (hs : a.eval s = v) (hown : w.ownsRow base e size v n xs)
    (ad : Addr) (m c : Nat) (news : List Value) (hx : a.eval x = .slice (some ad) m c) (hl : news.length = m * size) (hnews : ∀ j u, news[j]? = some u → w.cell? (ad.add j) = some u) (h1 : ∀ u ∈ news, u.oneCell' = true)
    (h63 : n + m ≤ maxLen) (hbytes : (n + m) * bytes ≤ 140737488355328) (hbase : base ≤ w.heap.size)
    (hK : ∀ v' w', w'.ownsRow base e size v' (n + m) (xs ++ news) → w.grownBy w' v.ownBlock → K (a.put o.dst v') w') :
    if Region.wanted o (yielded ops a.tmps) = true then Oper.wp P o a w K Q else E := by
  have hw : Region.wanted o (yielded ops a.tmps) = true := by simp [Region.wanted, hg]
  rw [if_pos hw]
  obtain ⟨v', w', hr, ho, hgr, _⟩ := run_append_block (P := P) w base t o.type e i z size bytes ht hi hz hsize hby hzs hsz v n xs hown ad m c news hl hnews h1 h63 hbytes hbase
  unfold Oper.wp execOp
  simp only [hop, resolve, invoke, builtin, Sem.run_bind, Sem.run_pure, Result.andThen_ok, List.map_toArray, List.map_cons, List.map_nil, hs, hx, hr]
  exact hK v' w' ho hgr
set_option maxRecDepth 100000 in
set_option maxHeartbeats 4000000 in
theorem refQuote_c (s : Bs) (w : World) (hlen : s.length ≤ 67108864) :
    Calls Tryz.prog 43 #[.string ⟨s.toArray⟩] w fun e w' => e = .returned (.string ⟨(pQuote s).toArray⟩) ∧ Fr NoB w w' := by
  generalize hG : pQuote s = G
  have hsz : (ByteArray.mk s.toArray).size = s.length := rfl
  have HG : Hid ([34] ++ pEscs (s.drop 0) ++ [34] = G) := hG
  clear hG
  have HO0 := Lib.hid (OB.one w 34)
  have HF0 := Lib.hid ((Fr.refl (M := NoB)).alloc (w := w) (.cells #[.int .u8 (34 : UInt8).toNat] 5))
  obtain ⟨i0, hi0, hz0, hz1, hz2⟩ := info_parts Tryz.infoByte
  go_enter Tryz.func43, Tryz.ntmps43
  go_wp2_with fail
  go_loopg [6, 7, 8, 9, 10] (s.length + 1) (fun g vo vi vc vf vk wr => ∃ (i : Nat) (out : Bs), vi = .int .i64 i ∧ i ≤ s.length ∧ i + g = s.length + 1 ∧ out.length ≤ 1 + 20 * i ∧ Hid (OB w.heap.size out vo wr) ∧ Hid (Fr NoB w wr) ∧ Hid (out ++ pEscs (s.drop i) ++ [34] = G))
  case atStart => exact ⟨0, [34], rfl, by omega, by omega, by simp, HO0, HF0, HG⟩
  case round =>
    obtain ⟨i, out, rfl, hi, hgk, hol, HO, HF, HS⟩ := hrel
    rcases Nat.lt_or_ge i s.length with hlt | hge
    · obtain ⟨c, hc⟩ : ∃ c, s[i]? = some c := ⟨_, List.getElem?_eq_getElem hlt⟩
      have hcb : ∀ h, (ByteArray.mk s.toArray)[i]'h = c := by
        intro h
        obtain ⟨h1, h2⟩ := List.getElem?_eq_some_iff.1 hc
        exact h2
      have hS := HS.out
      rw [drop_at hc, pEscs, ref_esc] at hS
      have HS2 := Lib.hid hS
      clear hS HS hc
      go_wp2_with fail
      generalize hE2 : out ++ rLook c rTab = out9 at *
      have HE2 := Lib.hid hE2
      generalize hF9 : rHas c rTab = f9 at *
      have HF9 := Lib.hid hF9
      clear hE2
      go_loopg [6, 9, 10] 8 (fun g vo vf vk wr => ∃ (k : Nat) (out2 : Bs) (fd : Bool), vk = .int .i64 k ∧ k ≤ 7 ∧ k + g = 8 ∧ vf = .bool fd ∧ out2.length ≤ 1 + 20 * i + 2 * k ∧ Hid (OB w.heap.size out2 vo wr) ∧ Hid (Fr NoB w wr) ∧
        Hid (out2 ++ rLook c (rTab.drop k) = out ++ rLook c rTab) ∧ Hid ((fd || rHas c (rTab.drop k)) = f9))
      case atStart => exact ⟨0, out, false, rfl, by omega, by omega, rfl, by omega, HO, HF, rfl, by simpa using HF9⟩
      case round =>
        obtain ⟨k, out2, fd, rfl, hk7, hkg, rfl, hol2, HO2, HF2, HL2, HH2⟩ := hrel
        rcases Nat.lt_or_ge k 7 with hk | hk
        · obtain ⟨p, m, hd, hpb, hmb⟩ := rTab_at hk
          have hL := HL2.out
          have hH := HH2.out
          rw [hd, rLook] at hL
          rw [hd, rHas] at hH
          cases hpc : (p == c) with
          | true =>
            have hpc2 : p = c := by simpa using hpc
            rw [if_pos hpc2] at hL
            rw [hpc] at hH
            simp only [Bool.true_or, Bool.or_true] at hH
            have ht : ((p.toNat : Int) == (c.toNat : Int)) = true := by rw [hpc2]; simp
            have HL3 := Lib.hid hL
            have HH3 := Lib.hid hH
            have hBw := Nat.le_trans (Nat.le_refl w.heap.size) HF2.out.size
            clear hL hH hd HL2 HH2 hpc2 hpc
            go_wp2_with (at_builtin; refine wpList_append_own _ rfl _ _ 28 rfl w.heap.size 5 i0 (.int .u8 0) 1 1 Tryz.underlying28 hi0 hz0 hz1 hz2 rfl (by decide) _ _ _ rfl (HO2.out.alloc _) ⟨_, 0, none⟩ 2 2 [.int .u8 92, .int .u8 m.toNat] rfl rfl ?c1 ?c2 ?c3 ?c4 ?c5 ?_)
            case c1 => exact cells_at _ _ _ _ rfl
            case c2 => simp [Value.oneCell']
            case c3 => unfold maxLen; omega
            case c4 => omega
            case c5 => simp; omega
            intro v' w2 hown' hgrow _
            obtain ⟨hO3, hF3⟩ := HO2.out.push (news := [92, m]) (Fr.refl.alloc _) hown' hgrow
            have HO3 := Lib.hid hO3
            have HF3 := Lib.hid (HF2.out.trans hF3 (fun _ _ h => .inr h))
            clear hown' hgrow hO3 hF3
            go_wp2_with fail
            go_roundg (gk - 1)
            case measure => omega
            case rel => exact ⟨k + 1, out2 ++ [92, m], true, by simp, by omega, by omega, rfl, by simp; omega, HO3, HF3, by have := HL3.out; simpa using Lib.hid this, by have := HH3.out; simpa using Lib.hid this⟩
          | false =>
            have hpc2 : ¬ p = c := by simpa using hpc
            rw [if_neg hpc2, List.nil_append] at hL
            rw [hpc] at hH
            simp only [Bool.false_or] at hH
            have ht : ((p.toNat : Int) == (c.toNat : Int)) = false := by
              rw [beq_eq_false_iff_ne]
              intro e
              exact hpc2 (UInt8.toNat_inj.1 (by omega))
            have HL3 := Lib.hid hL
            have HH3 := Lib.hid hH
            clear hL hH hd HL2 HH2 hpc2 hpc
            go_wp2_with fail
            go_roundg (gk - 1)
            case measure => omega
            case rel => exact ⟨k + 1, out2, fd, by simp, by omega, by omega, rfl, by omega, HO2, HF2, HL3, HH3⟩
        · obtain rfl : k = 7 := by omega
          have hL := HL2.out
          have hH := HH2.out
          have hd7 : rTab.drop 7 = [] := rfl
          rw [hd7] at hL hH
          simp only [rLook, rHas, List.append_nil, Bool.or_false] at hL hH
          have hS := HS2.out
          rw [← List.append_assoc, ← List.append_assoc, ← hL] at hS
          subst hH
          have hwB := HF2.out.size
          clear HE2 HF9 HL2 HH2 hL hd7
          cases fd with
          | true =>
            simp only [if_true, List.append_nil] at hS
            have HS3 := Lib.hid hS
            clear hS HS2
            go_wp2_with fail
            go_roundg (s.length - i)
            case measure => omega
            case rel => exact ⟨i + 1, out2, by simp, by omega, by omega, by omega, HO2, HF2, HS3⟩
          | false =>
            simp only [Bool.false_eq_true, if_false] at hS
            by_cases h32 : c.toNat < 32
            · rw [if_pos h32] at hS
              have HS3 := Lib.hid hS
              clear hS HS2
              obtain ⟨q1, hq1⟩ : ∃ q1, c.toNat / 16 = q1 := ⟨_, rfl⟩
              obtain ⟨q2, hq2⟩ : ∃ q2, c.toNat % 16 = q2 := ⟨_, rfl⟩
              have hq3 : q1 < 16 := by omega
              have hq4 : q2 < 16 := by omega
              have hw1 : (c.toNat : Int) / 16 = (q1 : Int) := by omega
              have hw2 : (c.toNat : Int).tmod 16 = (q2 : Int) := by rw [← hq2]; rfl
              have hw3 : IntKind.u8.wrap (q1 : Int) = q1 := by simp [IntKind.wrap, IntKind.signed, IntKind.bits]; omega
              have hw4 : IntKind.u8.wrap (q2 : Int) = q2 := by simp [IntKind.wrap, IntKind.signed, IntKind.bits]; omega
              have hw5 : (q1 : Int) < 16 := by omega
              have hw6 : (q2 : Int) < 16 := by omega
              rw [hq1, hq2] at HS3
              have hb1 := figs_at hq3
              have hb2 := figs_at hq4
              generalize fig q1 = x1 at *
              generalize fig q2 = x2 at *
              clear hq1 hq2
              go_wp2_with fail
              go_region_law (refine step_append_many rfl (.tmp 44) (.tmp 53) 28 rfl w.heap.size 5 i0 (.int .u8 0) 1 1 Tryz.underlying28 hi0 hz0 hz1 hz2 rfl (by decide) u6 out2.length (Lib.byteCells out2) rfl (by exact HO2.out.alloc _) ⟨wr.heap.size, 0, none⟩ 6 6 [.int .u8 92, .int .u8 117, .int .u8 48, .int .u8 48, .int .u8 x1.toNat, .int .u8 x2.toNat] rfl rfl (by exact cells_at wr _ _ _ rfl) (by simp [Value.oneCell']) (by unfold maxLen; omega) (by omega) (by simp; omega) ?_; intro v' w2 hown' hgrow)
              all_goals
                obtain ⟨hO3, hF3⟩ := HO2.out.push (news := [92, 117, 48, 48, x1, x2]) ((Fr.refl.alloc _).drew) hown' hgrow
                have HO3 := Lib.hid hO3
                have HF3 := Lib.hid (HF2.out.trans hF3 (fun _ _ h => .inr h))
                clear hown' hgrow hO3 hF3
                go_wp2_with fail
                go_roundg (s.length - i)
                case measure => omega
                case rel => exact ⟨i + 1, out2 ++ [92, 117, 48, 48, x1, x2], by simp, by omega, by omega, by simp; omega, HO3, HF3, HS3⟩
            · rw [if_neg h32] at hS
              have HS3 := Lib.hid hS
              have hge32 : decide ((c.toNat : Int) ≥ 32) = true := by rw [decide_eq_true_eq]; omega
              clear hS HS2
              go_wp2_with (at_builtin; refine wpList_append_own _ rfl _ _ 28 rfl w.heap.size 5 i0 (.int .u8 0) 1 1 Tryz.underlying28 hi0 hz0 hz1 hz2 rfl (by decide) _ _ _ rfl (HO2.out.alloc _) ⟨_, 0, none⟩ 1 1 [.int .u8 c.toNat] rfl rfl ?c1 ?c2 ?c3 ?c4 ?c5 ?_)
              case c1 => exact cells_at _ _ _ _ rfl
              case c2 => simp [Value.oneCell']
              case c3 => unfold maxLen; omega
              case c4 => omega
              case c5 => simp; omega
              intro v' w2 hown' hgrow _
              obtain ⟨hO3, hF3⟩ := HO2.out.push (news := [c]) (Fr.refl.alloc _) hown' hgrow
              have HO3 := Lib.hid hO3
              have HF3 := Lib.hid (HF2.out.trans hF3 (fun _ _ h => .inr h))
              clear hown' hgrow hO3 hF3
              go_wp2_with fail
              go_roundg (s.length - i)
              case measure => omega
              case rel => exact ⟨i + 1, out2 ++ [c], by simp, by omega, by omega, by simp; omega, HO3, HF3, HS3⟩
    · obtain rfl : i = s.length := by omega
      have hS := HS.out
      simp only [List.drop_length, pEscs, List.append_nil] at hS
      have HS2 := Lib.hid hS
      have hwB := HF.out.size
      clear hS HS
      go_wp2_with (at_builtin; refine wpList_append_own _ rfl _ _ 28 rfl w.heap.size 5 i0 (.int .u8 0) 1 1 Tryz.underlying28 hi0 hz0 hz1 hz2 rfl (by decide) _ _ _ rfl (HO.out.alloc _) ⟨_, 0, none⟩ 1 1 [.int .u8 34] rfl rfl ?c1 ?c2 ?c3 ?c4 ?c5 ?_)
      case c1 => exact cells_at _ _ _ _ rfl
      case c2 => simp [Value.oneCell']
      case c3 => unfold maxLen; omega
      case c4 => omega
      case c5 => simp; omega
      intro v' w2 hown' hgrow _
      obtain ⟨hO3, hF3⟩ := HO.out.push (news := [34]) (Fr.refl.alloc _) hown' hgrow
      have htx := hO3.sb.text
      rw [HS2.out] at htx
      have HF3 := Lib.hid (HF.out.trans hF3 (fun _ _ h => .inr h))
      clear hown' hgrow hO3 hF3
      go_wp2_with fail
      go_ret
      exact ⟨rfl, HF3.out⟩
end Go.Proofs.YtbfmpbhikipipaaGreatDoor
