/-
  The walk of insertionSortCmpFunc at pairs.
-/
import Derived.Test.YtbfmpbhikipipaaGreatDoorKPairs
import Derived.Deep.LoopGhost
import Derived.Deep.RegionWith
import Derived.BigQuiet
import Derived.BigRegion
import Derived.Test.YtbfmpbhikipipaaGreatDoorKCanon1
import Derived.StillTailTactics
namespace Go.Proofs.YtbfmpbhikipipaaGreatDoor
set_option linter.unusedVariables false
set_option linter.unusedSimpArgs false
set_option linter.unusedSectionVars false
open Go.RowKit

def MBk (b : Nat) : Nat → Obj → Prop := fun k _ => k = b
theorem PRow.two {b o k : Nat} {L1 L2 : List PV} {y x : PV} {w : World} (h : PRow b o (L1 ++ y :: x :: L2) w) (hk : L1.length = k) :
    (w.cell? ⟨b, o + k * 6, none⟩ = some (.string ⟨y.nm.toArray⟩) ∧ w.cell? ⟨b, o + k * 6 + 1, none⟩ = some (.int .i64 y.k) ∧ w.cell? ⟨b, o + k * 6 + 2, none⟩ = some (.int .i64 y.n) ∧
      w.cell? ⟨b, o + k * 6 + 3, none⟩ = some (.string ⟨y.t.toArray⟩) ∧ w.cell? ⟨b, o + k * 6 + 4, none⟩ = some (.slice y.a1 y.n1 y.c1) ∧ w.cell? ⟨b, o + k * 6 + 5, none⟩ = some (.slice y.a2 y.n2 y.c2)) ∧
    (w.cell? ⟨b, o + (k + 1) * 6, none⟩ = some (.string ⟨x.nm.toArray⟩) ∧ w.cell? ⟨b, o + (k + 1) * 6 + 1, none⟩ = some (.int .i64 x.k) ∧ w.cell? ⟨b, o + (k + 1) * 6 + 2, none⟩ = some (.int .i64 x.n) ∧
      w.cell? ⟨b, o + (k + 1) * 6 + 3, none⟩ = some (.string ⟨x.t.toArray⟩) ∧ w.cell? ⟨b, o + (k + 1) * 6 + 4, none⟩ = some (.slice x.a1 x.n1 x.c1) ∧ w.cell? ⟨b, o + (k + 1) * 6 + 5, none⟩ = some (.slice x.a2 x.n2 x.c2)) := by
  refine ⟨h.at (i := k) (p := y) ?_, h.at (i := k + 1) (p := x) ?_⟩
  · subst hk; simp
  · subst hk; simp

theorem PRow.swap {b o k : Nat} {L1 L2 : List PV} {y x : PV} {W : World} (h : PRow b o (L1 ++ y :: x :: L2) W) (hk : L1.length = k) :
    PRow b o (L1 ++ x :: y :: L2) (put6 b (o + k * 6) (.string ⟨x.nm.toArray⟩) (.int .i64 x.k) (.int .i64 x.n) (.string ⟨x.t.toArray⟩) (.slice x.a1 x.n1 x.c1) (.slice x.a2 x.n2 x.c2)
      (put6 b (o + (k + 1) * 6) (.string ⟨y.nm.toArray⟩) (.int .i64 y.k) (.int .i64 y.n) (.string ⟨y.t.toArray⟩) (.slice y.a1 y.n1 y.c1) (.slice y.a2 y.n2 y.c2) W)) := by
  subst hk
  have h1 : PRow b o ((L1 ++ [y]) ++ x :: L2) W := by simpa using h
  have h2 := h1.put y
  have e0 : (L1 ++ [y]) ++ y :: L2 = L1 ++ y :: (y :: L2) := by simp
  have e : (L1 ++ [y]).length = L1.length + 1 := by simp
  rw [e0, e] at h2
  exact h2.put x
theorem PRow.drew {b o : Nat} {l : List PV} {w : World} (h : PRow b o l w) : PRow b o l w.drew := by
  obtain ⟨pre, post, h, ho⟩ := h
  exact ⟨pre, post, h, ho⟩

set_option maxRecDepth 100000 in
set_option maxHeartbeats 2000000 in
theorem insert_c (b o c n a bb : Nat) (front seg back : List PV) (w : World) (h : PRow b o (front ++ (seg ++ back)) w) (ha : front.length = a) (hbb : a + seg.length = bb) (hn : bb + back.length = n) (hn' : n ≤ 67108864) :
    Calls Tryz.prog 105 #[.slice (some ⟨b, o, none⟩) n c, .int .i64 a, .int .i64 bb, .func (.func 58) #[] #[]] w fun e w' =>
      e = .returned (.tuple #[]) ∧ PRow b o (front ++ (isort PV.nm seg ++ back)) w' ∧ Fr (MBk b) w w' := by
  unfold isort
  generalize hG : (isortR PV.nm [] seg).reverse = G
  have HG := Lib.hid hG
  clear hG
  cases seg with
  | nil =>
    have hab : ¬ (a : Int) + 1 < bb := by simp at hbb; omega
    go_enter Tryz.func105, Tryz.ntmps105
    go_wp2_with fail
    go_loopg [8] 0 (fun g vi wr => vi = .int .i64 ((a : Int) + 1) ∧ wr = w)
    case atStart => exact ⟨rfl, rfl⟩
    case round =>
      obtain ⟨rfl, rfl⟩ := hrel
      go_wp2_with fail
      go_end0
      have := HG.out
      simp [isortR] at this
      subst this
      exact ⟨rfl, h, Fr.refl⟩
  | cons x0 seg =>
    go_enter Tryz.func105, Tryz.ntmps105
    go_wp2_with fail
    go_loopg [8] (seg.length + 1) (fun g vi wr => ∃ (i : Nat) (acc rest : List PV), vi = .int .i64 i ∧ i = a + acc.length ∧ i + rest.length = bb ∧ g = rest.length + 1 ∧ 1 ≤ acc.length ∧
      PRow b o (front ++ (acc.reverse ++ (rest ++ back))) wr ∧ Fr (MBk b) w wr ∧ Hid ((isortR PV.nm acc rest).reverse = G))
    case atStart => exact ⟨a + 1, [x0], seg, by simp, by simp, by simp at hbb; omega, rfl, by simp, by simpa using h, Fr.refl, HG⟩
    case round =>
      obtain ⟨i, acc, rest, rfl, hi, hir, hg, hacc, hPR, hF, hS⟩ := hrel
      cases rest with
      | nil =>
        have hib : i = bb := by simpa using hir
        go_wp2_with fail
        go_end0
        have hR := hS.out
        simp [isortR] at hR
        subst hR
        exact ⟨rfl, by simpa using hPR, hF⟩
      | cons x rest =>
        have hib : i < bb := by simp at hir; omega
        have HI := Lib.hid hi
        clear hi
        have hS2 := hS.out
        rw [isortR] at hS2
        have HS2 := Lib.hid hS2
        clear hS hS2 HG
        have hPR0 : PRow b o (front ++ (acc.reverse ++ (x :: (rest ++ back)))) wr := by simpa using hPR
        clear hPR
        go_wp2_with fail
        generalize hG2 : (insR PV.nm x acc).reverse ++ (rest ++ back) = G2 at *
        have HG2 := Lib.hid hG2
        go_loopg [9] (acc.length + 1) (fun g vj wq => ∃ (j : Nat) (pre tail : List PV), vj = .int .i64 j ∧ j = a + pre.length ∧ g = pre.length + 1 ∧ j + tail.length + 1 = n ∧
          PRow b o (front ++ (pre.reverse ++ x :: tail)) wq ∧ Fr (MBk b) w wq ∧ Hid ((insR PV.nm x pre).reverse ++ tail = G2))
        case atStart => exact ⟨i, acc, rest ++ back, rfl, HI.out, rfl, by simp at hir ⊢; omega, hPR0, hF, HG2⟩
        case round =>
          obtain ⟨j, pre, tail, rfl, hj, hgk2, hjt, hPR, hFq, hS⟩ := hrel
          cases pre with
          | nil =>
            have hja : decide (a < j) = false := by rw [decide_eq_false_iff_not]; simp at hj; omega
            have Hj := Lib.hid hj
            clear hj
            go_wp2_with fail
            go_quiet (fail)
            go_wp2_with fail
            go_roundg (rest.length + 1)
            case measure => simp at hg; omega
            case rel =>
              refine ⟨i + 1, insR PV.nm x acc, rest, by simp, by rw [insR_length]; have := HI.out; omega, by simp at hir; omega, rfl, by rw [insR_length]; omega, ?_, hFq.trans' ((drewN_fr _ nq).mono (fun _ _ h => h.elim)), HS2⟩
              have h2 := hPR.fr (drewN_fr _ nq) (fun _ _ h => h)
              have e1 := hS.out
              simp [insR] at e1
              rw [hG2, ← e1]
              simpa using h2
          | cons y pre =>
            obtain ⟨k, rfl, hk⟩ : ∃ k, j = k + 1 ∧ k = a + pre.length := ⟨a + pre.length, by simp at hj; omega, rfl⟩
            have Hk := Lib.hid hk
            clear hj hk
            have hPR2 : PRow b o ((front ++ pre.reverse) ++ y :: x :: tail) wr := by simpa using hPR
            have hL : (front ++ pre.reverse).length = k := by have := Hk.out; simp; omega
            obtain ⟨⟨y0, y1, y2, y3, y4, y5⟩, x0, x1, x2, x3, x4, x5⟩ := hPR2.two hL
            have HL := Lib.hid hL
            clear hL
            have fz := hPR2.open
            have ep : ((k + 1 : Nat) : Int) = (k : Int) + 1 := by omega
            rw [ep]
            have e1 : decide ((a : Int) < (k : Int) + 1) = true := by rw [decide_eq_true_eq]; have := Hk.out; omega
            have e2 : k + 1 < n := by omega
            have e4 : (0 : Int) ≤ (k : Int) + 1 := by omega
            have e5 : k < n := by omega
            have e6 : IntKind.i64.wrap (k : Int) = k := by rw [IntKind.wrap_i64]; omega
            have e3 : (k : Int) + 1 < n := by omega
            clear hPR ep
            have hS2 := hS.out
            unfold insR at hS2
            cases hc : Op.bytesLess x.nm y.nm with
            | true =>
              rw [hc, if_pos rfl] at hS2
              have HS2 := Lib.hid hS2
              have HPR2 := Lib.hid hPR2
              have Hc := Lib.hid hc
              have hcb : cmpB x.nm y.nm < 0 := by unfold cmpB; rw [hc, if_pos rfl]; decide
              clear hS2 hS hPR2 hc
              go_wp2_with fail
              go_still_tail 14, (by kernel_rfl)
              change wpList _ _ _ _ _ wr.drew
              go_wp2_with fail
              refine (byName_c x.nm y.nm _ _ _ _ _ _ _ _ _ _ _).mono ?_
              rintro e w' ⟨rfl, rfl⟩
              go_wp2_with fail
              have hPR3 := HPR2.out.alloc (.cells #[.string ⟨x.nm.toArray⟩, .int .i64 x.k, .int .i64 x.n, .string ⟨x.t.toArray⟩, .slice x.a1 x.n1 x.c1, .slice x.a2 x.n2 x.c2] 62) |>.alloc (.cells #[.string ⟨y.nm.toArray⟩, .int .i64 y.k, .int .i64 y.n, .string ⟨y.t.toArray⟩, .slice y.a1 y.n1 y.c1, .slice y.a2 y.n2 y.c2] 62)
              have hF3 := (hFq.alloc (.cells #[.string ⟨x.nm.toArray⟩, .int .i64 x.k, .int .i64 x.n, .string ⟨x.t.toArray⟩, .slice x.a1 x.n1 x.c1, .slice x.a2 x.n2 x.c2] 62)).alloc (.cells #[.string ⟨y.nm.toArray⟩, .int .i64 y.k, .int .i64 y.n, .string ⟨y.t.toArray⟩, .slice y.a1 y.n1 y.c1, .slice y.a2 y.n2 y.c2] 62)
              obtain ⟨W, hW⟩ : ∃ W, ((wr.alloc (.cells #[.string ⟨x.nm.toArray⟩, .int .i64 x.k, .int .i64 x.n, .string ⟨x.t.toArray⟩, .slice x.a1 x.n1 x.c1, .slice x.a2 x.n2 x.c2] 62)).alloc (.cells #[.string ⟨y.nm.toArray⟩, .int .i64 y.k, .int .i64 y.n, .string ⟨y.t.toArray⟩, .slice y.a1 y.n1 y.c1, .slice y.a2 y.n2 y.c2] 62)) = W := ⟨_, rfl⟩
              rw [hW] at hPR3 hF3 ⊢
              clear hW
              clear y0 y1 y2 y3 y4 y5 x0 x1 x2 x3 x4 x5 fz
              obtain ⟨⟨y0, y1, y2, y3, y4, y5⟩, x0, x1, x2, x3, x4, x5⟩ := hPR3.two HL.out
              have fz := hPR3.open
              have HPR3 := Lib.hid hPR3
              have HF3 := Lib.hid hF3
              clear hPR3 hF3 HPR2 hFq
              go_region
              go_wp2_with fail
              go_roundg (pre.length + 1)
              case measure => simp at hgk2; omega
              case rel =>
                refine ⟨k, pre, y :: tail, rfl, Hk.out, rfl, by simp; omega, ?_, ?_, ?_⟩
                · have h1 := HPR3.out.swap HL.out
                  have h2 := (h1.fr (drewN_fr _ 1) (fun _ _ h => h)).fr (drewN_fr _ 1) (fun _ _ h => h)
                  rw [List.append_assoc] at h2
                  exact h2
                · exact (((HF3.out.put6 b _ _ _ _ _ _ _ (fun _ _ => rfl)).put6 b _ _ _ _ _ _ _ (fun _ _ => rfl)).drew).drew
                · have := HS2.out
                  simpa using Lib.hid this
            | false =>
              rw [hc, if_neg (by simp)] at hS2
              have HS3 := Lib.hid hS2
              have HPR2 := Lib.hid hPR2
              have hcb : ¬ cmpB x.nm y.nm < 0 := by unfold cmpB; rw [hc, if_neg (by simp)]; split <;> decide
              clear hS2 hS hPR2 hc
              go_wp2_with fail
              go_still_tail 14, (by kernel_rfl)
              change wpList _ _ _ _ _ wr.drew
              go_wp2_with fail
              refine (byName_c x.nm y.nm _ _ _ _ _ _ _ _ _ _ _).mono ?_
              rintro e w' ⟨rfl, rfl⟩
              go_wp2_with fail
              have hPR3 := HPR2.out.alloc (.cells #[.string ⟨x.nm.toArray⟩, .int .i64 x.k, .int .i64 x.n, .string ⟨x.t.toArray⟩, .slice x.a1 x.n1 x.c1, .slice x.a2 x.n2 x.c2] 62) |>.alloc (.cells #[.string ⟨y.nm.toArray⟩, .int .i64 y.k, .int .i64 y.n, .string ⟨y.t.toArray⟩, .slice y.a1 y.n1 y.c1, .slice y.a2 y.n2 y.c2] 62)
              have hF3 := (hFq.alloc (.cells #[.string ⟨x.nm.toArray⟩, .int .i64 x.k, .int .i64 x.n, .string ⟨x.t.toArray⟩, .slice x.a1 x.n1 x.c1, .slice x.a2 x.n2 x.c2] 62)).alloc (.cells #[.string ⟨y.nm.toArray⟩, .int .i64 y.k, .int .i64 y.n, .string ⟨y.t.toArray⟩, .slice y.a1 y.n1 y.c1, .slice y.a2 y.n2 y.c2] 62)
              go_roundg (rest.length + 1)
              case measure => simp at hg; omega
              case rel =>
                refine ⟨i + 1, insR PV.nm x acc, rest, by simp, by rw [insR_length]; have := HI.out; omega, by simp at hir; omega, rfl, by rw [insR_length]; omega, ?_, hF3.drew, HS2⟩
                have h2 := hPR3.drew
                have e1 := HS3.out
                rw [hG2]
                rw [← e1]
                simpa using h2
end Go.Proofs.YtbfmpbhikipipaaGreatDoor
namespace Go.Proofs.YtbfmpbhikipipaaGreatDoor
set_option linter.unusedVariables false
set_option linter.unusedSimpArgs false
set_option linter.unusedSectionVars false
open Go.RowKit

/-- what SortStableFunc does to rows of at most N pairs -/
def SortOk (N : Nat) : Prop := ∀ (b o c : Nat) (l : List PV) (w : World), PRow b o l w → l.length ≤ N →
  Calls Tryz.prog 57 #[.slice (some ⟨b, o, none⟩) l.length c, .func (.func 58) #[] #[]] w fun e w' => e = .returned (.tuple #[]) ∧ PRow b o (isort PV.nm l) w' ∧ Fr (MBk b) w w'

set_option maxRecDepth 100000 in
set_option maxHeartbeats 1000000 in
theorem insert_none (v : Value) (w : World) :
    Calls Tryz.prog 105 #[v, .int .i64 0, .int .i64 0, .func (.func 58) #[] #[]] w fun e w' => e = .returned (.tuple #[]) ∧ w' = w := by
  go_enter Tryz.func105, Tryz.ntmps105
  go_wp2_with fail
  go_loopg [8] 0 (fun g vi wr => vi = .int .i64 1 ∧ wr = w)
  case atStart => exact ⟨rfl, rfl⟩
  case round =>
    obtain ⟨rfl, rfl⟩ := hrel
    go_wp2_with fail
    go_end0
    exact ⟨rfl, rfl⟩

set_option maxRecDepth 100000 in
set_option maxHeartbeats 1000000 in
theorem stable_small (b o c n : Nat) (l : List PV) (w : World) (h : PRow b o l w) (hl : l.length = n) (hn : n ≤ 19) :
    Calls Tryz.prog 84 #[.slice (some ⟨b, o, none⟩) n c, .int .i64 n, .func (.func 58) #[] #[]] w fun e w' => e = .returned (.tuple #[]) ∧ PRow b o (isort PV.nm l) w' ∧ Fr (MBk b) w w' := by
  have h1 : ¬ (20 : Int) ≤ n := by omega
  have h2 : ¬ (20 : Int) < n := by omega
  go_enter Tryz.func84, Tryz.ntmps84
  go_wp2_with fail
  go_loopg [7, 8] 0 (fun g va vb wr => va = .int .i64 0 ∧ vb = .int .i64 20 ∧ wr = w)
  case atStart => exact ⟨rfl, rfl, rfl⟩
  case round =>
    obtain ⟨rfl, rfl, rfl⟩ := hrel
    go_wp2_with fail
    have hins := insert_c b o c n 0 n [] l [] wr (by simpa using h) rfl (by omega) (by simp) (by omega)
    refine hins.mono ?_
    rintro e w1 ⟨rfl, hP, hF⟩
    go_wp2_with fail
    go_loopg [6, 7, 8] 0 (fun g va vb vc wr => va = .int .i64 20 ∧ wr = w1)
    case atStart => exact ⟨rfl, rfl⟩
    case round =>
      obtain ⟨rfl, rfl⟩ := hrel
      go_wp2_with fail
      go_end0
      exact ⟨rfl, by simpa using hP, hF⟩
set_option maxRecDepth 100000 in
set_option maxHeartbeats 1000000 in
theorem sort_small : SortOk 19 := by
  intro b o c l w h hl
  go_enter Tryz.func57, Tryz.ntmps57
  go_wp2_with fail
  refine (stable_small b o c l.length l w h rfl hl).mono ?_
  rintro e w1 ⟨rfl, hP, hF⟩
  go_wp2_with fail
  go_end0
  exact ⟨rfl, hP, hF⟩
set_option maxRecDepth 100000 in
set_option maxHeartbeats 1000000 in
theorem stable_none (v : Value) (w : World) :
    Calls Tryz.prog 84 #[v, .int .i64 0, .func (.func 58) #[] #[]] w fun e w' => e = .returned (.tuple #[]) ∧ w' = w := by
  go_enter Tryz.func84, Tryz.ntmps84
  go_wp2_with fail
  go_loopg [7, 8] 0 (fun g va vb wr => va = .int .i64 0 ∧ vb = .int .i64 20 ∧ wr = w)
  case atStart => exact ⟨rfl, rfl, rfl⟩
  case round =>
    obtain ⟨rfl, rfl, rfl⟩ := hrel
    go_wp2_with fail
    refine (insert_none v wr).mono ?_
    rintro e w1 ⟨rfl, rfl⟩
    go_wp2_with fail
    go_loopg [6, 7, 8] 0 (fun g va vb vc wr => va = .int .i64 20 ∧ wr = w1)
    case atStart => exact ⟨rfl, rfl⟩
    case round =>
      obtain ⟨rfl, rfl⟩ := hrel
      go_wp2_with fail
      go_end0
      exact ⟨rfl, rfl⟩
set_option maxRecDepth 100000 in
set_option maxHeartbeats 1000000 in
theorem sort_none (a : Option Addr) (c : Nat) (w : World) :
    Calls Tryz.prog 57 #[.slice a 0 c, .func (.func 58) #[] #[]] w fun e w' => e = .returned (.tuple #[]) ∧ w' = w := by
  go_enter Tryz.func57, Tryz.ntmps57
  go_wp2_with fail
  refine (stable_none _ w).mono ?_
  rintro e w1 ⟨rfl, rfl⟩
  go_wp2_with fail
  go_end0
  exact ⟨rfl, rfl⟩
end Go.Proofs.YtbfmpbhikipipaaGreatDoor
