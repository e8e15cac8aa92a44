/-
  The walk of the reference's number; errors as numbers; the same bytes.
-/
import Derived.Test.YtbfmpbhikipipaaGreatDoorKBytes
import Derived.Test.YtbfmpbhikipipaaGreatDoorKSpecWrite
import Derived.Test.YtbfmpbhikipipaaGreatDoorKParse
import Derived.Test.YtbfmpbhikipipaaGreatDoorKStable
import Derived.Test.YtbfmpbhikipipaaGreatDoorKSorted2
namespace Go.Proofs.YtbfmpbhikipipaaGreatDoor
set_option linter.unusedVariables false
set_option linter.unusedSimpArgs false
set_option linter.unusedSectionVars false
open Go.RowKit
variable [OldK]

theorem dig_at {k : Nat} (hk : k < 10) : (ByteArray.mk #[48, 49, 50, 51, 52, 53, 54, 55, 56, 57]).extract k (k + 1) = ⟨#[UInt8.ofNat (48 + k)]⟩ := by
  have : k = 0 ∨ k = 1 ∨ k = 2 ∨ k = 3 ∨ k = 4 ∨ k = 5 ∨ k = 6 ∨ k = 7 ∨ k = 8 ∨ k = 9 := by omega
  rcases this with rfl | rfl | rfl | rfl | rfl | rfl | rfl | rfl | rfl | rfl <;> rfl
theorem dec_len : ∀ (f u : Nat), u < 10 ^ f → 1 ≤ f → (Lib.decDigits u).length ≤ f := by
  intro f
  induction f with
  | zero => intro u _ h; omega
  | succ f ih =>
    intro u h _
    by_cases hu : u < 10
    · rw [Lib.decDigits, dif_pos hu]; simp
    · rw [Lib.decDigits, dif_neg hu, List.length_append]
      have h1 : 1 ≤ f := by
        rcases Nat.eq_zero_or_pos f with rfl | h'
        · simp at h; omega
        · exact h'
      have := ih (u / 10) (by rw [Nat.pow_succ] at h; omega) h1
      simp; omega
theorem str_append (a b : Bs) : (ByteArray.mk a.toArray) ++ (ByteArray.mk b.toArray) = ⟨(a ++ b).toArray⟩ := by
  apply ByteArray.ext
  simp
set_option maxRecDepth 100000 in
set_option maxHeartbeats 1000000 in
theorem refNumber_pos : ∀ (f : Nat) (n : Int) (w : World), 0 ≤ n → n < f → n ≤ 9007199254740991 →
    Calls Tryz.prog 42 #[.int .i64 n] w fun e w' => e = .returned (.string ⟨(Lib.decDigits n.toNat).toArray⟩) ∧ w = w' := by
  intro f
  induction f with
  | zero => intro n w h0 h1; omega
  | succ f ih =>
    intro n w h0 h1 h2
    obtain ⟨k, rfl⟩ := Int.eq_ofNat_of_zero_le h0
    rw [Int.toNat_natCast]
    by_cases h10 : k < 10
    · have e : Lib.decDigits k = [UInt8.ofNat (48 + k)] := by rw [Lib.decDigits, dif_pos h10]
      rw [e]
      have hd := Lib.hid (dig_at h10)
      have h11 : (k : Int) < 10 := by omega
      generalize [UInt8.ofNat (48 + k)] = X at *
      clear ih e
      go_enter Tryz.func42, Tryz.ntmps42
      go_wp2_with fail
      go_ret
      exact ⟨ret_str hd.out, rfl⟩
    · have e : Lib.decDigits k = Lib.decDigits (k / 10) ++ [UInt8.ofNat (48 + k % 10)] := by rw [Lib.decDigits, dif_neg h10]
      have e2 : Lib.decDigits (k % 10) = [UInt8.ofNat (48 + k % 10)] := by rw [Lib.decDigits, dif_pos (by omega)]
      rw [e, ← e2]
      have h11 : 10 ≤ (k : Int) := by omega
      have i1 := fun w => ih ((k : Int) / 10) w (by omega) (by omega) (by omega)
      have i2 := fun w => ih ((k : Int) % 10) w (by omega) (by omega) (by omega)
      rw [show ((k : Int) / 10).toNat = k / 10 by omega] at i1
      rw [show ((k : Int) % 10).toNat = k % 10 by omega] at i2
      have l1 := dec_len 16 (k / 10) (by omega) (by omega)
      have l2 := dec_len 16 (k % 10) (by omega) (by omega)
      generalize Lib.decDigits (k / 10) = X1 at *
      generalize Lib.decDigits (k % 10) = X2 at *
      have I1 := Lib.hid i1
      have I2 := Lib.hid i2
      clear e e2 i1 i2 ih
      go_enter Tryz.func42, Tryz.ntmps42
      go_wp2_with fail
      refine (I1.out _).mono ?_
      rintro e w1 ⟨rfl, rfl⟩
      go_wp2_with fail
      refine (I2.out _).mono ?_
      rintro e w1 ⟨rfl, rfl⟩
      go_wp2_with fail
      go_ret
      exact ⟨ret_str (str_append _ _), rfl⟩
set_option maxRecDepth 100000 in
set_option maxHeartbeats 1000000 in
theorem refNumber_c (n : Int) (w : World) (h1 : -9007199254740991 ≤ n) (h2 : n ≤ 9007199254740991) :
    Calls Tryz.prog 42 #[.int .i64 n] w fun e w' => e = .returned (.string ⟨(Lib.itoa n).toArray⟩) ∧ w = w' := by
  unfold Lib.itoa
  by_cases hn : n < 0
  · rw [if_pos hn]
    have i1 := fun w => refNumber_pos 9007199254740992 (-n) w (by omega) (by omega) (by omega)
    rw [show (-n).toNat = n.natAbs by omega] at i1
    have l1 := dec_len 16 n.natAbs (by omega) (by omega)
    generalize Lib.decDigits n.natAbs = X1 at *
    have I1 := Lib.hid i1
    clear i1
    have hm : 0 ≤ -n := by omega
    go_enter Tryz.func42, Tryz.ntmps42
    go_wp2_with fail
    refine (I1.out _).mono ?_
    rintro e w1 ⟨rfl, rfl⟩
    go_wp2_with fail
    go_ret
    exact ⟨ret_str (str_append [45] _), rfl⟩
  · rw [if_neg hn]
    exact refNumber_pos 9007199254740992 n w (by omega) (by omega) h2
set_option maxHeartbeats 400000 in
theorem same_c (S S' : Nat → Prop) (l m : Bs) (v u : Value) (w : World) (hv : SB S l v w) (hu : SB S' m u w) :
    Calls Tryz.prog 11 #[v, u] w fun e w' => e = .returned (.bool (l == m)) ∧ w = w' := by
  have h1 := hv.text
  have h2 := hu.text
  clear hv hu
  go_enter Tryz.func11, Tryz.ntmps11
  go_wp2_with fail
  go_ret
  exact ⟨ret_bool (by simp), rfl⟩
end Go.Proofs.YtbfmpbhikipipaaGreatDoor
namespace Go.Proofs.YtbfmpbhikipipaaGreatDoor
set_option linter.unusedVariables false
set_option linter.unusedSimpArgs false
set_option linter.unusedSectionVars false
open Go.RowKit
variable [OldK]

theorem cellsP_one : ∀ (l : List PV) (u : Value), u ∈ cellsP l → u.oneCell' = true := by
  intro l
  induction l with
  | nil => intro u h; simp [cellsP] at h
  | cons p l ih =>
    intro u h
    rw [cellsP, List.mem_append] at h
    rcases h with h | h
    · simp only [PV.cells, List.mem_cons, List.not_mem_nil, or_false] at h
      rcases h with rfl | rfl | rfl | rfl | rfl | rfl
      all_goals simp [Value.oneCell']
    · exact ih u h
set_option maxRecDepth 100000 in
set_option maxHeartbeats 2000000 in
theorem refPairs_c (S : Nat → Prop) (p : List (Bs × J)) (a : Option Addr) (c : Nat) (w : World) (h : RowP S w p a) (hp : p.length ≤ 67108864) :
    Calls Tryz.prog 44 #[.slice a p.length c] w fun e w' => ∃ a' c', e = .returned (.slice a' p.length c') ∧ RowP (fun k => S k ∨ w.heap.size ≤ k) w' (isort (fun q : Bs × J => q.1) p) a' ∧ Fr NoB w w' := by
  obtain ⟨i0, hi0, hz0, hz1, hz2⟩ := info_parts Tryz.infoP
  cases p with
  | nil =>
    have hF1 : Fr NoB w (w.alloc (.cells #[] 62)) := Fr.refl.alloc _
    cases a with
    | none =>
      go_enter Tryz.func44, Tryz.ntmps44
      go_wp2_with fail
      go_loopg [4] 0 (fun gg vi wr => vi = .int .i64 1 ∧ Fr NoB w wr)
      case atStart => exact ⟨rfl, hF1⟩
      case round =>
        obtain ⟨rfl, hFw⟩ := hrel
        go_wp2_with fail
        go_ret
        exact ⟨_, _, rfl, .inl rfl, hFw⟩
    | some ad =>
      have hown0 : (w.alloc (.cells #[] 62)).ownsRow w.heap.size 62 6 (.slice (some ⟨w.heap.size, 0, none⟩) 0 0) 0 [] :=
        ⟨rfl, .inr ⟨_, 0, _, rfl, Nat.le_refl _, heap_alloc_new w _, Nat.le_refl _, Nat.zero_le _, rfl, rfl⟩⟩
      go_enter Tryz.func44, Tryz.ntmps44
      go_wp2_with (at_builtin; refine wpList_append_own _ rfl _ _ 23 rfl w.heap.size 62 i0 (.agg #[.string ⟨#[]⟩, .int .i64 0, .int .i64 0, .string ⟨#[]⟩, .slice none 0 0, .slice none 0 0]) 6 96 Tryz.underlying23 hi0 hz0 hz1 hz2 rfl (by decide) _ _ _ rfl hown0 ad 0 c [] rfl rfl ?c1 ?c2 ?c3 ?c4 ?c5 ?_)
      case c1 => intro j u hu; simp at hu
      case c2 => intro u hu; simp at hu
      case c3 => decide
      case c4 => decide
      case c5 => simp
      intro v' w2 hown hgr hne
      have hF2 : Fr NoB w w2 := hF1.trans (Fr.ofGrown hgr) (fun k o hm => .inr (by
        have : k = w.heap.size := by simpa [Value.ownBlock] using hm
        omega))
      rcases hown.2 with ⟨rfl, h0⟩ | ⟨g, cap, cur, rfl, hBg, hg, hn, hcm, hcs, htake⟩
      · simp at hne
      clear hgr hne hown hg htake hcs hown0 hi0 hz0 hz1 hz2
      go_wp2_with fail
      go_loopg [4] 0 (fun gg vi wr => vi = .int .i64 1 ∧ wr = w2)
      case atStart => exact ⟨rfl, rfl⟩
      case round =>
        obtain ⟨rfl, rfl⟩ := hrel
        go_wp2_with fail
        go_ret
        exact ⟨_, _, rfl, .inl rfl, hF2⟩
  | cons x p =>
    rcases h with h | ⟨b, o, cs, f, rfl, hsb, hb, hr⟩
    · cases h
    obtain ⟨pvs, hpv, ha⟩ := RP.pvs _ _ hr
    have hlen := ha.length
    generalize hP : (x :: p) = P at *
    have hpne : 1 ≤ P.length := by rw [← hP]; simp
    clear hP x p
    rw [hlen] at hp hpne ⊢
    have hown0 : (w.alloc (.cells #[] 62)).ownsRow w.heap.size 62 6 (.slice (some ⟨w.heap.size, 0, none⟩) 0 0) 0 [] :=
      ⟨rfl, .inr ⟨_, 0, _, rfl, Nat.le_refl _, heap_alloc_new w _, Nat.le_refl _, Nat.zero_le _, rfl, rfl⟩⟩
    have hcells : ∀ j u, (cellsP pvs)[j]? = some u → (w.alloc (.cells #[] 62)).cell? ((⟨b, o, none⟩ : Addr).add j) = some u := by
      intro j u hu
      rw [← hpv] at hu
      have e0 : (⟨b, o, none⟩ : Addr).add j = ⟨b, o + j, none⟩ := by simp [Addr.add]
      rw [e0]
      exact cells_of_drop (hb.kpP (Kp.ofFr ((Fr.refl (M := NoB)).alloc (.cells #[] 62))) hsb).2 hu
    go_enter Tryz.func44, Tryz.ntmps44
    go_wp2_with (at_builtin; refine wpList_append_own _ rfl _ _ 23 rfl w.heap.size 62 i0 (.agg #[.string ⟨#[]⟩, .int .i64 0, .int .i64 0, .string ⟨#[]⟩, .slice none 0 0, .slice none 0 0]) 6 96 Tryz.underlying23 hi0 hz0 hz1 hz2 rfl (by decide) _ _ _ rfl hown0 ⟨b, o, none⟩ pvs.length c (cellsP pvs) rfl ?c0 hcells ?c2 ?c3 ?c4 ?c5 ?_)
    case c0 => rw [cellsP_length]; omega
    case c2 => exact cellsP_one pvs
    case c3 => unfold maxLen; omega
    case c4 => omega
    case c5 => simp
    intro v' w2 hown hgr hne
    have hF2 : Fr NoB w w2 := ((Fr.refl (M := NoB)).alloc (.cells #[] 62)).trans (Fr.ofGrown hgr) (fun k o hm => .inr (by
      have : k = w.heap.size := by simpa [Value.ownBlock] using hm
      omega))
    rcases hown.2 with ⟨rfl, h0⟩ | ⟨g, cap, cur, rfl, hBg, hg, hn, hcm, hcs, htake⟩
    · exact absurd rfl hne
    have hPR : PRow g 0 pvs w2 := ⟨[], cur.toList.drop (pvs.length * 6), by rw [hg, List.nil_append, ← htake, List.take_append_drop], rfl⟩
    have ha2 : All2 (PRel (fun k => S k ∧ k < w.heap.size) w2) P pvs := ha.imp (fun q v h => ⟨h.1, RJ.kp (Kp.ofFr hF2) _ _ h.2.lt⟩)
    obtain ⟨G, hG⟩ : ∃ G, isort PV.nm pvs = G := ⟨_, rfl⟩
    have HEnd : Hid (∀ w3, PRow g 0 G w3 → Fr (MBk g) w2 w3 → ∃ a' c', Ending.returned (Value.slice (some ⟨g, 0, none⟩) pvs.length cap) = Ending.returned (.slice a' pvs.length c') ∧ RowP (fun k => S k ∨ w.heap.size ≤ k) w3 (isort (fun q : Bs × J => q.1) P) a' ∧ Fr NoB w w3) := Lib.hid (by
      intro w3 h3 hF3
      refine ⟨_, _, rfl, ?_, hF2.trans hF3 (fun k o hm => .inr (by have : k = g := hm; omega))⟩
      have := sort_row ha2 (fun k hk e => by omega) hF3 (by rw [hG]; exact h3)
      exact this.kp (fun k o hs hb _ => ⟨by rcases hs with h | rfl; exact .inl h.1; exact .inr hBg, hb⟩))
    clear hgr hne hown hg htake hcs hcells hown0 hb hr hpv ha ha2 hlen hF2 hsb hi0 hz0 hz1 hz2
    unfold isort at hG
    have HG := Lib.hid hG
    clear hG
    cases pvs with
    | nil => simp at hpne
    | cons x0 seg =>
    obtain ⟨n, hnn⟩ : ∃ n, (x0 :: seg).length = n := ⟨_, rfl⟩
    have hseg : 1 + seg.length = n := by simp at hnn; omega
    rw [hnn] at hp hpne hn HEnd ⊢
    obtain ⟨og, hog⟩ : ∃ og, og = 0 := ⟨0, rfl⟩
    rw [← hog] at hPR HEnd ⊢
    have Hnn := Lib.hid hnn
    clear hog hnn
    go_wp2_with fail
    go_loopg [4] (seg.length + 1) (fun gg vi wr => ∃ (i : Nat) (acc rest : List PV), vi = .int .i64 i ∧ i = acc.length ∧ i + rest.length = n ∧ gg = rest.length + 1 ∧ 1 ≤ acc.length ∧
      PRow g og (acc.reverse ++ rest) wr ∧ Fr (MBk g) w2 wr ∧ Hid ((isortR PV.nm acc rest).reverse = G))
    case atStart => exact ⟨1, [x0], seg, rfl, rfl, hseg, rfl, by simp, by simpa using hPR, Fr.refl, HG⟩
    case round =>
      obtain ⟨i, acc, rest, rfl, hi, hir, hgg, hacc, hPR, hF, hS⟩ := hrel
      cases rest with
      | nil =>
        have hib : i = n := by simpa using hir
        have Hi := Lib.hid hi
        clear hi
        go_wp2_with fail
        go_ret
        have hR := hS.out
        simp [isortR] at hR
        subst hR
        rw [Hnn.out]
        exact HEnd.out _ (by simpa using hPR) hF
      | cons x rest =>
        have hib : i < n := by simp at hir; omega
        have HI := Lib.hid hi
        clear hi
        have hS2 := hS.out
        rw [isortR] at hS2
        have HS2 := Lib.hid hS2
        clear hS hS2 HG
        go_wp2_with fail
        generalize hG2 : (insR PV.nm x acc).reverse ++ rest = G2 at *
        have HG2 := Lib.hid hG2
        go_loopg [5] (acc.length + 1) (fun gg vj wq => ∃ (j : Nat) (pre tail : List PV), vj = .int .i64 j ∧ j = pre.length ∧ gg = pre.length + 1 ∧ j + tail.length + 1 = n ∧
          PRow g og (pre.reverse ++ x :: tail) wq ∧ Fr (MBk g) w2 wq ∧ Hid ((insR PV.nm x pre).reverse ++ tail = G2))
        case atStart => exact ⟨i, acc, rest, rfl, HI.out, rfl, by simp at hir ⊢; omega, hPR, hF, HG2⟩
        case round =>
          obtain ⟨j, pre, tail, rfl, hj, hgk2, hjt, hPR, hFq, hS⟩ := hrel
          cases pre with
          | nil =>
            simp at hj
            subst hj
            go_wp2_with fail
            go_quiet (fail)
            go_wp2_with fail
            go_roundg (rest.length + 1)
            case measure => simp at hgg; omega
            case rel =>
              refine ⟨i + 1, insR PV.nm x acc, rest, by simp, by rw [insR_length]; have := HI.out; omega, by simp at hir; omega, rfl, by rw [insR_length]; omega, ?_, hFq.trans' ((drewN_fr _ nq).mono (fun _ _ h => h.elim)), HS2⟩
              have h2 := hPR.fr (drewN_fr _ nq) (fun _ _ h => h)
              have e1 := hS.out
              simp [insR] at e1
              rw [hG2, ← e1]
              simpa using h2
          | cons y pre =>
            obtain ⟨k, rfl, hk⟩ : ∃ k, j = k + 1 ∧ k = pre.length := ⟨pre.length, by simp at hj; omega, rfl⟩
            have Hk := Lib.hid hk
            clear hj hk
            have hPR2 : PRow g og (pre.reverse ++ y :: x :: tail) wr := by simpa using hPR
            have hL : pre.reverse.length = k := by have := Hk.out; simp; omega
            obtain ⟨⟨y0, y1, y2, y3, y4, y5⟩, x0', x1, x2, x3, x4, x5⟩ := hPR2.two hL
            have HL := Lib.hid hL
            clear hL
            have fz := hPR2.open
            have ep : ((k + 1 : Nat) : Int) = (k : Int) + 1 := by omega
            rw [ep]
            have e1 : (0 : Int) < (k : Int) + 1 := by omega
            have e2 : k + 1 < n := by omega
            have e4 : (0 : Int) ≤ (k : Int) + 1 := by omega
            have e5 : k < n := by omega
            have e6 : IntKind.i64.wrap (k : Int) = k := by rw [IntKind.wrap_i64]; omega
            have e3 : (k : Int) + 1 < n := by omega
            clear hPR ep
            have hS2 := hS.out
            unfold insR at hS2
            cases hc : Op.bytesLess x.nm y.nm with
            | true =>
              rw [hc, if_pos rfl] at hS2
              have HS2 := Lib.hid hS2
              have HPR2 := Lib.hid hPR2
              clear hS2 hS hPR2
              go_wp2_with fail
              go_quiet (fail)
              go_wp2_with fail
              have hPR3 := HPR2.out.fr (drewN_fr wr nq) (fun _ _ h => h)
              have hF3 := hFq.trans' ((drewN_fr wr nq).mono (M' := MBk g) (fun _ _ h => h.elim))
              obtain ⟨W, hW⟩ : ∃ W, wr.drewN nq = W := ⟨_, rfl⟩
              rw [hW] at hPR3 hF3 ⊢
              clear hW
              clear y0 y1 y2 y3 y4 y5 x0' x1 x2 x3 x4 x5 fz
              obtain ⟨⟨y0, y1, y2, y3, y4, y5⟩, x0', x1, x2, x3, x4, x5⟩ := hPR3.two HL.out
              have fz := hPR3.open
              have HPR3 := Lib.hid hPR3
              have HF3 := Lib.hid hF3
              clear hPR3 hF3 HPR2 hFq
              go_region
              go_wp2_with fail
              go_roundg (pre.length + 1)
              case measure => simp at hgk2; omega
              case rel =>
                refine ⟨k, pre, y :: tail, rfl, Hk.out, rfl, by simp; omega, ?_, ?_, ?_⟩
                · have h1 := HPR3.out.swap HL.out
                  exact h1.fr (drewN_fr _ 1) (fun _ _ h => h)
                · exact (((HF3.out.put6 g _ _ _ _ _ _ _ (fun _ _ => rfl)).put6 g _ _ _ _ _ _ _ (fun _ _ => rfl)).drew)
                · have := HS2.out
                  simpa using Lib.hid this
            | false =>
              rw [hc, if_neg (by simp)] at hS2
              have HS3 := Lib.hid hS2
              have HPR2 := Lib.hid hPR2
              clear hS2 hS hPR2
              go_wp2_with fail
              go_quiet (fail)
              go_wp2_with fail
              go_roundg (rest.length + 1)
              case measure => simp at hgg; omega
              case rel =>
                refine ⟨i + 1, insR PV.nm x acc, rest, by simp, by rw [insR_length]; have := HI.out; omega, by simp at hir; omega, rfl, by rw [insR_length]; omega, ?_, hFq.trans' ((drewN_fr _ nq).mono (fun _ _ h => h.elim)), HS2⟩
                have h2 := HPR2.out.fr (drewN_fr wr nq) (fun _ _ h => h)
                have e1 := HS3.out
                rw [hG2, ← e1]
                simpa using h2
end Go.Proofs.YtbfmpbhikipipaaGreatDoor
