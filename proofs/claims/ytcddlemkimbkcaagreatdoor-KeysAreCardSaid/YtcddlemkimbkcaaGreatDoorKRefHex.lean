/-
  The walk of the reference's Hex.
-/
import Derived.Test.YtcddlemkimbkcaaGreatDoorKOwn
import Derived.Test.YtcddlemkimbkcaaGreatDoorKSpecCode
import Derived.Test.YtcddlemkimbkcaaGreatDoorKHex
import Derived.Test.YtcddlemkimbkcaaGreatDoorKArr
import Derived.OrdersHeld
import Derived.Deep.RegionHeld3
import Derived.Deep.LoopGhost
namespace Go.Proofs.YtcddlemkimbkcaaGreatDoor
set_option linter.unusedVariables false
set_option linter.unusedSimpArgs false
set_option linter.unusedSectionVars false
open Go.RowKit
variable [OldK]
theorem hexes_at {k : Nat} (hk : k < 16) : ∀ h, (ByteArray.mk #[48, 49, 50, 51, 52, 53, 54, 55, 56, 57, 97, 98, 99, 100, 101, 102])[k]'h = sgn hexes k := by
  have : k = 0 ∨ k = 1 ∨ k = 2 ∨ k = 3 ∨ k = 4 ∨ k = 5 ∨ k = 6 ∨ k = 7 ∨ k = 8 ∨ k = 9 ∨ k = 10 ∨ k = 11 ∨ k = 12 ∨ k = 13 ∨ k = 14 ∨ k = 15 := by omega
  rcases this with rfl | rfl | rfl | rfl | rfl | rfl | rfl | rfl | rfl | rfl | rfl | rfl | rfl | rfl | rfl | rfl
  all_goals exact fun _ => rfl
/-- append of some elements, at the operation itself -/
theorem wp_append_many {P : Program} {o : Oper} {a : Act} {w : World} {K : Act → World → Prop} {Q : Exit → Act → World → Prop}
    (s x : Operand) (t : TypeId) (hop : o.op = Op.call { callee := Callee.builtin Builtin.append, args := #[s, x], argTypes := #[t, t] })
    (base : Nat) (e : TypeId) (i : TypeInfo) (z : Value) (size bytes : Nat) (ht : P.underlying t = some (.slice e)) (hi : P.info? e = some i) (hz : i.zero = some z)
    (hsize : i.size = size) (hby : i.bytes = bytes) (hzs : z.cells.size = size) (hsz : 0 < size)
    (v : Value) (n : Nat) (xs : List Value) (hs : a.eval s = v) (hown : w.ownsRow base e size v n xs)
    (ad : Addr) (m c : Nat) (news : List Value) (hx : a.eval x = .slice (some ad) m c) (hl : news.length = m * size) (hnews : ∀ j u, news[j]? = some u → w.cell? (ad.add j) = some u) (h1 : ∀ u ∈ news, u.oneCell' = true)
    (h63 : n + m ≤ maxLen) (hbytes : (n + m) * bytes ≤ 140737488355328) (hbase : base ≤ w.heap.size)
    (hK : ∀ v' w', w'.ownsRow base e size v' (n + m) (xs ++ news) → w.grownBy w' v.ownBlock → K (a.put o.dst v') w') :
    Oper.wp P o a w K Q := by
  obtain ⟨v', w', hr, ho, hgr, _⟩ := run_append_block (P := P) w base t o.type e i z size bytes ht hi hz hsize hby hzs hsz v n xs hown ad m c news hl hnews h1 h63 hbytes hbase
  unfold Oper.wp execOp
  simp only [hop, resolve, invoke, builtin, Sem.run_bind, Sem.run_pure, Result.andThen_ok, List.map_toArray, List.map_cons, List.map_nil, hs, hx, hr]
  exact hK v' w' ho hgr
set_option maxRecDepth 100000 in
set_option maxHeartbeats 2000000 in
theorem refHex_c (S : Nat → Prop) (l : Bs) (v : Value) (w : World) (hv : SB S l v w) (hlen : l.length ≤ 1000000) :
    Calls Tryz.prog 63 #[v] w fun e w' => e = .returned (.string ⟨(hexS l).toArray⟩) ∧ Fr NoB w w' := by
  obtain ⟨a, c, rfl⟩ := hv.form
  obtain ⟨G, hG⟩ : ∃ G, hexS l = G := ⟨_, rfl⟩
  rw [hG]
  have HG : Hid (([] : Bs) ++ hexS (l.drop 0) = G) := Lib.hid (by simpa using hG)
  have Hv := Lib.hid hv
  have hO0 : OB w.heap.size [] (.slice none 0 0) w := ⟨rfl, .inl ⟨rfl, rfl⟩⟩
  have HO0 := Lib.hid hO0
  obtain ⟨i0, hi0, hz0, hz1, hz2⟩ := info_parts Tryz.infoByte
  clear hG hv hO0
  go_enter Tryz.func63, Tryz.ntmps63
  go_wp2_with fail
  go_loopg [4, 5] (l.length + 1) (fun g vo vi wr => ∃ (i : Nat) (out : Bs), vi = .int .i64 i ∧ i ≤ l.length ∧ i + g = l.length + 1 ∧ out.length = 2 * i ∧ Hid (OB w.heap.size out vo wr) ∧ Hid (Fr NoB w wr) ∧ Hid (out ++ hexS (l.drop i) = G))
  case atStart => exact ⟨0, [], rfl, by omega, by omega, rfl, HO0, Lib.hid Fr.refl, HG⟩
  case round =>
    obtain ⟨i, out, rfl, hi, hgk, hol, HO, HF, HS⟩ := hrel
    rcases Nat.lt_or_ge i l.length with hlt | hge
    · obtain ⟨c', hc'⟩ : ∃ c', l[i]? = some c' := ⟨_, List.getElem?_eq_getElem hlt⟩
      have hvw := Hv.out.fr HF.out (fun _ _ _ _ h => h)
      obtain ⟨b, o, cap, hv1, k1⟩ := hvw.at hc'
      obtain ⟨rfl, rfl⟩ : a = some ⟨b, o, none⟩ ∧ c = cap := by simpa using hv1
      obtain ⟨b', o', cap', e1, -, -, hbw, -⟩ := Hv.out.cellsAt (by intro h; rw [h] at hlt; simp at hlt)
      obtain ⟨⟨rfl, rfl⟩, rfl⟩ : (b = b' ∧ o = o') ∧ c = cap' := by simpa using e1
      have hS := HS.out
      rw [drop_at hc', hexS] at hS
      obtain ⟨q1, hq1⟩ : ∃ q1, c'.toNat / 16 = q1 := ⟨_, rfl⟩
      obtain ⟨q2, hq2⟩ : ∃ q2, c'.toNat % 16 = q2 := ⟨_, rfl⟩
      have hc8 : c'.toNat < 256 := c'.toNat_lt
      have hq3 : q1 < 16 := by omega
      have hq4 : q2 < 16 := by omega
      have hw1 : (c'.toNat : Int) / 16 = (q1 : Int) := by omega
      have hw1t : (c'.toNat : Int).tdiv 16 = (q1 : Int) := by rw [← hq1]; rfl
      have hw2 : (c'.toNat : Int).tmod 16 = (q2 : Int) := by rw [← hq2]; rfl
      have hw3 : IntKind.u8.wrap (q1 : Int) = q1 := by simp [IntKind.wrap, IntKind.signed, IntKind.bits]; omega
      have hw4 : IntKind.u8.wrap (q2 : Int) = q2 := by simp [IntKind.wrap, IntKind.signed, IntKind.bits]; omega
      have hw5 : (q1 : Int) < 16 := by omega
      have hw6 : (q2 : Int) < 16 := by omega
      rw [hq1, hq2] at hS
      have hb1 := hexes_at hq3
      have hb2 := hexes_at hq4
      obtain ⟨x1, hx1⟩ : ∃ x, sgn hexes q1 = x := ⟨_, rfl⟩
      obtain ⟨x2, hx2⟩ : ∃ x, sgn hexes q2 = x := ⟨_, rfl⟩
      rw [hx1] at hS hb1
      rw [hx2] at hS hb2
      have HS2 := Lib.hid hS
      have hwB := HF.out.size
      have hlti : (i : Int) < l.length := by omega
      have K1 := Lib.hid k1
      obtain ⟨ao, co, hvo⟩ := HO.out.form
      subst hvo
      have HOL := Lib.hid hol
      clear hol e1 hq1 hq2 hx1 hx2 hS HS hvw hv1 hc' k1
      go_upto_region 6 with (fail)
      refine wp_region_held_drew (S := fun V => V.cell? ⟨b, o + i, none⟩ = some (.int .u8 c'.toNat)) (by kernel_rfl) (by simpa using K1.out) (fun hHeld => ?_)
      simp only [List.size_toArray, List.length_cons, List.length_nil]
      refine wpAnyH_take (i := 0) (v := ?_) rfl (by kernel_rfl) (by kernel_rfl) (by kernel_rfl) (fun _ _ _ h => h) (Or.inl ⟨by rfl, ?_⟩) hHeld ?_
      rotate_left
      · intro W hSw
        try simp only [List.getElem_toArray, List.getElem_cons_zero, List.getElem_cons_succ]
        go_simp
        try rw [if_neg (by omega)]
        try with_reducible rfl
      try simp only [Act.put, List.setIfInBounds_toArray, List.set_cons_zero, List.set_cons_succ, List.getElem_toArray, List.getElem_cons_zero, List.getElem_cons_succ]
      refine wpAnyH_take (i := 1) (v := ?_) rfl (by kernel_rfl) (by kernel_rfl) (by kernel_rfl) (fun _ _ _ h => h) (Or.inl ⟨by rfl, ?_⟩) hHeld ?_
      rotate_left
      · intro W hSw
        try simp only [List.getElem_toArray, List.getElem_cons_zero, List.getElem_cons_succ]
        go_simp
        try rw [if_neg (by omega)]
        try with_reducible rfl
      try simp only [Act.put, List.setIfInBounds_toArray, List.set_cons_zero, List.set_cons_succ, List.getElem_toArray, List.getElem_cons_zero, List.getElem_cons_succ]
      refine wpAnyH_take (i := 2) (v := ?_) rfl (by kernel_rfl) (by kernel_rfl) (by kernel_rfl) (fun _ _ _ h => h) (Or.inl ⟨by rfl, ?_⟩) hHeld ?_
      rotate_left
      · intro W hSw
        try simp only [List.getElem_toArray, List.getElem_cons_zero, List.getElem_cons_succ]
        go_simp
        try rw [if_neg (by omega)]
        try with_reducible rfl
      try simp only [Act.put, List.setIfInBounds_toArray, List.set_cons_zero, List.set_cons_succ, List.getElem_toArray, List.getElem_cons_zero, List.getElem_cons_succ]
      refine wpAnyH_take (i := 3) (v := ?_) rfl (by kernel_rfl) (by kernel_rfl) (by kernel_rfl) (fun _ _ _ h => h) (Or.inl ⟨by rfl, ?_⟩) hHeld ?_
      rotate_left
      · intro W hSw
        try simp only [List.getElem_toArray, List.getElem_cons_zero, List.getElem_cons_succ]
        go_simp
        try rw [if_neg (by omega)]
        try with_reducible rfl
      try simp only [Act.put, List.setIfInBounds_toArray, List.set_cons_zero, List.set_cons_succ, List.getElem_toArray, List.getElem_cons_zero, List.getElem_cons_succ]
      refine wpAnyH_take (i := 4) (v := ?_) rfl (by kernel_rfl) (by kernel_rfl) (by kernel_rfl) (fun _ _ _ h => h) (Or.inl ⟨by rfl, ?_⟩) hHeld ?_
      rotate_left
      · intro W hSw
        try simp only [List.getElem_toArray, List.getElem_cons_zero, List.getElem_cons_succ]
        go_simp
        try rw [if_neg (by omega)]
        try with_reducible rfl
      try simp only [Act.put, List.setIfInBounds_toArray, List.set_cons_zero, List.set_cons_succ, List.getElem_toArray, List.getElem_cons_zero, List.getElem_cons_succ]
      refine wpAnyH_take (i := 5) (v := ?_) rfl (by kernel_rfl) (by kernel_rfl) (by kernel_rfl) (fun _ _ _ h => h) (Or.inl ⟨by rfl, ?_⟩) hHeld ?_
      rotate_left
      · intro W hSw
        try simp only [List.getElem_toArray, List.getElem_cons_zero, List.getElem_cons_succ]
        go_simp
        try rw [if_neg (by omega)]
        try with_reducible rfl
      try simp only [Act.put, List.setIfInBounds_toArray, List.set_cons_zero, List.set_cons_succ, List.getElem_toArray, List.getElem_cons_zero, List.getElem_cons_succ]
      refine wpAnyH_take (i := 6) (v := ?_) rfl (by kernel_rfl) (by kernel_rfl) (by kernel_rfl) (fun _ _ _ h => h) (Or.inl ⟨by rfl, ?_⟩) hHeld ?_
      rotate_left
      · intro W hSw
        try simp only [List.getElem_toArray, List.getElem_cons_zero, List.getElem_cons_succ]
        go_simp
        try rw [if_neg (by omega)]
        try with_reducible rfl
      try simp only [Act.put, List.setIfInBounds_toArray, List.set_cons_zero, List.set_cons_succ, List.getElem_toArray, List.getElem_cons_zero, List.getElem_cons_succ]
      refine wpAnyH_take (i := 7) (v := ?_) rfl (by kernel_rfl) (by kernel_rfl) (by kernel_rfl) (fun _ _ _ h => h) (Or.inl ⟨by rfl, ?_⟩) hHeld ?_
      rotate_left
      · intro W hSw
        try simp only [List.getElem_toArray, List.getElem_cons_zero, List.getElem_cons_succ]
        go_simp
        try rw [if_neg (by omega)]
        try with_reducible rfl
      try simp only [Act.put, List.setIfInBounds_toArray, List.set_cons_zero, List.set_cons_succ, List.getElem_toArray, List.getElem_cons_zero, List.getElem_cons_succ]
      refine wpAnyH_take (i := 8) (v := ?_) rfl (by kernel_rfl) (by kernel_rfl) (by kernel_rfl) (fun _ _ _ h => h) (Or.inl ⟨by rfl, ?_⟩) hHeld ?_
      rotate_left
      · intro W hSw
        try simp only [List.getElem_toArray, List.getElem_cons_zero, List.getElem_cons_succ]
        go_simp
        try rw [if_neg (by omega)]
        try with_reducible rfl
      try simp only [Act.put, List.setIfInBounds_toArray, List.set_cons_zero, List.set_cons_succ, List.getElem_toArray, List.getElem_cons_zero, List.getElem_cons_succ]
      refine wpAnyH_take (i := 9) (v := ?_) rfl (by kernel_rfl) (by kernel_rfl) (by kernel_rfl) (fun _ _ _ h => h) (Or.inl ⟨by rfl, ?_⟩) hHeld ?_
      rotate_left
      · intro W hSw
        try simp only [List.getElem_toArray, List.getElem_cons_zero, List.getElem_cons_succ]
        go_simp
        try rw [if_neg (by omega)]
        try with_reducible rfl
      try simp only [Act.put, List.setIfInBounds_toArray, List.set_cons_zero, List.set_cons_succ, List.getElem_toArray, List.getElem_cons_zero, List.getElem_cons_succ]
      refine wpAnyH_take (i := 10) (v := ?_) rfl (by kernel_rfl) (by kernel_rfl) (by kernel_rfl) (fun _ _ _ h => h) (Or.inl ⟨by rfl, ?_⟩) hHeld ?_
      rotate_left
      · intro W hSw
        try simp only [List.getElem_toArray, List.getElem_cons_zero, List.getElem_cons_succ]
        go_simp
        try rw [if_neg (by omega)]
        try with_reducible rfl
      try simp only [Act.put, List.setIfInBounds_toArray, List.set_cons_zero, List.set_cons_succ, List.getElem_toArray, List.getElem_cons_zero, List.getElem_cons_succ]
      refine wpAnyH_take (i := 11) (v := ?_) rfl (by kernel_rfl) (by kernel_rfl) (by kernel_rfl) (fun _ _ _ h => h) (Or.inl ⟨by rfl, ?_⟩) hHeld ?_
      rotate_left
      · intro W hSw
        try simp only [List.getElem_toArray, List.getElem_cons_zero, List.getElem_cons_succ]
        go_simp
        try rw [if_neg (by omega)]
        try with_reducible rfl
      try simp only [Act.put, List.setIfInBounds_toArray, List.set_cons_zero, List.set_cons_succ, List.getElem_toArray, List.getElem_cons_zero, List.getElem_cons_succ]
      refine wpAnyH_take (i := 12) (v := ?_) rfl (by kernel_rfl) (by kernel_rfl) (by kernel_rfl) (fun _ _ _ h => h) (Or.inl ⟨by rfl, ?_⟩) hHeld ?_
      rotate_left
      · intro W hSw
        try simp only [List.getElem_toArray, List.getElem_cons_zero, List.getElem_cons_succ]
        go_simp
        try rw [if_neg (by omega)]
        try with_reducible rfl
      try simp only [Act.put, List.setIfInBounds_toArray, List.set_cons_zero, List.set_cons_succ, List.getElem_toArray, List.getElem_cons_zero, List.getElem_cons_succ]
      refine wpAnyH_take (i := 13) (v := ?_) rfl (by kernel_rfl) (by kernel_rfl) (by kernel_rfl) (fun _ _ _ h => h) (Or.inl ⟨by rfl, ?_⟩) hHeld ?_
      rotate_left
      · intro W hSw
        try simp only [List.getElem_toArray, List.getElem_cons_zero, List.getElem_cons_succ]
        go_simp
        try rw [if_neg (by omega)]
        try with_reducible rfl
      try simp only [Act.put, List.setIfInBounds_toArray, List.set_cons_zero, List.set_cons_succ, List.getElem_toArray, List.getElem_cons_zero, List.getElem_cons_succ]
      refine wpAnyH_take (i := 14) (v := ?_) rfl (by kernel_rfl) (by kernel_rfl) (by kernel_rfl) (fun _ _ _ h => h) (Or.inl ⟨by rfl, ?_⟩) hHeld ?_
      rotate_left
      · intro W hSw
        try simp only [List.getElem_toArray, List.getElem_cons_zero, List.getElem_cons_succ]
        go_simp
        try rw [if_neg (by omega)]
        try with_reducible rfl
      try simp only [Act.put, List.setIfInBounds_toArray, List.set_cons_zero, List.set_cons_succ, List.getElem_toArray, List.getElem_cons_zero, List.getElem_cons_succ]
      refine wpAnyH_ready (rs := [15]) (by kernel_rfl) (by simp) (AllReadyH.cons rfl (fun K hK => ?_) AllReadyH.nil)
      try simp only [List.getElem_toArray, List.getElem_cons_zero, List.getElem_cons_succ]
      go_simp
      refine hK.out _ _ (by first | exact Fr.cell ((Fr.refl (M := NoB)).alloc _) hHeld | exact Fr.cell ((Fr.refl (M := NoB)).alloc _).drew (by simpa using hHeld)) (fun hHeld => ?_)
      clear hK K
      try simp only [Act.put, List.setIfInBounds_toArray, List.set_cons_zero, List.set_cons_succ, List.getElem_toArray, List.getElem_cons_zero, List.getElem_cons_succ]
      refine wpAnyH_ready (rs := [16]) (by kernel_rfl) (by simp) (AllReadyH.cons rfl (fun K hK => ?_) AllReadyH.nil)
      try simp only [List.getElem_toArray, List.getElem_cons_zero, List.getElem_cons_succ]
      rw [if_pos (by rfl)]; refine wp_append_many (.tmp 12) (.tmp 27) 36 (by rfl) w.heap.size 5 i0 (.int .u8 0) 1 1 Tryz.underlying36 hi0 hz0 hz1 hz2 rfl (by decide) (.slice ao out.length co) out.length (Lib.byteCells out) (by rfl) (by exact HO.out.alloc (.cells #[.int .u8 x1.toNat, .int .u8 x2.toNat] 5)) ⟨wr.heap.size, 0, none⟩ 2 2 [.int .u8 x1.toNat, .int .u8 x2.toNat] (by rfl) rfl (by exact cells_at wr 5 [.int .u8 x1.toNat, .int .u8 x2.toNat] _ rfl) (by simp [Value.oneCell']) (by have := HOL.out; unfold maxLen; omega) (by have := HOL.out; omega) (by simp; omega) ?_; intro v' w2 hown' hgrow
      refine hK.out _ _ (Fr.cell (HO.out.push (news := [x1, x2]) (Fr.refl.alloc (.cells #[.int .u8 x1.toNat, .int .u8 x2.toNat] 5)).drew hown' hgrow).2 K1.out (fun _ h => by omega)) (fun hHeld => ?_)
      clear hK K
      try simp only [Act.put, List.setIfInBounds_toArray, List.set_cons_zero, List.set_cons_succ, List.getElem_toArray, List.getElem_cons_zero, List.getElem_cons_succ]
      obtain ⟨hO3, hF3⟩ := HO.out.push (news := [x1, x2]) (Fr.refl.alloc (.cells #[.int .u8 x1.toNat, .int .u8 x2.toNat] 5)).drew hown' hgrow
      have HO3 := Lib.hid hO3
      have HF3 := Lib.hid (HF.out.trans hF3 (fun _ _ h => .inr h))
      clear hown' hgrow hO3 hF3
      refine wpAnyH_take (i := 17) (v := ?_) rfl (by kernel_rfl) (by kernel_rfl) (by kernel_rfl) (fun _ _ _ h => h) (Or.inl ⟨by rfl, ?_⟩) hHeld ?_
      rotate_left
      · intro W hSw
        try simp only [List.getElem_toArray, List.getElem_cons_zero, List.getElem_cons_succ]
        go_simp
        try rw [if_neg (by omega)]
        try with_reducible rfl
      try simp only [Act.put, List.setIfInBounds_toArray, List.set_cons_zero, List.set_cons_succ, List.getElem_toArray, List.getElem_cons_zero, List.getElem_cons_succ]
      refine wpAnyH_done (by kernel_rfl) ?_ _
      clear hHeld
      go_wp2_with fail
      go_roundg (gk - 1)
      case measure => omega
      case rel => exact ⟨i + 1, out ++ [x1, x2], by simp, by omega, by omega, by have := HOL.out; simp; omega, HO3, HF3, by have := HS2.out; simpa using Lib.hid this⟩
    · obtain rfl : i = l.length := by omega
      have hS := HS.out
      simp only [List.drop_length, hexS, List.append_nil] at hS
      have HS2 := Lib.hid hS
      have HT := Lib.hid (HO.out.sb.text)
      obtain ⟨ao, co, hvo⟩ := HO.out.form
      subst hvo
      have hT := HT.out
      have HOL := Lib.hid hol
      clear hS HS hol
      go_wp2_with fail
      go_ret
      exact ⟨by rw [HS2.out] <;> rfl, HF.out⟩
end Go.Proofs.YtcddlemkimbkcaaGreatDoor
