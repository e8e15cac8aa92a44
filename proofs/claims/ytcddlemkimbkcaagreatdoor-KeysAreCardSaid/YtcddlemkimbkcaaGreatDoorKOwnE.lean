/-
  The walk of entry.own.
-/
import Derived.Test.YtcddlemkimbkcaaGreatDoorKBlank
import Derived.Test.YtcddlemkimbkcaaGreatDoorKSpecCheck
namespace Go.Proofs.YtcddlemkimbkcaaGreatDoor
set_option linter.unusedVariables false
set_option linter.unusedSimpArgs false
set_option linter.unusedSectionVars false
open Go.RowKit
variable [OldK]
/-- what entry.Subjects says: whether it is a statement -/
def SubPost (b : Bool) (r : Ending) : Prop := ∃ v er, r = .returned (.tuple #[v, er]) ∧ er = if b then .nilIface else .iface 56 (.int .i64 11)
/-- a statement's payload is answered 'sub' in every later world -/
def SubC (sub : Bs → Bool) (e : En) (pv : Value) (w : World) : Prop :=
  e.kind = 3 → ∀ W, Fr NoB w W → Calls Tryz.prog 94 #[pv] W fun r W' => SubPost (sub e.payload) r ∧ Fr NoB W W'
theorem SubC.fr {sub : Bs → Bool} {e : En} {pv : Value} {w w1 : World} (h : SubC sub e pv w) (hF : Fr NoB w w1) : SubC sub e pv w1 :=
  fun hk W hW => h hk W (hF.trans' hW)
set_option maxRecDepth 100000 in
set_option maxHeartbeats 2000000 in
theorem own_c (sub : Bs → Bool) (e : En) (a : Option Addr) (cap : Nat) (sv : Value) (w : World) (hok : e.ok) (hsub : SubC sub e (.slice a e.payload.length cap) w) (hty : e.typ.length ≤ 1000000) (hid : e.ident.length ≤ 1000000) (hpl : e.payload.length ≤ 1000000000) :
    Calls Tryz.prog 106 #[.agg (e.cells (.slice a e.payload.length cap) sv).toArray] w fun r w' => r = .returned (.bool (pOwn sub e)) ∧ Fr NoB w w' := by
  have hR : (w.alloc (.cells (e.cells (.slice a e.payload.length cap) sv).toArray 39)).rangeAt w.heap.size 0 (e.cells (.slice a e.payload.length cap) sv) := by simpa using range_block (heap_alloc_new w (.cells (e.cells (.slice a e.payload.length cap) sv).toArray 39))
  have hF : Fr NoB w (w.alloc (.cells (e.cells (.slice a e.payload.length cap) sv).toArray 39)) := Fr.refl.alloc _
  obtain ⟨c0, -, c33, c34, c35, c36, -, -⟩ := En.parts hok hR
  obtain ⟨R, hRv⟩ : ∃ R, pOwn sub e = R := ⟨_, rfl⟩
  rw [hRv]
  have HRv := Lib.hid hRv
  obtain ⟨cs, hcs⟩ : ∃ cs, (e.cells (.slice a e.payload.length cap) sv).toArray = cs := ⟨_, rfl⟩
  rw [hcs] at hF c0 c33 c34 c35 c36 ⊢
  clear hcs hRv hR
  go_enter Tryz.func106, Tryz.ntmps106
  go_upto_region 1 with (fail)
  change Code.wp _ _ _ _ (w.alloc (.cells cs 39))
  obtain ⟨W, hW⟩ : ∃ W, w.alloc (.cells cs 39) = W := ⟨_, rfl⟩
  rw [hW] at hF c0 c33 c34 c35 c36 ⊢
  obtain ⟨p, hpp⟩ : ∃ p, w.heap.size = p := ⟨_, rfl⟩
  rw [hpp] at c0 c33 c34 c35 c36
  rw [hpp]
  clear hW hpp
  have HF := Lib.hid hF
  have hsubW := hsub.fr hF
  have HsubW := Lib.hid hsubW
  clear hF hsub hsubW hok
  obtain ⟨k, dg, ty, pl, op, idn, ky, sg⟩ := e
  simp only at c0 c33 c34 c35 c36 hty hid hpl
  by_cases h1 : k = 1
  · subst h1
    have HP : Hid (true = R) := Lib.hid (by simpa [pOwn] using HRv.out)
    go_wp2_with fail
    go_ret
    exact ⟨ret_bool HP.out, HF.out⟩
  by_cases h2 : k = 2
  · subst h2
    have hk1 : ((2 : Int) == 1) = false := rfl
    obtain ⟨b1, hb1⟩ : ∃ b, pTyped ty = b := ⟨_, rfl⟩
    obtain ⟨b2, hb2⟩ : ∃ b, decide ((pl.length : Int) ≤ 2048) = b := ⟨_, rfl⟩
    have hb3 : decide (pl.length ≤ 2048) = b2 := by rw [← hb2]; exact decide_eq_decide.2 (by omega)
    have HP : Hid ((b1 && b2) = R) := Lib.hid (by rw [← hb1, ← hb3]; simpa [pOwn] using HRv.out)
    have hty2 := typed_c ty W (by omega)
    rw [hb1] at hty2
    have Hty := Lib.hid hty2
    clear hb3 hty2 hb1 h1
    cases b1 <;> cases b2
    all_goals
      go_wp2_with fail
      refine Hty.out.mono ?_
      rintro e w1 ⟨rfl, hF1⟩
      have c34' := (Fr.cell hF1 c34)
      have HF1 := Lib.hid (HF.out.trans' hF1)
      clear hF1
      go_wp2_with fail
      go_ret
      exact ⟨ret_bool HP.out, HF1.out⟩
  by_cases h3 : k = 3
  · subst h3
    have hk1 : ((3 : Int) == 1) = false := rfl
    have hk2 : ((3 : Int) == 2) = false := rfl
    obtain ⟨b, hb⟩ : ∃ b, sub pl = b := ⟨_, rfl⟩
    have HP : Hid (b = R) := Lib.hid (by rw [← hb]; simpa [pOwn] using HRv.out)
    have hs := HsubW.out rfl W Fr.refl
    simp only at hs
    rw [hb] at hs
    have Hs := Lib.hid hs
    clear hs hb h1 h2
    cases b
    all_goals
      go_wp2_with fail
      refine Hs.out.mono ?_
      rintro r w1 ⟨⟨v, er, rfl, rfl⟩, hF1⟩
      have HF1 := Lib.hid (HF.out.trans' hF1)
      clear hF1
      go_wp2_with fail
      go_ret
      exact ⟨ret_bool HP.out, HF1.out⟩
  by_cases h4 : k = 4
  · subst h4
    have hk1 : ((4 : Int) == 1) = false := rfl
    have hk2 : ((4 : Int) == 2) = false := rfl
    have hk3 : ((4 : Int) == 3) = false := rfl
    obtain ⟨b1, hb1⟩ : ∃ b, decide (1 ≤ op) = b := ⟨_, rfl⟩
    obtain ⟨b2, hb2⟩ : ∃ b, decide (op ≤ 3) = b := ⟨_, rfl⟩
    obtain ⟨b3, hb3⟩ : ∃ b, pNamed idn = b := ⟨_, rfl⟩
    have HP : Hid ((b1 && (b2 && b3)) = R) := Lib.hid (by rw [← hb1, ← hb2, ← hb3]; simpa [pOwn] using HRv.out)
    have hn := named_c idn W (by omega)
    rw [hb3] at hn
    have Hn := Lib.hid hn
    clear hn hb3 h1 h2 h3
    cases b1
    · go_wp2_with fail
      go_ret
      exact ⟨ret_bool HP.out, HF.out⟩
    · cases b2
      · go_wp2_with fail
        go_ret
        exact ⟨ret_bool HP.out, HF.out⟩
      · go_wp2_with fail
        refine Hn.out.mono ?_
        rintro e w1 ⟨rfl, hF1⟩
        have HF1 := Lib.hid (HF.out.trans' hF1)
        clear hF1
        go_wp2_with fail
        go_ret
        exact ⟨ret_bool HP.out, HF1.out⟩
  · have hk1 : (k == 1) = false := by simpa using h1
    have hk2 : (k == 2) = false := by simpa using h2
    have hk3 : (k == 3) = false := by simpa using h3
    have hk4 : (k == 4) = false := by simpa using h4
    have HP : Hid (false = R) := Lib.hid (by simpa [pOwn, h1, h2, h3, h4] using HRv.out)
    clear h1 h2 h3 h4
    go_wp2_with fail
    go_ret
    exact ⟨ret_bool HP.out, HF.out⟩
end Go.Proofs.YtcddlemkimbkcaaGreatDoor
