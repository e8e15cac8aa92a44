/-
  The walk of the law CanonQuotes.
-/
import Derived.Test.YtbfmpbhikipipaaDoorAlive
import Derived.Test.YtbfmpbhikipipaaDoorQuoteRef
import Derived.Deep.RegionWith
namespace Go.Proofs.YtbfmpbhikipipaaDoor
set_option linter.unusedVariables false
set_option linter.unusedSimpArgs false
open Go.RowKit

set_option maxRecDepth 100000 in
set_option maxHeartbeats 1000000 in
theorem quotes_c (s : Bs) (w : World) (hg : Gl w) :
    Calls Tryd.prog 4 #[.string ⟨s.toArray⟩] w fun e w' => e = .returned (.bool true) ∧ Fr NoB w w' := by
  have Hal := Lib.hid (alive_c 19 (by decide) sort_small w hg)
  have hsz : (ByteArray.mk s.toArray).size = s.length := rfl
  by_cases hl : 5000 < s.length
  · have hb : decide ((s.length : Int) > 5000) = true := by rw [decide_eq_true_eq]; omega
    have hb2 : decide (5000 < (s.length : Int)) = true := by rw [decide_eq_true_eq]; omega
    go_enter Tryd.func4, Tryd.ntmps4
    go_wp2_with fail
    refine Hal.out.mono ?_
    rintro e w1 ⟨rfl, hF1⟩
    have HF1 := Lib.hid hF1
    clear hF1
    go_wp2_with fail
    go_ret
    exact ⟨rfl, HF1.out⟩
  · have hb2 : ¬ 5000 < (s.length : Int) := by omega
    go_enter Tryd.func4, Tryd.ntmps4
    go_wp2_with fail
    refine Hal.out.mono ?_
    rintro e w1 ⟨rfl, hF1⟩
    have HF1 := Lib.hid hF1
    clear hF1
    go_wp2_with fail
    refine (quote_c s _ (by omega)).mono ?_
    rintro e w2 ⟨rfl, hF2⟩
    have HF2 := Lib.hid (HF1.out.trans' hF2)
    clear hF2
    go_wp2_with fail
    refine (refQuote_c s _ (by omega)).mono ?_
    rintro e w3 ⟨rfl, hF3⟩
    have HF3 := Lib.hid (HF2.out.trans' hF3)
    clear hF3
    go_wp2_with fail
    go_ret
    exact ⟨rfl, HF3.out⟩
end Go.Proofs.YtbfmpbhikipipaaDoor
