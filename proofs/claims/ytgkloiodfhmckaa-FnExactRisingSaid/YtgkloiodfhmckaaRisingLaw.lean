/-
  The law on Rising, walked.
-/
import Derived.Test.YtgkloiodfhmckaaRising
namespace Go.Proofs.Ytgkloiodfhmckaa
set_option linter.unusedSimpArgs false
set_option linter.unusedVariables false
open Go.RowKit

set_option maxHeartbeats 400000 in
theorem rising_law (w : World) (v : Value) (hs : List Hand) (fp : List Nat) (h : Sl w v hs fp) :
    Calls Try.prog 6 #[v] w fun e w' => e = .returned (.bool true) ∧ Below w.heap.size w w' := by
  by_cases hbig : 1048576 < hs.length
  · go_enter Try.func6, Try.ntmps6
    go_wp2_with fail
    refine (szHandS_any v hs fp 1048576 w h (by omega) (by omega)).mono ?_
    rintro e w1 ⟨rfl, rfl⟩
    rw [if_pos (by omega)]
    go_wp2_with fail
    go_ret
    exact ⟨rfl, Below.refl _ _⟩
  · go_enter Try.func6, Try.ntmps6
    go_wp2_with fail
    refine (szHandS_any v hs fp 1048576 w h (by omega) (by omega)).mono ?_
    rintro e w1 ⟨rfl, rfl⟩
    rw [if_neg (by omega)]
    go_wp2_with fail
    refine (toHandS_any v hs fp w h (by omega)).mono ?_
    rintro e w1 ⟨v1, f1, rfl, hb1, h1⟩
    go_wp2_with fail
    refine (risingS_any v1 hs f1 w1 h1).mono ?_
    rintro e w2 ⟨rfl, hb2⟩
    have hb02 := hb1.trans (hb2.mono hb1.size)
    go_wp2_with fail
    refine (toHandS_any v hs fp w2 (h.below hb02) (by omega)).mono ?_
    rintro e w3 ⟨v3, f3, rfl, hb3, h3⟩
    have hb03 := hb02.trans (hb3.mono hb02.size)
    go_wp2_with fail
    refine (risingI_any v3 hs f3 w3 h3).mono ?_
    rintro e w4 ⟨rfl, hb4⟩
    have hb04 := hb03.trans (hb4.mono hb03.size)
    go_wp2_with fail
    refine (toHandS_any v hs fp w4 (h.below hb04) (by omega)).mono ?_
    rintro e w5 ⟨v5, f5, rfl, hb5, h5⟩
    have hb05 := hb04.trans (hb5.mono hb04.size)
    go_wp2_with fail
    refine (eqHandS_any v3 v5 hs hs f3 f5 w5 ((h3.below hb4).below hb5) h5).mono ?_
    rintro e w6 ⟨rfl, hb6⟩
    have hb06 := hb05.trans (hb6.mono hb05.size)
    rw [eqB_t rfl]
    go_wp2_with fail
    go_ret
    exact ⟨rfl, hb06⟩
end Go.Proofs.Ytgkloiodfhmckaa
