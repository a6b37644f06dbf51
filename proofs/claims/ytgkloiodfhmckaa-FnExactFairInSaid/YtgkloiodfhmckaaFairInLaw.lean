/-
  The law on FairIn, walked. (Printed by a program of this project's: wip/genexact.py.)
-/
import Derived.Test.YtgkloiodfhmckaaFairInS
import Derived.Test.YtgkloiodfhmckaaFairInI
namespace Go.Proofs.Ytgkloiodfhmckaa
set_option linter.unusedSimpArgs false
set_option linter.unusedVariables false
open Go.RowKit

set_option maxHeartbeats 800000 in
theorem fairIn_law (w : World) (v0 : Value) (xs0 : List Int) (fp0 : List Nat) (hs0 : Sl w v0 xs0 fp0) (n1 : Int) (hn1 : I64 n1) (n2 : Int) (hn2 : I64 n2) :
    Calls Try.prog 4 #[v0, .int .i64 n1, .int .i64 n2] w fun e w' => e = .returned (.bool true) ∧ Below w.heap.size w w' := by
  obtain ⟨ao, ca, rfl, ha1, ha2, ha3⟩ := hs0.openk 1 rfl
  clear ha3
  by_cases hbigv0 : 1048576 < xs0.length
  · have hbig : (1048576 : Int) < xs0.length := by omega
    go_enter Try.func4, Try.ntmps4
    go_wp2_with fail
    go_ret
    exact ⟨rfl, Below.refl _ _⟩
  · have hbig : ¬ (1048576 : Int) < xs0.length := by omega
    go_enter Try.func4, Try.ntmps4
    go_wp2_with fail
    refine (toIntS_any _ xs0 fp0 w hs0 (by omega)).mono ?_
    rintro e w1 ⟨ta0, ga0, rfl, hb1, hSa0, hFa0⟩
    have hB1 : Below w.heap.size w w1 := hb1
    go_wp2_with fail
    refine (fairInS_any ta0 xs0 ga0 n1 n2 w1 hSa0).mono ?_
    rintro e w2 ⟨rfl, hb2⟩
    have hB2 : Below w.heap.size w w2 := hB1.trans (hb2.mono hB1.size)
    go_wp2_with fail
    refine (toIntS_any _ xs0 fp0 w2 (hs0.below hB2) (by omega)).mono ?_
    rintro e w3 ⟨tb0, gb0, rfl, hb3, hSb0, hFb0⟩
    have hB3 : Below w.heap.size w w3 := hB2.trans (hb3.mono hB2.size)
    go_wp2_with fail
    refine (fairInI_any tb0 xs0 gb0 n1 n2 w3 hSb0).mono ?_
    rintro e w4 ⟨rfl, hb4⟩
    have hB4 : Below w.heap.size w w4 := hB3.trans (hb4.mono hB3.size)
    go_wp2_with fail
    refine (toIntS_any _ xs0 fp0 w4 (hs0.below hB4) (by omega)).mono ?_
    rintro e w5 ⟨tc0, gc0, rfl, hb5, hSc0, hFc0⟩
    have hB5 : Below w.heap.size w w5 := hB4.trans (hb5.mono hB4.size)
    go_wp2_with fail
    refine (eqIntS_any tb0 tc0 xs0 xs0 gb0 gc0 w5 ((hSb0.below hb4).below hb5) hSc0).mono ?_
    rintro e w6 ⟨rfl, hb6⟩
    have hB6 : Below w.heap.size w w6 := hB5.trans (hb6.mono hB5.size)
    rw [eqB_t rfl]
    go_wp2_with fail
    go_ret
    exact ⟨rfl, hB6⟩
end Go.Proofs.Ytgkloiodfhmckaa
