/-
  The law on TellsOf, walked. (Printed by a program of this project's: wip/genexact.py.)
-/
import Derived.Test.YtgkloiodfhmckaaTellsOf
namespace Go.Proofs.Ytgkloiodfhmckaa
set_option linter.unusedSimpArgs false
set_option linter.unusedVariables false
open Go.RowKit

set_option maxHeartbeats 800000 in
theorem tellsOf_law (w : World) (v0 : Value) (xs0 : List Deed) (fp0 : List Nat) (hs0 : Sl w v0 xs0 fp0) (v1 : Value) (xs1 : List Reply) (fp1 : List Nat) (hs1 : Sl w v1 xs1 fp1) :
    Calls Try.prog 8 #[v0, v1] w fun e w' => e = .returned (.bool true) ∧ Below w.heap.size w w' := by
  by_cases hbig0 : (1048576 : Int) < (wtL (fun y : Deed => y.wt) xs0 : Nat)
  · go_enter Try.func8, Try.ntmps8
    go_wp2_with fail
    refine (szDeedS_any v0 xs0 fp0 (1048576) w hs0 (by omega) (by omega)).mono ?_
    rintro e w1 ⟨rfl, hb1⟩
    have hB1 : Below w.heap.size w w1 := hb1
    rw [szL_t (by omega)]
    go_wp2_with fail
    go_ret
    exact ⟨rfl, hB1⟩
  ·
    by_cases hbig1 : (1048576 - (wtL (fun y : Deed => y.wt) xs0 : Nat) : Int) < (xs1.length : Nat)
    · go_enter Try.func8, Try.ntmps8
      go_wp2_with fail
      refine (szDeedS_any v0 xs0 fp0 (1048576) w hs0 (by omega) (by omega)).mono ?_
      rintro e w1 ⟨rfl, hb1⟩
      have hB1 : Below w.heap.size w w1 := hb1
      rw [szL_f (by omega)]
      go_wp2_with fail
      refine (szReplyS_any v1 xs1 fp1 (1048576 - (wtL (fun y : Deed => y.wt) xs0 : Nat)) w1 (hs1.below hB1) (by omega) (by omega)).mono ?_
      rintro e w2 ⟨rfl, hb2⟩
      have hB2 : Below w.heap.size w w2 := hB1.trans (hb2.mono hB1.size)
      rw [szL_t (by omega)]
      go_wp2_with fail
      go_ret
      exact ⟨rfl, hB2⟩
    ·
      go_enter Try.func8, Try.ntmps8
      go_wp2_with fail
      refine (szDeedS_any v0 xs0 fp0 (1048576) w hs0 (by omega) (by omega)).mono ?_
      rintro e w1 ⟨rfl, hb1⟩
      have hB1 : Below w.heap.size w w1 := hb1
      rw [szL_f (by omega)]
      go_wp2_with fail
      refine (szReplyS_any v1 xs1 fp1 (1048576 - (wtL (fun y : Deed => y.wt) xs0 : Nat)) w1 (hs1.below hB1) (by omega) (by omega)).mono ?_
      rintro e w2 ⟨rfl, hb2⟩
      have hB2 : Below w.heap.size w w2 := hB1.trans (hb2.mono hB1.size)
      rw [szL_f (by omega)]
      go_wp2_with fail
      refine (toDeedS_any v0 xs0 fp0 w2 (hs0.below hB2) (by omega)).mono ?_
      rintro e w3 ⟨ta0, ga0, rfl, hb3, hSa0, hFa0⟩
      have hB3 : Below w.heap.size w w3 := hB2.trans (hb3.mono hB2.size)
      go_wp2_with fail
      refine (toReplyS_any v1 xs1 fp1 w3 (hs1.below hB3) (by omega)).mono ?_
      rintro e w4 ⟨ta1, ga1, rfl, hb4, hSa1, hFa1⟩
      have hB4 : Below w.heap.size w w4 := hB3.trans (hb4.mono hB3.size)
      go_wp2_with fail
      refine (tellsOfS_any ta0 ta1 xs0 xs1 ga0 ga1 w4 (hSa0.below hb4) hSa1).mono ?_
      rintro e w5 ⟨rfl, hb5⟩
      have hB5 : Below w.heap.size w w5 := hB4.trans (hb5.mono hB4.size)
      go_wp2_with fail
      refine (toDeedS_any v0 xs0 fp0 w5 (hs0.below hB5) (by omega)).mono ?_
      rintro e w6 ⟨tb0, gb0, rfl, hb6, hSb0, hFb0⟩
      have hB6 : Below w.heap.size w w6 := hB5.trans (hb6.mono hB5.size)
      go_wp2_with fail
      refine (toReplyS_any v1 xs1 fp1 w6 (hs1.below hB6) (by omega)).mono ?_
      rintro e w7 ⟨tb1, gb1, rfl, hb7, hSb1, hFb1⟩
      have hB7 : Below w.heap.size w w7 := hB6.trans (hb7.mono hB6.size)
      go_wp2_with fail
      refine (tellsOfI_any tb0 tb1 xs0 xs1 gb0 gb1 w7 (hSb0.below hb7) hSb1).mono ?_
      rintro e w8 ⟨rfl, hb8⟩
      have hB8 : Below w.heap.size w w8 := hB7.trans (hb8.mono hB7.size)
      go_wp2_with fail
      refine (toDeedS_any v0 xs0 fp0 w8 (hs0.below hB8) (by omega)).mono ?_
      rintro e w9 ⟨tc0, gc0, rfl, hb9, hSc0, hFc0⟩
      have hB9 : Below w.heap.size w w9 := hB8.trans (hb9.mono hB8.size)
      go_wp2_with fail
      refine (eqDeedS_any tb0 tc0 xs0 xs0 gb0 gc0 w9 (((hSb0.below hb7).below hb8).below hb9) hSc0).mono ?_
      rintro e w10 ⟨rfl, hb10⟩
      have hB10 : Below w.heap.size w w10 := hB9.trans (hb10.mono hB9.size)
      rw [eqB_t rfl]
      go_wp2_with fail
      refine (toReplyS_any v1 xs1 fp1 w10 (hs1.below hB10) (by omega)).mono ?_
      rintro e w11 ⟨tc1, gc1, rfl, hb11, hSc1, hFc1⟩
      have hB11 : Below w.heap.size w w11 := hB10.trans (hb11.mono hB10.size)
      go_wp2_with fail
      refine (eqReplyS_any tb1 tc1 xs1 xs1 gb1 gc1 w11 ((((hSb1.below hb8).below hb9).below hb10).below hb11) hSc1).mono ?_
      rintro e w12 ⟨rfl, hb12⟩
      have hB12 : Below w.heap.size w w12 := hB11.trans (hb12.mono hB11.size)
      rw [eqB_t rfl]
      go_wp2_with fail
      go_ret
      exact ⟨rfl, hB12⟩
end Go.Proofs.Ytgkloiodfhmckaa
