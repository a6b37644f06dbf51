/-
  The law on Overlaps, walked. (Printed by a program of this project's.)
-/
import Derived.Test.YtbnjncjplkbijaaTo
import Derived.Test.YtbnjncjplkbijaaSz
import Derived.Test.YtbnjncjplkbijaaEq
import Derived.Test.YtbnjncjplkbijaaOverlaps
namespace Go.Proofs.Ytbnjncjplkbijaa
set_option linter.unusedSimpArgs false
set_option linter.unusedVariables false
set_option maxRecDepth 100000
open Go.RowKit

set_option maxHeartbeats 2000000 in
theorem overlaps_law (w : World) (v0 : Value) (xs0 : List Span) (fp0 : List Nat) (hs0 : Sl w v0 xs0 fp0) :
    Calls Try.prog 3 #[v0] w fun e w' => e = .returned (.bool true) ∧ Below w.heap.size w w' := by
  refine enter1 Try.func3 rfl Try.ntmps3 (by decide) ?_
  refine wp_seq ?_
  refine sx_region ?_
  refine sx rfl (stp_assign (v := .bool false) rfl ?_)
  refine sx_nil ?_
  refine wp_seq ?_
  refine sx_region ?_
  refine sx rfl (stp_assign (v := I 1048576) rfl ?_)
  refine sx_nil ?_
  refine wp_seq ?_
  refine sx_region ?_
  refine sx rfl (stp_move (v := v0) rfl ?_)
  refine sx rfl (stp_move (v := I 1048576) rfl ?_)
  refine sx rfl (stp_call2 Try.func13 rfl rfl rfl ((szSpanS_n w (hs0.below (Below.refl _ _)) 1048576 (by omega) (by omega)).mono ?_)); rintro _ W1 ⟨rfl, hk2⟩; refine ⟨_, rfl, ?_⟩
  have st3 := St.call (St.start w) hk2
  refine sx rfl (stp_assign (v := I (szL 1048576 (wtL (fun y : Span => y.wt) xs0))) rfl ?_)
  refine sx_nil ?_
  refine wp_seq ?_
  refine wp_seq ?_
  refine sx_region ?_
  refine sx rfl (stp_move (v := I (szL 1048576 (wtL (fun y : Span => y.wt) xs0))) rfl ?_)
  refine sx rfl (stp_lss rfl rfl ?_)
  refine sx_nil ?_
  refine sx_if rfl (fun h5 => ?_) (fun h5 => ?_)
  · skip
    have h5p := of_decide_eq_true h5
    have h5q := szL_lt h5p (by omega)
    refine wp_seq ?_
    refine sx_region ?_
    refine sx rfl (stp_assign (v := .bool true) rfl ?_)
    refine sx_nil ?_
    refine wp_ret ?_; repeat (first | refine then_ret ?_ | refine blk_ret ?_)
    refine ret1 Try.results3 rfl ?_
    exact ⟨rfl, st3.below⟩
  · skip
    have h5p := of_decide_eq_false h5
    have h5q := szL_ge h5p (by omega)
    refine wp_skip ?_
    refine wp_seq ?_
    refine sx_region ?_
    refine sx rfl (stp_move (v := v0) rfl ?_)
    refine sx rfl (stp_call1 Try.func15 rfl rfl ((toSpanS_n W1 (hs0.below st3.below) (by first | exact hw | omega | (simp only [Plan.wt, Run.wt, Yard.wt, Deed.wt, Note.wt, File.wt, Disk.wt, Engine.wt, WorldD.wt, ActD.wt, Span.wt, Crew.wt] at *; omega))).mono ?_)); rintro _ W8 ⟨v6, fp6, rfl, hk9⟩; refine ⟨_, rfl, ?_⟩
    have st10 := St.call st3 hk9
    refine sx rfl (stp_call1 Try.func14 rfl rfl ((OverlapsS W8 (own_Sl (st10.get 0 rfl))).mono ?_)); rintro _ W12 ⟨rfl, hk13⟩; refine ⟨_, rfl, ?_⟩
    have st14 := St.call st10 hk13
    refine sx rfl (stp_assign (v := I (overlaps xs0)) rfl ?_)
    refine sx_nil ?_
    refine wp_seq ?_
    refine sx_region ?_
    refine sx rfl (stp_move (v := v0) rfl ?_)
    refine sx rfl (stp_call1 Try.func15 rfl rfl ((toSpanS_n W12 (hs0.below st14.below) (by first | exact hw | omega | (simp only [Plan.wt, Run.wt, Yard.wt, Deed.wt, Note.wt, File.wt, Disk.wt, Engine.wt, WorldD.wt, ActD.wt, Span.wt, Crew.wt] at *; omega))).mono ?_)); rintro _ W18 ⟨v16, fp16, rfl, hk19⟩; refine ⟨_, rfl, ?_⟩
    have st20 := St.call st14 hk19
    refine sx rfl (stp_assign (v := v16) rfl ?_)
    refine sx_nil ?_
    refine wp_seq ?_
    refine sx_region ?_
    refine sx rfl (stp_move (v := v16) rfl ?_)
    refine sx rfl (stp_call1 Try.func16 rfl rfl ((OverlapsI W18 (own_Sl (st20.get 0 rfl))).mono ?_)); rintro _ W22 ⟨rfl, hk23⟩; refine ⟨_, rfl, ?_⟩
    have st24 := St.call st20 hk23
    refine sx rfl (stp_assign (v := I (overlaps xs0)) rfl ?_)
    refine sx_nil ?_
    refine wp_seq ?_
    refine wp_seq ?_
    refine sx_region ?_
    refine sx rfl (stp_move (v := I (overlaps xs0)) rfl ?_)
    refine sx rfl (stp_move (v := I (overlaps xs0)) rfl ?_)
    refine sx rfl (stp_neq rfl rfl ?_)
    refine sx_nil ?_
    refine sx_if rfl (fun h26 => ?_) (fun h26 => ?_)
    · skip
      have h26p := of_decide_eq_false (bnot_t h26)
      exact absurd rfl h26p
    · skip
      have h26p := of_decide_eq_true (bnot_f h26)
      refine wp_skip ?_
      refine wp_seq ?_
      refine wp_seq ?_
      refine sx_region ?_
      refine sx rfl (stp_move (v := v16) rfl ?_)
      refine sx rfl (stp_move (v := v0) rfl ?_)
      refine sx rfl (stp_call1 Try.func15 rfl rfl ((toSpanS_n W22 (hs0.below st24.below) (by first | exact hw | omega | (simp only [Plan.wt, Run.wt, Yard.wt, Deed.wt, Note.wt, File.wt, Disk.wt, Engine.wt, WorldD.wt, ActD.wt, Span.wt, Crew.wt] at *; omega))).mono ?_)); rintro _ W29 ⟨v27, fp27, rfl, hk30⟩; refine ⟨_, rfl, ?_⟩
      have st31 := St.call st24 hk30
      refine sx rfl (stp_call2 Try.func17 rfl rfl rfl ((eqSpanS_n W29 (own_Sl (st31.get 1 rfl)) (own_Sl (st31.get 0 rfl))).mono ?_)); rintro _ W33 ⟨rfl, hk34⟩; refine ⟨_, rfl, ?_⟩
      have st35 := St.call st31 hk34
      refine sx rfl (stp_not rfl ?_)
      refine sx_nil ?_
      refine sx_if rfl (fun h37 => ?_) (fun h37 => ?_)
      · skip
        exact absurd (bnot_t h37) (by rw [eqB_t rfl]; decide)
      · skip
        refine wp_skip ?_
        refine wp_seq ?_
        refine sx_region ?_
        refine sx rfl (stp_assign (v := .bool true) rfl ?_)
        refine sx_nil ?_
        refine wp_ret ?_; repeat (first | refine then_ret ?_ | refine blk_ret ?_)
        refine ret1 Try.results3 rfl ?_
        exact ⟨rfl, st35.below⟩
end Go.Proofs.Ytbnjncjplkbijaa
