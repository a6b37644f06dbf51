/-
  The law on Soon, walked. (Printed by a program of this project's.)
-/
import Derived.Test.YtchnllpegfbleaaTo
import Derived.Test.YtchnllpegfbleaaSz
import Derived.Test.YtchnllpegfbleaaEq
import Derived.Test.YtchnllpegfbleaaSoon
import Derived.Test.YtchnllpegfbleaaMk
namespace Go.Proofs.Ytchnllpegfbleaa
set_option linter.unusedSimpArgs false
set_option linter.unusedVariables false
set_option maxRecDepth 100000
open Go.RowKit

set_option maxHeartbeats 2000000 in
theorem soon_law (w : World) (v0 : Value) (xs0 : List Deed) (fp0 : List Nat) (hs0 : Sl w v0 xs0 fp0) (v1 : Value) (xs1 : List Reply) (fp1 : List Nat) (hs1 : Sl w v1 xs1 fp1) :
    Calls Try.prog 3 #[v0, v1] w fun e w' => e = .returned (.bool true) ∧ Below w.heap.size w w' := by
  have hsl := soon_len xs0 xs1
  have hcb0 := cb_DeedS xs0
  have hcb1 := cb_ReplyS xs1
  refine enter2 Try.func3 rfl Try.ntmps3 (by decide) ?_
  refine wp_seq ?_
  refine sx_region ?_
  refine sx rfl (stp_assign (v := .bool false) rfl ?_)
  refine sx_nil ?_
  refine wp_seq ?_
  refine sx_region ?_
  refine sx rfl (stp_assign (v := I 1048576) rfl ?_)
  refine sx_nil ?_
  refine wp_seq ?_
  refine sx_region ?_
  refine sx rfl (stp_move (v := v0) rfl ?_)
  refine sx rfl (stp_move (v := I 1048576) rfl ?_)
  refine sx rfl (stp_call2 Try.func4 rfl rfl rfl ((szDeedS_n w (hs0.below (Below.refl _ _)) 1048576 (by omega) (by omega)).mono ?_)); rintro _ W1 ⟨rfl, hk2⟩; refine ⟨_, rfl, ?_⟩
  have st3 := St.call (St.start w) hk2
  refine sx rfl (stp_assign (v := I (szL 1048576 (wtL (fun y : Deed => y.wt) xs0))) rfl ?_)
  refine sx_nil ?_
  refine wp_seq ?_
  refine wp_seq ?_
  refine sx_region ?_
  refine sx rfl (stp_move (v := I (szL 1048576 (wtL (fun y : Deed => y.wt) xs0))) rfl ?_)
  refine sx rfl (stp_lss rfl rfl ?_)
  refine sx_nil ?_
  refine sx_if rfl (fun h5 => ?_) (fun h5 => ?_)
  · skip
    have h5p := of_decide_eq_true h5
    have h5q := szL_lt h5p (by omega)
    refine wp_seq ?_
    refine sx_region ?_
    refine sx rfl (stp_assign (v := .bool true) rfl ?_)
    refine sx_nil ?_
    refine wp_ret ?_; repeat (first | refine then_ret ?_ | refine blk_ret ?_)
    refine ret1 Try.results3 rfl ?_
    exact ⟨rfl, st3.below⟩
  · skip
    have h5p := of_decide_eq_false h5
    have h5q := szL_ge h5p (by omega)
    refine wp_skip ?_
    refine wp_seq ?_
    refine sx_region ?_
    refine sx rfl (stp_move (v := v1) rfl ?_)
    refine sx rfl (stp_move (v := I (szL 1048576 (wtL (fun y : Deed => y.wt) xs0))) rfl ?_)
    refine sx rfl (stp_call2 Try.func5 rfl rfl rfl ((szReplyS_n W1 (hs1.below st3.below) (szL 1048576 (wtL (fun y : Deed => y.wt) xs0)) (by omega) (by omega)).mono ?_)); rintro _ W6 ⟨rfl, hk7⟩; refine ⟨_, rfl, ?_⟩
    have st8 := St.call st3 hk7
    refine sx rfl (stp_assign (v := I (szL (szL 1048576 (wtL (fun y : Deed => y.wt) xs0)) xs1.length)) rfl ?_)
    refine sx_nil ?_
    refine wp_seq ?_
    refine wp_seq ?_
    refine sx_region ?_
    refine sx rfl (stp_move (v := I (szL (szL 1048576 (wtL (fun y : Deed => y.wt) xs0)) xs1.length)) rfl ?_)
    refine sx rfl (stp_lss rfl rfl ?_)
    refine sx_nil ?_
    refine sx_if rfl (fun h10 => ?_) (fun h10 => ?_)
    · skip
      have h10p := of_decide_eq_true h10
      have h10q := szL_lt h10p (by omega)
      refine wp_seq ?_
      refine sx_region ?_
      refine sx rfl (stp_assign (v := .bool true) rfl ?_)
      refine sx_nil ?_
      refine wp_ret ?_; repeat (first | refine then_ret ?_ | refine blk_ret ?_)
      refine ret1 Try.results3 rfl ?_
      exact ⟨rfl, st8.below⟩
    · skip
      have h10p := of_decide_eq_false h10
      have h10q := szL_ge h10p (by omega)
      refine wp_skip ?_
      refine wp_seq ?_
      refine sx_region ?_
      refine sx rfl (stp_move (v := v0) rfl ?_)
      refine sx rfl (stp_call1 Try.func7 rfl rfl ((toDeedS_n W6 (hs0.below st8.below) (by first | exact hw | omega | (simp only [Plan.wt, Run.wt, Yard.wt, Deed.wt, Note.wt, File.wt, Disk.wt, Engine.wt, WorldD.wt, ActD.wt, Span.wt, Crew.wt] at *; omega))).mono ?_)); rintro _ W13 ⟨v11, fp11, rfl, hk14⟩; refine ⟨_, rfl, ?_⟩
      have st15 := St.call st8 hk14
      refine sx rfl (stp_move (v := v1) rfl ?_)
      refine sx rfl (stp_call1 Try.func8 rfl rfl ((toReplyS_n W13 (hs1.below st15.below) (by first | exact hw | omega | (simp only [Plan.wt, Run.wt, Yard.wt, Deed.wt, Note.wt, File.wt, Disk.wt, Engine.wt, WorldD.wt, ActD.wt, Span.wt, Crew.wt] at *; omega))).mono ?_)); rintro _ W19 ⟨v17, fp17, rfl, hk20⟩; refine ⟨_, rfl, ?_⟩
      have st21 := St.call st15 hk20
      refine sx rfl (stp_call2 Try.func6 rfl rfl rfl ((SoonS W19 (own_Sl (st21.get 1 rfl)) (own_Sl (st21.get 0 rfl))).mono ?_)); rintro _ W25 ⟨v23, fp23, rfl, hk26⟩; refine ⟨_, rfl, ?_⟩
      have st27 := St.call st21 hk26
      refine sx rfl (stp_assign (v := v23) rfl ?_)
      refine sx_nil ?_
      refine wp_seq ?_
      refine sx_region ?_
      refine sx rfl (stp_move (v := v0) rfl ?_)
      refine sx rfl (stp_call1 Try.func7 rfl rfl ((toDeedS_n W25 (hs0.below st27.below) (by first | exact hw | omega | (simp only [Plan.wt, Run.wt, Yard.wt, Deed.wt, Note.wt, File.wt, Disk.wt, Engine.wt, WorldD.wt, ActD.wt, Span.wt, Crew.wt] at *; omega))).mono ?_)); rintro _ W31 ⟨v29, fp29, rfl, hk32⟩; refine ⟨_, rfl, ?_⟩
      have st33 := St.call st27 hk32
      refine sx rfl (stp_assign (v := v29) rfl ?_)
      refine sx_nil ?_
      refine wp_seq ?_
      refine sx_region ?_
      refine sx rfl (stp_move (v := v1) rfl ?_)
      refine sx rfl (stp_call1 Try.func8 rfl rfl ((toReplyS_n W31 (hs1.below st33.below) (by first | exact hw | omega | (simp only [Plan.wt, Run.wt, Yard.wt, Deed.wt, Note.wt, File.wt, Disk.wt, Engine.wt, WorldD.wt, ActD.wt, Span.wt, Crew.wt] at *; omega))).mono ?_)); rintro _ W37 ⟨v35, fp35, rfl, hk38⟩; refine ⟨_, rfl, ?_⟩
      have st39 := St.call st33 hk38
      refine sx rfl (stp_assign (v := v35) rfl ?_)
      refine sx_nil ?_
      refine wp_seq ?_
      refine sx_region ?_
      refine sx rfl (stp_move (v := v29) rfl ?_)
      refine sx rfl (stp_move (v := v35) rfl ?_)
      refine sx rfl (stp_call2 Try.func9 rfl rfl rfl ((SoonI W37 (own_Sl (st39.get 1 rfl)) (own_Sl (st39.get 0 rfl))).mono ?_)); rintro _ W43 ⟨v41, fp41, rfl, hk44⟩; refine ⟨_, rfl, ?_⟩
      have st45 := St.call st39 hk44
      refine sx rfl (stp_assign (v := v41) rfl ?_)
      refine sx_nil ?_
      refine wp_seq ?_
      refine wp_seq ?_
      refine sx_region ?_
      refine sx rfl (stp_move (v := v41) rfl ?_)
      refine sx rfl (stp_move (v := v23) rfl ?_)
      refine sx rfl (stp_call2 Try.func10 rfl rfl rfl ((eqIntS_n W43 (own_Sl (st45.get 0 rfl)) (own_Sl (st45.get 3 rfl))).mono ?_)); rintro _ W47 ⟨rfl, hk48⟩; refine ⟨_, rfl, ?_⟩
      have st49 := St.call st45 hk48
      refine sx rfl (stp_not rfl ?_)
      refine sx_nil ?_
      refine sx_if rfl (fun h51 => ?_) (fun h51 => ?_)
      · skip
        exact absurd (bnot_t h51) (by rw [eqB_t rfl]; decide)
      · skip
        refine wp_skip ?_
        refine wp_seq ?_
        refine wp_seq ?_
        refine sx_region ?_
        refine sx rfl (stp_move (v := v29) rfl ?_)
        refine sx rfl (stp_move (v := v0) rfl ?_)
        refine sx rfl (stp_call1 Try.func7 rfl rfl ((toDeedS_n W47 (hs0.below st49.below) (by first | exact hw | omega | (simp only [Plan.wt, Run.wt, Yard.wt, Deed.wt, Note.wt, File.wt, Disk.wt, Engine.wt, WorldD.wt, ActD.wt, Span.wt, Crew.wt] at *; omega))).mono ?_)); rintro _ W54 ⟨v52, fp52, rfl, hk55⟩; refine ⟨_, rfl, ?_⟩
        have st56 := St.call st49 hk55
        refine sx rfl (stp_call2 Try.func11 rfl rfl rfl ((eqDeedS_n W54 (own_Sl (st56.get 3 rfl)) (own_Sl (st56.get 0 rfl))).mono ?_)); rintro _ W58 ⟨rfl, hk59⟩; refine ⟨_, rfl, ?_⟩
        have st60 := St.call st56 hk59
        refine sx rfl (stp_not rfl ?_)
        refine sx_nil ?_
        refine sx_if rfl (fun h62 => ?_) (fun h62 => ?_)
        · skip
          exact absurd (bnot_t h62) (by rw [eqB_t rfl]; decide)
        · skip
          refine wp_skip ?_
          refine wp_seq ?_
          refine wp_seq ?_
          refine sx_region ?_
          refine sx rfl (stp_move (v := v35) rfl ?_)
          refine sx rfl (stp_move (v := v1) rfl ?_)
          refine sx rfl (stp_call1 Try.func8 rfl rfl ((toReplyS_n W58 (hs1.below st60.below) (by first | exact hw | omega | (simp only [Plan.wt, Run.wt, Yard.wt, Deed.wt, Note.wt, File.wt, Disk.wt, Engine.wt, WorldD.wt, ActD.wt, Span.wt, Crew.wt] at *; omega))).mono ?_)); rintro _ W65 ⟨v63, fp63, rfl, hk66⟩; refine ⟨_, rfl, ?_⟩
          have st67 := St.call st60 hk66
          refine sx rfl (stp_call2 Try.func12 rfl rfl rfl ((eqReplyS_n W65 (own_Sl (st67.get 3 rfl)) (own_Sl (st67.get 0 rfl))).mono ?_)); rintro _ W69 ⟨rfl, hk70⟩; refine ⟨_, rfl, ?_⟩
          have st71 := St.call st67 hk70
          refine sx rfl (stp_not rfl ?_)
          refine sx_nil ?_
          refine sx_if rfl (fun h73 => ?_) (fun h73 => ?_)
          · skip
            exact absurd (bnot_t h73) (by rw [eqB_t rfl]; decide)
          · skip
            refine wp_skip ?_
            refine wp_seq ?_
            refine sx_region ?_
            refine sx rfl (stp_assign (v := I 1) rfl ?_)
            refine sx_nil ?_
            refine wp_seq ?_
            refine sx_region ?_
            refine sx rfl (stp_move (v := v29) rfl ?_)
            refine sx rfl (stp_move (v := I 1) rfl ?_)
            have st78 := st71.f4
            refine sx rfl (stp_call2 Try.func13 rfl rfl rfl ((markDeedS_n st78 1 (by omega) (by have := cb_DeedS xs0; omega)).mono ?_)); rintro _ W74 ⟨fp77, rfl, st76⟩; refine ⟨_, rfl, ?_⟩
            refine sx rfl (stp_assign (v := I (1 + (cL neE_Deed xs0 : Nat))) rfl ?_)
            refine sx_nil ?_
            refine wp_seq ?_
            refine sx_region ?_
            refine sx rfl (stp_move (v := v35) rfl ?_)
            refine sx rfl (stp_move (v := I (1 + (cL neE_Deed xs0 : Nat))) rfl ?_)
            have st83 := st76.f4
            refine sx rfl (stp_call2 Try.func14 rfl rfl rfl ((markReplyS_n st83 (1 + (cL neE_Deed xs0 : Nat)) (by omega) (by have := cb_ReplyS xs1; omega)).mono ?_)); rintro _ W79 ⟨fp82, rfl, st81⟩; refine ⟨_, rfl, ?_⟩
            refine sx rfl (stp_assign (v := I ((1 + (cL neE_Deed xs0 : Nat)) + (cL neE_Reply xs1 : Nat))) rfl ?_)
            refine sx_nil ?_
            refine wp_seq ?_
            refine wp_seq ?_
            refine sx_region ?_
            refine sx rfl (stp_move (v := I ((1 + (cL neE_Deed xs0 : Nat)) + (cL neE_Reply xs1 : Nat))) rfl ?_)
            refine sx rfl (stp_lss rfl rfl ?_)
            refine sx rfl (stp_move (v := .bool (decide (((1 + (cL neE_Deed xs0 : Nat)) + (cL neE_Reply xs1 : Nat)) < 0))) rfl ?_)
            rcases bd (decide (((1 + (cL neE_Deed xs0 : Nat)) + (cL neE_Reply xs1 : Nat)) < 0)) with h84 | h84
            · skip
              have h84p := of_decide_eq_false h84
              refine sx_on (j := 2) (dd := 58) rfl rfl (by decide) (yl_on (e := decide (((1 + (cL neE_Deed xs0 : Nat)) + (cL neE_Reply xs1 : Nat)) < 0)) rfl h84) (stp_move (v := v41) rfl ?_)
              refine sx_on (j := 2) (dd := 58) rfl rfl (by decide) (yl_on (e := decide (((1 + (cL neE_Deed xs0 : Nat)) + (cL neE_Reply xs1 : Nat)) < 0)) rfl h84) (stp_move (v := v23) rfl ?_)
              refine sx_on (j := 2) (dd := 58) rfl rfl (by decide) (yl_on (e := decide (((1 + (cL neE_Deed xs0 : Nat)) + (cL neE_Reply xs1 : Nat)) < 0)) rfl h84) (stp_call2 Try.func10 rfl rfl rfl ((eqIntS_n W79 (own_Sl (st81.get 4 rfl)) (own_Sl (st81.get 5 rfl))).mono ?_)); rintro _ W85 ⟨rfl, hk86⟩; refine ⟨_, rfl, ?_⟩
              have st87 := St.call st81 hk86
              refine sx_on (j := 2) (dd := 58) rfl rfl (by decide) (yl_on (e := decide (((1 + (cL neE_Deed xs0 : Nat)) + (cL neE_Reply xs1 : Nat)) < 0)) rfl h84) (stp_not rfl ?_)
              refine sx rfl (stp_pick_f (v := .bool (!(eqB (soonOf xs0 xs1) (soonOf xs0 xs1)))) ((rfl : _ = (.bool (decide (((1 + (cL neE_Deed xs0 : Nat)) + (cL neE_Reply xs1 : Nat)) < 0)) : Value)).trans (congrArg Value.bool h84)) rfl ?_)
              refine sx_nil ?_
              refine sx_f rfl h51 ?_
              refine wp_skip ?_
              refine wp_seq ?_
              refine sx_region ?_
              refine sx rfl (stp_assign (v := I 1) rfl ?_)
              refine sx_nil ?_
              refine wp_seq ?_
              refine sx_region ?_
              refine sx rfl (stp_move (v := v41) rfl ?_)
              refine sx rfl (stp_move (v := I 1) rfl ?_)
              have st93 := st87.f4
              refine sx rfl (stp_call2 Try.func15 rfl rfl rfl ((markIntS_n st93 1 (by omega) (by have := cb_IntS (soonOf xs0 xs1); omega)).mono ?_)); rintro _ W89 ⟨fp92, rfl, st91⟩; refine ⟨_, rfl, ?_⟩
              refine sx rfl (stp_assign (v := I (1 + (cL neI (soonOf xs0 xs1) : Nat))) rfl ?_)
              refine sx_nil ?_
              refine wp_seq ?_
              refine sx_region ?_
              refine sx rfl (stp_assign (v := I 1) rfl ?_)
              refine sx_nil ?_
              refine wp_seq ?_
              refine sx_region ?_
              refine sx rfl (stp_move (v := v41) rfl ?_)
              refine sx rfl (stp_move (v := I 1) rfl ?_)
              refine sx rfl (stp_call2 Try.func16 rfl rfl rfl ((heldIntS_n W89 (x := (soonOf xs0 xs1)) (own_Sl (st91.get 0 rfl)) (by omega) (by have := cb_IntS (soonOf xs0 xs1); omega)).mono ?_)); rintro _ W94 ⟨rfl, hk95⟩; refine ⟨_, rfl, ?_⟩
              have st96 := St.call st91 hk95
              refine sx rfl (stp_assign (v := I (1 + (cL neI (soonOf xs0 xs1) : Nat))) rfl ?_)
              refine sx_nil ?_
              refine wp_seq ?_
              refine wp_seq ?_
              refine sx_region ?_
              refine sx rfl (stp_move (v := I (1 + (cL neI (soonOf xs0 xs1) : Nat))) rfl ?_)
              refine sx rfl (stp_lss rfl rfl ?_)
              refine sx_nil ?_
              refine sx_if rfl (fun h98 => ?_) (fun h98 => ?_)
              · skip
                have h98p := of_decide_eq_true h98
                omega
              · skip
                have h98p := of_decide_eq_false h98
                refine wp_skip ?_
                refine wp_seq ?_
                refine wp_seq ?_
                refine sx_region ?_
                refine sx rfl (stp_move (v := I (1 + (cL neI (soonOf xs0 xs1) : Nat))) rfl ?_)
                refine sx rfl (stp_move (v := I (1 + (cL neI (soonOf xs0 xs1) : Nat))) rfl ?_)
                refine sx rfl (stp_neq rfl rfl ?_)
                refine sx_nil ?_
                refine sx_if rfl (fun h99 => ?_) (fun h99 => ?_)
                · skip
                  have h99p := of_decide_eq_false (bnot_t h99)
                  exact absurd rfl h99p
                · skip
                  have h99p := of_decide_eq_true (bnot_f h99)
                  refine wp_skip ?_
                  refine wp_seq ?_
                  refine sx_region ?_
                  refine sx rfl (stp_move (v := v0) rfl ?_)
                  refine sx rfl (stp_call1 Try.func7 rfl rfl ((toDeedS_n W94 (hs0.below st96.below) (by first | exact hw | omega | (simp only [Plan.wt, Run.wt, Yard.wt, Deed.wt, Note.wt, File.wt, Disk.wt, Engine.wt, WorldD.wt, ActD.wt, Span.wt, Crew.wt] at *; omega))).mono ?_)); rintro _ W102 ⟨v100, fp100, rfl, hk103⟩; refine ⟨_, rfl, ?_⟩
                  have st104 := St.call st96 hk103
                  refine sx rfl (stp_move (v := v1) rfl ?_)
                  refine sx rfl (stp_call1 Try.func8 rfl rfl ((toReplyS_n W102 (hs1.below st104.below) (by first | exact hw | omega | (simp only [Plan.wt, Run.wt, Yard.wt, Deed.wt, Note.wt, File.wt, Disk.wt, Engine.wt, WorldD.wt, ActD.wt, Span.wt, Crew.wt] at *; omega))).mono ?_)); rintro _ W108 ⟨v106, fp106, rfl, hk109⟩; refine ⟨_, rfl, ?_⟩
                  have st110 := St.call st104 hk109
                  refine sx rfl (stp_call2 Try.func9 rfl rfl rfl ((SoonI W108 (own_Sl (st110.get 1 rfl)) (own_Sl (st110.get 0 rfl))).mono ?_)); rintro _ W114 ⟨v112, fp112, rfl, hk115⟩; refine ⟨_, rfl, ?_⟩
                  have st116 := St.call st110 hk115
                  refine sx rfl (stp_assign (v := v112) rfl ?_)
                  refine sx_nil ?_
                  refine wp_seq ?_
                  refine wp_seq ?_
                  refine sx_region ?_
                  refine sx rfl (stp_move (v := v112) rfl ?_)
                  refine sx rfl (stp_move (v := v23) rfl ?_)
                  refine sx rfl (stp_call2 Try.func10 rfl rfl rfl ((eqIntS_n W114 (own_Sl (st116.get 0 rfl)) (own_Sl (st116.get 8 rfl))).mono ?_)); rintro _ W118 ⟨rfl, hk119⟩; refine ⟨_, rfl, ?_⟩
                  have st120 := St.call st116 hk119
                  refine sx rfl (stp_not rfl ?_)
                  refine sx_nil ?_
                  refine sx_f rfl h51 ?_
                  refine wp_skip ?_
                  refine wp_seq ?_
                  refine sx_region ?_
                  refine sx rfl (stp_assign (v := I 1) rfl ?_)
                  refine sx_nil ?_
                  refine wp_seq ?_
                  refine sx_region ?_
                  refine sx rfl (stp_move (v := v41) rfl ?_)
                  refine sx rfl (stp_move (v := I 1) rfl ?_)
                  refine sx rfl (stp_call2 Try.func16 rfl rfl rfl ((heldIntS_n W118 (x := (soonOf xs0 xs1)) (own_Sl (st120.get 3 rfl)) (by omega) (by have := cb_IntS (soonOf xs0 xs1); omega)).mono ?_)); rintro _ W122 ⟨rfl, hk123⟩; refine ⟨_, rfl, ?_⟩
                  have st124 := St.call st120 hk123
                  refine sx rfl (stp_assign (v := I (1 + (cL neI (soonOf xs0 xs1) : Nat))) rfl ?_)
                  refine sx_nil ?_
                  refine wp_seq ?_
                  refine wp_seq ?_
                  refine sx_region ?_
                  refine sx rfl (stp_move (v := I (1 + (cL neI (soonOf xs0 xs1) : Nat))) rfl ?_)
                  refine sx rfl (stp_lss rfl rfl ?_)
                  refine sx_nil ?_
                  refine sx_f rfl h98 ?_
                  refine wp_skip ?_
                  refine wp_seq ?_
                  refine wp_seq ?_
                  refine sx_region ?_
                  refine sx rfl (stp_move (v := I (1 + (cL neI (soonOf xs0 xs1) : Nat))) rfl ?_)
                  refine sx rfl (stp_move (v := I (1 + (cL neI (soonOf xs0 xs1) : Nat))) rfl ?_)
                  refine sx rfl (stp_neq rfl rfl ?_)
                  refine sx_nil ?_
                  refine sx_f rfl h99 ?_
                  refine wp_skip ?_
                  refine wp_seq ?_
                  refine sx_region ?_
                  refine sx rfl (stp_assign (v := .bool true) rfl ?_)
                  refine sx_nil ?_
                  refine wp_ret ?_; repeat (first | refine then_ret ?_ | refine blk_ret ?_)
                  refine ret1 Try.results3 rfl ?_
                  exact ⟨rfl, st124.below⟩
            · skip
              have h84p := of_decide_eq_true h84
              omega
end Go.Proofs.Ytchnllpegfbleaa
