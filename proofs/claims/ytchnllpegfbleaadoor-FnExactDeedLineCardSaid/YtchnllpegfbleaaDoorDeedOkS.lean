/-
  DeedOk of the reference; SpanOk. (Printed by a program of this project's.)
-/
import Derived.Test.YtchnllpegfbleaaDoorDeedOk
namespace Go.Proofs.YtchnllpegfbleaaDoor
set_option linter.unusedSimpArgs false
set_option linter.unusedVariables false
set_option maxRecDepth 100000
open Go.RowKit

set_option maxHeartbeats 2000000 in
theorem DeedOkS_0 (w : World) {d : Deed} {cs : List Value} {fp : List Nat} (hc : Shape.C w cs d fp) (hk : inB d.kind 1 8 = false) :
    Calls Tryd.prog 35 #[.agg cs.toArray] w fun e w' => e = .returned (.bool (deedOk d)) ∧ St w w' [] := by
  refine enter1 Tryd.func35 rfl Tryd.ntmps35 (by decide) ?_
  refine wp_seq ?_
  refine sx_region ?_
  refine sx rfl (stp_box_agg (cs := cs) rfl (St.start w) ?_); intro b1 W2 hb3 st4
  refine sx rfl (stp_assign (v := .bool false) rfl ?_)
  refine sx_nil ?_
  refine wp_seq ?_
  refine wp_seq ?_
  refine sx_region ?_
  refine sx rfl (stp_fieldAddr fa_Deed_0 rfl ?_)
  have hk6 := hc
  obtain ⟨v6_0, g6_0, rfl, hok6, h6_0, rfl⟩ := hk6
  refine sx rfl (stp_load_bx ld_int rfl rfl (st4.get 0 rfl) (i := 0) rfl rfl ?_)
  refine sx rfl (stp_call3 Tryd.func28 rfl rfl rfl rfl ((l01In_n W2 d.kind 1 8).mono ?_)); rintro _ W7 ⟨rfl, hk8⟩; refine ⟨_, rfl, ?_⟩
  have st9 := St.call st4 hk8
  refine sx rfl (stp_not rfl ?_)
  refine sx_nil ?_
  refine sx_t rfl (congrArg not hk) ?_
  refine wp_seq ?_
  refine sx_region ?_
  refine sx rfl (stp_assign (v := .bool false) rfl ?_)
  refine sx_nil ?_
  refine wp_ret ?_; repeat (first | refine then_ret ?_ | refine blk_ret ?_)
  refine ret1 Tryd.results35 rfl ?_
  exact ⟨(congrArg (fun z => Ending.returned (.bool z)) (deedOk_0 hk).symm), st9.bare⟩
set_option maxHeartbeats 2000000 in
theorem DeedOkS_1 (w : World) {d : Deed} {cs : List Value} {fp : List Nat} (hc : Shape.C w cs d fp) (hk : d.kind = 1) :
    Calls Tryd.prog 35 #[.agg cs.toArray] w fun e w' => e = .returned (.bool (deedOk d)) ∧ St w w' [] := by
  refine enter1 Tryd.func35 rfl Tryd.ntmps35 (by decide) ?_
  have hki : inB d.kind 1 8 = true := by rw [hk]; rfl
  have kf_1 : decide (d.kind = 1) = true := by rw [hk]; rfl
  have kf_2 : decide (d.kind = 2) = false := by rw [hk]; rfl
  have kf_3 : decide (d.kind = 3) = false := by rw [hk]; rfl
  have kf_4 : decide (d.kind = 4) = false := by rw [hk]; rfl
  have kf_5 : decide (d.kind = 5) = false := by rw [hk]; rfl
  have kf_6 : decide (d.kind = 6) = false := by rw [hk]; rfl
  have kf_7 : decide (d.kind = 7) = false := by rw [hk]; rfl
  have kf_8 : decide (d.kind = 8) = false := by rw [hk]; rfl
  refine wp_seq ?_
  refine sx_region ?_
  refine sx rfl (stp_box_agg (cs := cs) rfl (St.start w) ?_); intro b1 W2 hb3 st4
  refine sx rfl (stp_assign (v := .bool false) rfl ?_)
  refine sx_nil ?_
  refine wp_seq ?_
  refine wp_seq ?_
  refine sx_region ?_
  refine sx rfl (stp_fieldAddr fa_Deed_0 rfl ?_)
  have hk6 := hc
  obtain ⟨v6_0, g6_0, rfl, hok6, h6_0, rfl⟩ := hk6
  refine sx rfl (stp_load_bx ld_int rfl rfl (st4.get 0 rfl) (i := 0) rfl rfl ?_)
  refine sx rfl (stp_call3 Tryd.func28 rfl rfl rfl rfl ((l01In_n W2 d.kind 1 8).mono ?_)); rintro _ W7 ⟨rfl, hk8⟩; refine ⟨_, rfl, ?_⟩
  have st9 := St.call st4 hk8
  refine sx rfl (stp_not rfl ?_)
  refine sx_nil ?_
  refine sx_f rfl (congrArg not hki) ?_
  refine wp_skip ?_
  refine wp_seq ?_
  refine sx_region ?_
  refine sx rfl (stp_fieldAddr fa_Deed_0 rfl ?_)
  refine sx rfl (stp_load_bx ld_int rfl rfl (st9.get 0 rfl) (i := 0) rfl rfl ?_)
  refine sx rfl (stp_eql rfl rfl ?_)
  refine sx rfl (stp_assign (v := .bool (decide (d.kind = 2))) rfl ?_)
  refine sx_nil ?_
  refine wp_seq ?_
  refine sx_region ?_
  refine sx rfl (stp_fieldAddr fa_Deed_0 rfl ?_)
  refine sx rfl (stp_load_bx ld_int rfl rfl (st9.get 0 rfl) (i := 0) rfl rfl ?_)
  refine sx rfl (stp_eql rfl rfl ?_)
  refine sx rfl (stp_move (v := .bool (decide (d.kind = 3))) rfl ?_)
  refine sx_on (j := 3) (dd := 16) rfl rfl (by decide) (yl_on (e := decide (d.kind = 3)) rfl kf_3) (stp_fieldAddr fa_Deed_0 rfl ?_)
  refine sx_on (j := 3) (dd := 16) rfl rfl (by decide) (yl_on (e := decide (d.kind = 3)) rfl kf_3) (stp_load_bx ld_int rfl rfl (st9.get 0 rfl) (i := 0) rfl rfl ?_)
  refine sx_on (j := 3) (dd := 16) rfl rfl (by decide) (yl_on (e := decide (d.kind = 3)) rfl kf_3) (stp_eql rfl rfl ?_)
  refine sx rfl (stp_pick_f (v := .bool (decide (d.kind = 4))) ((rfl : _ = (.bool (decide (d.kind = 3)) : Value)).trans (congrArg Value.bool kf_3)) rfl ?_)
  refine sx rfl (stp_assign (v := .bool (decide (d.kind = 4))) rfl ?_)
  refine sx_nil ?_
  refine wp_seq ?_
  refine sx_region ?_
  refine sx rfl (stp_move (v := .bool (decide (d.kind = 2))) rfl ?_)
  refine sx rfl (stp_not rfl ?_)
  refine sx rfl (stp_move (v := .bool (!decide (d.kind = 2))) rfl ?_)
  refine sx_on (j := 2) (dd := 23) rfl rfl (by decide) (yl_on (e := !decide (d.kind = 2)) rfl (congrArg not kf_2)) (stp_fieldAddr fa_Deed_0 rfl ?_)
  refine sx_on (j := 2) (dd := 23) rfl rfl (by decide) (yl_on (e := !decide (d.kind = 2)) rfl (congrArg not kf_2)) (stp_load_bx ld_int rfl rfl (st9.get 0 rfl) (i := 0) rfl rfl ?_)
  refine sx_on (j := 2) (dd := 23) rfl rfl (by decide) (yl_on (e := !decide (d.kind = 2)) rfl (congrArg not kf_2)) (stp_neq rfl rfl ?_)
  refine sx rfl (stp_pick_t (v := .bool (!decide (d.kind = 5))) ((rfl : _ = (.bool (!decide (d.kind = 2)) : Value)).trans (congrArg Value.bool (congrArg not kf_2))) rfl ?_)
  refine sx rfl (stp_move (v := .bool (!decide (d.kind = 5))) rfl ?_)
  refine sx_on (j := 7) (dd := 28) rfl rfl (by decide) (yl_on (e := !decide (d.kind = 5)) rfl (congrArg not kf_5)) (stp_fieldAddr fa_Deed_0 rfl ?_)
  refine sx_on (j := 7) (dd := 28) rfl rfl (by decide) (yl_on (e := !decide (d.kind = 5)) rfl (congrArg not kf_5)) (stp_load_bx ld_int rfl rfl (st9.get 0 rfl) (i := 0) rfl rfl ?_)
  refine sx_on (j := 7) (dd := 28) rfl rfl (by decide) (yl_on (e := !decide (d.kind = 5)) rfl (congrArg not kf_5)) (stp_neq rfl rfl ?_)
  refine sx rfl (stp_pick_t (v := .bool (!decide (d.kind = 8))) ((rfl : _ = (.bool (!decide (d.kind = 5)) : Value)).trans (congrArg Value.bool (congrArg not kf_5))) rfl ?_)
  refine sx rfl (stp_assign (v := .bool (!decide (d.kind = 8))) rfl ?_)
  refine sx_nil ?_
  refine wp_seq ?_
  refine wp_seq ?_
  refine sx_region ?_
  refine sx rfl (stp_move (v := .bool (!decide (d.kind = 8))) rfl ?_)
  refine sx rfl (stp_move (v := .bool (!decide (d.kind = 8))) rfl ?_)
  refine sx_on (j := 1) (dd := 34) rfl rfl (by decide) (yl_on (e := !decide (d.kind = 8)) rfl (congrArg not kf_8)) (stp_fieldAddr fa_Deed_1 rfl ?_)
  refine sx_on (j := 1) (dd := 34) rfl rfl (by decide) (yl_on (e := !decide (d.kind = 8)) rfl (congrArg not kf_8)) (stp_load_bx ld_int rfl rfl (st9.get 0 rfl) (i := 1) rfl rfl ?_)
  refine sx_on (j := 1) (dd := 34) rfl rfl (by decide) (yl_on (e := !decide (d.kind = 8)) rfl (congrArg not kf_8)) (stp_call1 Tryd.func56 rfl rfl ((numS W7 d.run).mono ?_)); rintro _ W11 ⟨rfl, hk12⟩; refine ⟨_, rfl, ?_⟩
  have st13 := St.call st9 hk12
  refine sx_on (j := 1) (dd := 34) rfl rfl (by decide) (yl_on (e := !decide (d.kind = 8)) rfl (congrArg not kf_8)) (stp_not rfl ?_)
  refine sx rfl (stp_pick_t (v := .bool (!(num d.run))) ((rfl : _ = (.bool (!decide (d.kind = 8)) : Value)).trans (congrArg Value.bool (congrArg not kf_8))) rfl ?_)
  refine sx rfl (stp_move (v := .bool (!(num d.run))) rfl ?_)
  rcases bd (!(num d.run)) with h15 | h15
  · skip
    refine sx_on (j := 7) (dd := 40) rfl rfl (by decide) (yl_on (e := !(num d.run)) rfl h15) (stp_move (v := .bool (!decide (d.kind = 8))) rfl ?_)
    refine sx_on (j := 7) (dd := 40) rfl rfl (by decide) (yl_on (e := !(num d.run)) rfl h15) (stp_not rfl ?_)
    refine sx_on (j := 7) (dd := 40) rfl rfl (by decide) (yl_on (e := !(num d.run)) rfl h15) (stp_move (v := .bool (!(!decide (d.kind = 8)))) rfl ?_)
    iterate 3 refine sx_off (j := 10) (dd := 43) rfl rfl (by decide) (yl_off (e := !(!decide (d.kind = 8))) rfl (congrArg not (congrArg not kf_8))) ?_
    refine sx_on (j := 7) (dd := 40) rfl rfl (by decide) (yl_on (e := !(num d.run)) rfl h15) (stp_pick_f (v := .bool false) ((rfl : _ = (.bool (!(!decide (d.kind = 8))) : Value)).trans (congrArg Value.bool (congrArg not (congrArg not kf_8)))) rfl ?_)
    refine sx rfl (stp_pick_f (v := .bool false) ((rfl : _ = (.bool (!(num d.run)) : Value)).trans (congrArg Value.bool h15)) rfl ?_)
    refine sx rfl (stp_move (v := .bool false) rfl ?_)
    refine sx_on (j := 16) (dd := 49) rfl rfl (by decide) (yl_on (e := false) rfl rfl) (stp_move (v := .bool (decide (d.kind = 4))) rfl ?_)
    refine sx_on (j := 16) (dd := 49) rfl rfl (by decide) (yl_on (e := false) rfl rfl) (stp_move (v := .bool (decide (d.kind = 4))) rfl ?_)
    iterate 5 refine sx_off (j := 18) (dd := 51) rfl rfl (by decide) (yl_off (e := decide (d.kind = 4)) rfl kf_4) ?_
    iterate 4 refine sx_off rfl rfl (by decide) (yl_und rfl) ?_
    refine sx_off (j := 18) (dd := 51) rfl rfl (by decide) (yl_off (e := decide (d.kind = 4)) rfl kf_4) ?_
    refine sx_on (j := 16) (dd := 49) rfl rfl (by decide) (yl_on (e := false) rfl rfl) (stp_pick_f (v := .bool false) ((rfl : _ = (.bool (decide (d.kind = 4)) : Value)).trans (congrArg Value.bool kf_4)) rfl ?_)
    refine sx rfl (stp_pick_f (v := .bool false) rfl rfl ?_)
    refine sx rfl (stp_move (v := .bool false) rfl ?_)
    refine sx_on (j := 31) (dd := 64) rfl rfl (by decide) (yl_on (e := false) rfl rfl) (stp_move (v := .bool (decide (d.kind = 4))) rfl ?_)
    refine sx_on (j := 31) (dd := 64) rfl rfl (by decide) (yl_on (e := false) rfl rfl) (stp_not rfl ?_)
    refine sx_on (j := 31) (dd := 64) rfl rfl (by decide) (yl_on (e := false) rfl rfl) (stp_move (v := .bool (!decide (d.kind = 4))) rfl ?_)
    refine sx_on (j := 34) (dd := 67) rfl rfl (by decide) (yl_on (e := !decide (d.kind = 4)) rfl (congrArg not kf_4)) (stp_fieldAddr fa_Deed_3 rfl ?_)
    refine sx_on (j := 34) (dd := 67) rfl rfl (by decide) (yl_on (e := !decide (d.kind = 4)) rfl (congrArg not kf_4)) (stp_load_bx ld_int rfl rfl (st13.get 0 rfl) (i := 7) rfl rfl ?_)
    refine sx_on (j := 34) (dd := 67) rfl rfl (by decide) (yl_on (e := !decide (d.kind = 4)) rfl (congrArg not kf_4)) (stp_neq rfl rfl ?_)
    refine sx_on (j := 34) (dd := 67) rfl rfl (by decide) (yl_on (e := !decide (d.kind = 4)) rfl (congrArg not kf_4)) (stp_move (v := .bool (!decide (d.task = 0))) rfl ?_)
    rcases bd (!decide (d.task = 0)) with h16 | h16
    · skip
      have h16p := of_decide_eq_true (bnot_f h16)
      refine sx_on (j := 38) (dd := 71) rfl rfl (by decide) (yl_on (e := !decide (d.task = 0)) rfl h16) (stp_fieldAddr fa_Deed_4 rfl ?_)
      refine sx_on (j := 38) (dd := 71) rfl rfl (by decide) (yl_on (e := !decide (d.task = 0)) rfl h16) (stp_load_bx ld_int rfl rfl (st13.get 0 rfl) (i := 8) rfl rfl ?_)
      refine sx_on (j := 38) (dd := 71) rfl rfl (by decide) (yl_on (e := !decide (d.task = 0)) rfl h16) (stp_neq rfl rfl ?_)
      refine sx_on (j := 34) (dd := 67) rfl rfl (by decide) (yl_on (e := !decide (d.kind = 4)) rfl (congrArg not kf_4)) (stp_pick_f (v := .bool (!decide (d.try_ = 0))) ((rfl : _ = (.bool (!decide (d.task = 0)) : Value)).trans (congrArg Value.bool h16)) rfl ?_)
      refine sx_on (j := 31) (dd := 64) rfl rfl (by decide) (yl_on (e := false) rfl rfl) (stp_pick_t (v := .bool (!decide (d.try_ = 0))) ((rfl : _ = (.bool (!decide (d.kind = 4)) : Value)).trans (congrArg Value.bool (congrArg not kf_4))) rfl ?_)
      refine sx rfl (stp_pick_f (v := .bool (!decide (d.try_ = 0))) rfl rfl ?_)
      refine sx rfl (stp_move (v := .bool (!decide (d.try_ = 0))) rfl ?_)
      rcases bd (!decide (d.try_ = 0)) with h17 | h17
      · skip
        have h17p := of_decide_eq_true (bnot_f h17)
        refine sx_on (j := 45) (dd := 78) rfl rfl (by decide) (yl_on (e := !decide (d.try_ = 0)) rfl h17) (stp_move (v := .bool (decide (d.kind = 2))) rfl ?_)
        refine sx_on (j := 45) (dd := 78) rfl rfl (by decide) (yl_on (e := !decide (d.try_ = 0)) rfl h17) (stp_move (v := .bool (decide (d.kind = 2))) rfl ?_)
        iterate 5 refine sx_off (j := 47) (dd := 80) rfl rfl (by decide) (yl_off (e := decide (d.kind = 2)) rfl kf_2) ?_
        iterate 4 refine sx_off rfl rfl (by decide) (yl_und rfl) ?_
        refine sx_off (j := 47) (dd := 80) rfl rfl (by decide) (yl_off (e := decide (d.kind = 2)) rfl kf_2) ?_
        refine sx_on (j := 45) (dd := 78) rfl rfl (by decide) (yl_on (e := !decide (d.try_ = 0)) rfl h17) (stp_pick_f (v := .bool false) ((rfl : _ = (.bool (decide (d.kind = 2)) : Value)).trans (congrArg Value.bool kf_2)) rfl ?_)
        refine sx rfl (stp_pick_f (v := .bool false) ((rfl : _ = (.bool (!decide (d.try_ = 0)) : Value)).trans (congrArg Value.bool h17)) rfl ?_)
        refine sx rfl (stp_move (v := .bool false) rfl ?_)
        refine sx_on (j := 60) (dd := 93) rfl rfl (by decide) (yl_on (e := false) rfl rfl) (stp_move (v := .bool (decide (d.kind = 2))) rfl ?_)
        refine sx_on (j := 60) (dd := 93) rfl rfl (by decide) (yl_on (e := false) rfl rfl) (stp_not rfl ?_)
        refine sx_on (j := 60) (dd := 93) rfl rfl (by decide) (yl_on (e := false) rfl rfl) (stp_move (v := .bool (!decide (d.kind = 2))) rfl ?_)
        refine sx_on (j := 63) (dd := 96) rfl rfl (by decide) (yl_on (e := !decide (d.kind = 2)) rfl (congrArg not kf_2)) (stp_fieldAddr fa_Deed_5 rfl ?_)
        refine sx_on (j := 63) (dd := 96) rfl rfl (by decide) (yl_on (e := !decide (d.kind = 2)) rfl (congrArg not kf_2)) (stp_load_bx ld_int rfl rfl (st13.get 0 rfl) (i := 9) rfl rfl ?_)
        refine sx_on (j := 63) (dd := 96) rfl rfl (by decide) (yl_on (e := !decide (d.kind = 2)) rfl (congrArg not kf_2)) (stp_neq rfl rfl ?_)
        refine sx_on (j := 63) (dd := 96) rfl rfl (by decide) (yl_on (e := !decide (d.kind = 2)) rfl (congrArg not kf_2)) (stp_move (v := .bool (!decide (d.worker = 0))) rfl ?_)
        rcases bd (!decide (d.worker = 0)) with h18 | h18
        · skip
          have h18p := of_decide_eq_true (bnot_f h18)
          refine sx_on (j := 67) (dd := 100) rfl rfl (by decide) (yl_on (e := !decide (d.worker = 0)) rfl h18) (stp_fieldAddr fa_Deed_6 rfl ?_)
          refine sx_on (j := 67) (dd := 100) rfl rfl (by decide) (yl_on (e := !decide (d.worker = 0)) rfl h18) (stp_load_bx ld_int rfl rfl (st13.get 0 rfl) (i := 10) rfl rfl ?_)
          refine sx_on (j := 67) (dd := 100) rfl rfl (by decide) (yl_on (e := !decide (d.worker = 0)) rfl h18) (stp_neq rfl rfl ?_)
          refine sx_on (j := 63) (dd := 96) rfl rfl (by decide) (yl_on (e := !decide (d.kind = 2)) rfl (congrArg not kf_2)) (stp_pick_f (v := .bool (!decide (d.draw = 0))) ((rfl : _ = (.bool (!decide (d.worker = 0)) : Value)).trans (congrArg Value.bool h18)) rfl ?_)
          refine sx_on (j := 60) (dd := 93) rfl rfl (by decide) (yl_on (e := false) rfl rfl) (stp_pick_t (v := .bool (!decide (d.draw = 0))) ((rfl : _ = (.bool (!decide (d.kind = 2)) : Value)).trans (congrArg Value.bool (congrArg not kf_2))) rfl ?_)
          refine sx rfl (stp_pick_f (v := .bool (!decide (d.draw = 0))) rfl rfl ?_)
          refine sx_nil ?_
          refine sx_if rfl (fun h19 => ?_) (fun h19 => ?_)
          · skip
            have h19p := of_decide_eq_false (bnot_t h19)
            refine wp_seq ?_
            refine sx_region ?_
            refine sx rfl (stp_assign (v := .bool false) rfl ?_)
            refine sx_nil ?_
            refine wp_ret ?_; repeat (first | refine then_ret ?_ | refine blk_ret ?_)
            refine ret1 Tryd.results35 rfl ?_
            exact ⟨(congrArg (fun z => Ending.returned (.bool z)) (Eq.symm (by rw [deedOk_1 hk]; simp [num0, bnot_f h15, h16p, h17p, h18p, h19p]))), st13.bare⟩
          · skip
            have h19p := of_decide_eq_true (bnot_f h19)
            refine wp_skip ?_
            refine wp_seq ?_
            refine wp_seq ?_
            refine sx_region ?_
            refine sx rfl (stp_fieldAddr fa_Deed_0 rfl ?_)
            refine sx rfl (stp_load_bx ld_int rfl rfl (st13.get 0 rfl) (i := 0) rfl rfl ?_)
            refine sx rfl (stp_eql rfl rfl ?_)
            refine sx_nil ?_
            refine sx_t rfl kf_1 ?_
            refine wp_seq ?_
            refine sx_region ?_
            refine sx rfl (stp_fieldAddr fa_Deed_2 rfl ?_)
            refine sx rfl (stp_load_bxs (cs := [I d.plan.prio, I d.plan.most, I d.plan.wait, I d.plan.tasks, v6_0]) ld_Plan rfl rfl (st13.get 0 rfl) rfl rfl ?_)
            refine sx rfl (stp_call1 Tryd.func57 rfl rfl ((planNumS W11 (show Shape.C _ [I d.plan.prio, I d.plan.most, I d.plan.wait, I d.plan.tasks, v6_0] d.plan _ from ⟨_, _, rfl, (by simp only [Edge.ok, Plan.ok, Entry.ok, Task.ok, Run.ok, Yard.ok, Reply.ok, Deed.ok, Note.ok, Wait.ok, File.ok, Disk.ok, Engine.ok, WorldD.ok, ActD.ok, Hand.ok, Span.ok, Crew.ok, View.ok, I64] at *; omega), (h6_0.below st13.below), rfl⟩)).mono ?_)); rintro _ W20 ⟨rfl, hk21⟩; refine ⟨_, rfl, ?_⟩
            have st22 := St.call st13 hk21
            refine sx rfl (stp_assign (v := .bool (planNum d.plan)) rfl ?_)
            refine sx_nil ?_
            refine wp_ret ?_; repeat (first | refine then_ret ?_ | refine blk_ret ?_)
            refine ret1 Tryd.results35 rfl ?_
            exact ⟨(congrArg (fun z => Ending.returned (.bool z)) (Eq.symm (by rw [deedOk_1 hk]; simp [num0, bnot_f h15, h16p, h17p, h18p, h19p]))), st22.bare⟩
        · skip
          have h18p := of_decide_eq_false (bnot_t h18)
          iterate 3 refine sx_off (j := 67) (dd := 100) rfl rfl (by decide) (yl_off (e := !decide (d.worker = 0)) rfl h18) ?_
          refine sx_on (j := 63) (dd := 96) rfl rfl (by decide) (yl_on (e := !decide (d.kind = 2)) rfl (congrArg not kf_2)) (stp_pick_t (v := .bool true) ((rfl : _ = (.bool (!decide (d.worker = 0)) : Value)).trans (congrArg Value.bool h18)) rfl ?_)
          refine sx_on (j := 60) (dd := 93) rfl rfl (by decide) (yl_on (e := false) rfl rfl) (stp_pick_t (v := .bool true) ((rfl : _ = (.bool (!decide (d.kind = 2)) : Value)).trans (congrArg Value.bool (congrArg not kf_2))) rfl ?_)
          refine sx rfl (stp_pick_f (v := .bool true) rfl rfl ?_)
          refine sx_nil ?_
          refine sx_t rfl rfl ?_
          refine wp_seq ?_
          refine sx_region ?_
          refine sx rfl (stp_assign (v := .bool false) rfl ?_)
          refine sx_nil ?_
          refine wp_ret ?_; repeat (first | refine then_ret ?_ | refine blk_ret ?_)
          refine ret1 Tryd.results35 rfl ?_
          exact ⟨(congrArg (fun z => Ending.returned (.bool z)) (Eq.symm (by rw [deedOk_1 hk]; simp [num0, bnot_f h15, h16p, h17p, h18p]))), st13.bare⟩
      · skip
        have h17p := of_decide_eq_false (bnot_t h17)
        iterate 2 refine sx_off (j := 45) (dd := 78) rfl rfl (by decide) (yl_off (e := !decide (d.try_ = 0)) rfl h17) ?_
        iterate 10 refine sx_off rfl rfl (by decide) (yl_und rfl) ?_
        refine sx_off (j := 45) (dd := 78) rfl rfl (by decide) (yl_off (e := !decide (d.try_ = 0)) rfl h17) ?_
        refine sx rfl (stp_pick_t (v := .bool true) ((rfl : _ = (.bool (!decide (d.try_ = 0)) : Value)).trans (congrArg Value.bool h17)) rfl ?_)
        refine sx rfl (stp_move (v := .bool true) rfl ?_)
        iterate 3 refine sx_off (j := 60) (dd := 93) rfl rfl (by decide) (yl_off (e := true) rfl rfl) ?_
        iterate 8 refine sx_off rfl rfl (by decide) (yl_und rfl) ?_
        refine sx_off (j := 60) (dd := 93) rfl rfl (by decide) (yl_off (e := true) rfl rfl) ?_
        refine sx rfl (stp_pick_t (v := .bool true) rfl rfl ?_)
        refine sx_nil ?_
        refine sx_t rfl rfl ?_
        refine wp_seq ?_
        refine sx_region ?_
        refine sx rfl (stp_assign (v := .bool false) rfl ?_)
        refine sx_nil ?_
        refine wp_ret ?_; repeat (first | refine then_ret ?_ | refine blk_ret ?_)
        refine ret1 Tryd.results35 rfl ?_
        exact ⟨(congrArg (fun z => Ending.returned (.bool z)) (Eq.symm (by rw [deedOk_1 hk]; simp [num0, bnot_f h15, h16p, h17p]))), st13.bare⟩
    · skip
      have h16p := of_decide_eq_false (bnot_t h16)
      iterate 3 refine sx_off (j := 38) (dd := 71) rfl rfl (by decide) (yl_off (e := !decide (d.task = 0)) rfl h16) ?_
      refine sx_on (j := 34) (dd := 67) rfl rfl (by decide) (yl_on (e := !decide (d.kind = 4)) rfl (congrArg not kf_4)) (stp_pick_t (v := .bool true) ((rfl : _ = (.bool (!decide (d.task = 0)) : Value)).trans (congrArg Value.bool h16)) rfl ?_)
      refine sx_on (j := 31) (dd := 64) rfl rfl (by decide) (yl_on (e := false) rfl rfl) (stp_pick_t (v := .bool true) ((rfl : _ = (.bool (!decide (d.kind = 4)) : Value)).trans (congrArg Value.bool (congrArg not kf_4))) rfl ?_)
      refine sx rfl (stp_pick_f (v := .bool true) rfl rfl ?_)
      refine sx rfl (stp_move (v := .bool true) rfl ?_)
      iterate 2 refine sx_off (j := 45) (dd := 78) rfl rfl (by decide) (yl_off (e := true) rfl rfl) ?_
      iterate 10 refine sx_off rfl rfl (by decide) (yl_und rfl) ?_
      refine sx_off (j := 45) (dd := 78) rfl rfl (by decide) (yl_off (e := true) rfl rfl) ?_
      refine sx rfl (stp_pick_t (v := .bool true) rfl rfl ?_)
      refine sx rfl (stp_move (v := .bool true) rfl ?_)
      iterate 3 refine sx_off (j := 60) (dd := 93) rfl rfl (by decide) (yl_off (e := true) rfl rfl) ?_
      iterate 8 refine sx_off rfl rfl (by decide) (yl_und rfl) ?_
      refine sx_off (j := 60) (dd := 93) rfl rfl (by decide) (yl_off (e := true) rfl rfl) ?_
      refine sx rfl (stp_pick_t (v := .bool true) rfl rfl ?_)
      refine sx_nil ?_
      refine sx_t rfl rfl ?_
      refine wp_seq ?_
      refine sx_region ?_
      refine sx rfl (stp_assign (v := .bool false) rfl ?_)
      refine sx_nil ?_
      refine wp_ret ?_; repeat (first | refine then_ret ?_ | refine blk_ret ?_)
      refine ret1 Tryd.results35 rfl ?_
      exact ⟨(congrArg (fun z => Ending.returned (.bool z)) (Eq.symm (by rw [deedOk_1 hk]; simp [num0, bnot_f h15, h16p]))), st13.bare⟩
  · skip
    iterate 3 refine sx_off (j := 7) (dd := 40) rfl rfl (by decide) (yl_off (e := !(num d.run)) rfl h15) ?_
    iterate 3 refine sx_off rfl rfl (by decide) (yl_und rfl) ?_
    refine sx_off (j := 7) (dd := 40) rfl rfl (by decide) (yl_off (e := !(num d.run)) rfl h15) ?_
    refine sx rfl (stp_pick_t (v := .bool true) ((rfl : _ = (.bool (!(num d.run)) : Value)).trans (congrArg Value.bool h15)) rfl ?_)
    refine sx rfl (stp_move (v := .bool true) rfl ?_)
    iterate 2 refine sx_off (j := 16) (dd := 49) rfl rfl (by decide) (yl_off (e := true) rfl rfl) ?_
    iterate 10 refine sx_off rfl rfl (by decide) (yl_und rfl) ?_
    refine sx_off (j := 16) (dd := 49) rfl rfl (by decide) (yl_off (e := true) rfl rfl) ?_
    refine sx rfl (stp_pick_t (v := .bool true) rfl rfl ?_)
    refine sx rfl (stp_move (v := .bool true) rfl ?_)
    iterate 3 refine sx_off (j := 31) (dd := 64) rfl rfl (by decide) (yl_off (e := true) rfl rfl) ?_
    iterate 8 refine sx_off rfl rfl (by decide) (yl_und rfl) ?_
    refine sx_off (j := 31) (dd := 64) rfl rfl (by decide) (yl_off (e := true) rfl rfl) ?_
    refine sx rfl (stp_pick_t (v := .bool true) rfl rfl ?_)
    refine sx rfl (stp_move (v := .bool true) rfl ?_)
    iterate 2 refine sx_off (j := 45) (dd := 78) rfl rfl (by decide) (yl_off (e := true) rfl rfl) ?_
    iterate 10 refine sx_off rfl rfl (by decide) (yl_und rfl) ?_
    refine sx_off (j := 45) (dd := 78) rfl rfl (by decide) (yl_off (e := true) rfl rfl) ?_
    refine sx rfl (stp_pick_t (v := .bool true) rfl rfl ?_)
    refine sx rfl (stp_move (v := .bool true) rfl ?_)
    iterate 3 refine sx_off (j := 60) (dd := 93) rfl rfl (by decide) (yl_off (e := true) rfl rfl) ?_
    iterate 8 refine sx_off rfl rfl (by decide) (yl_und rfl) ?_
    refine sx_off (j := 60) (dd := 93) rfl rfl (by decide) (yl_off (e := true) rfl rfl) ?_
    refine sx rfl (stp_pick_t (v := .bool true) rfl rfl ?_)
    refine sx_nil ?_
    refine sx_t rfl rfl ?_
    refine wp_seq ?_
    refine sx_region ?_
    refine sx rfl (stp_assign (v := .bool false) rfl ?_)
    refine sx_nil ?_
    refine wp_ret ?_; repeat (first | refine then_ret ?_ | refine blk_ret ?_)
    refine ret1 Tryd.results35 rfl ?_
    exact ⟨(congrArg (fun z => Ending.returned (.bool z)) (Eq.symm (by rw [deedOk_1 hk]; simp [num0, bnot_t h15]))), st13.bare⟩
set_option maxHeartbeats 2000000 in
theorem DeedOkS_2 (w : World) {d : Deed} {cs : List Value} {fp : List Nat} (hc : Shape.C w cs d fp) (hk : d.kind = 2) :
    Calls Tryd.prog 35 #[.agg cs.toArray] w fun e w' => e = .returned (.bool (deedOk d)) ∧ St w w' [] := by
  refine enter1 Tryd.func35 rfl Tryd.ntmps35 (by decide) ?_
  have hki : inB d.kind 1 8 = true := by rw [hk]; rfl
  have kf_1 : decide (d.kind = 1) = false := by rw [hk]; rfl
  have kf_2 : decide (d.kind = 2) = true := by rw [hk]; rfl
  have kf_3 : decide (d.kind = 3) = false := by rw [hk]; rfl
  have kf_4 : decide (d.kind = 4) = false := by rw [hk]; rfl
  have kf_5 : decide (d.kind = 5) = false := by rw [hk]; rfl
  have kf_6 : decide (d.kind = 6) = false := by rw [hk]; rfl
  have kf_7 : decide (d.kind = 7) = false := by rw [hk]; rfl
  have kf_8 : decide (d.kind = 8) = false := by rw [hk]; rfl
  refine wp_seq ?_
  refine sx_region ?_
  refine sx rfl (stp_box_agg (cs := cs) rfl (St.start w) ?_); intro b1 W2 hb3 st4
  refine sx rfl (stp_assign (v := .bool false) rfl ?_)
  refine sx_nil ?_
  refine wp_seq ?_
  refine wp_seq ?_
  refine sx_region ?_
  refine sx rfl (stp_fieldAddr fa_Deed_0 rfl ?_)
  have hk6 := hc
  obtain ⟨v6_0, g6_0, rfl, hok6, h6_0, rfl⟩ := hk6
  refine sx rfl (stp_load_bx ld_int rfl rfl (st4.get 0 rfl) (i := 0) rfl rfl ?_)
  refine sx rfl (stp_call3 Tryd.func28 rfl rfl rfl rfl ((l01In_n W2 d.kind 1 8).mono ?_)); rintro _ W7 ⟨rfl, hk8⟩; refine ⟨_, rfl, ?_⟩
  have st9 := St.call st4 hk8
  refine sx rfl (stp_not rfl ?_)
  refine sx_nil ?_
  refine sx_f rfl (congrArg not hki) ?_
  refine wp_skip ?_
  refine wp_seq ?_
  refine sx_region ?_
  refine sx rfl (stp_fieldAddr fa_Deed_0 rfl ?_)
  refine sx rfl (stp_load_bx ld_int rfl rfl (st9.get 0 rfl) (i := 0) rfl rfl ?_)
  refine sx rfl (stp_eql rfl rfl ?_)
  refine sx rfl (stp_assign (v := .bool (decide (d.kind = 2))) rfl ?_)
  refine sx_nil ?_
  refine wp_seq ?_
  refine sx_region ?_
  refine sx rfl (stp_fieldAddr fa_Deed_0 rfl ?_)
  refine sx rfl (stp_load_bx ld_int rfl rfl (st9.get 0 rfl) (i := 0) rfl rfl ?_)
  refine sx rfl (stp_eql rfl rfl ?_)
  refine sx rfl (stp_move (v := .bool (decide (d.kind = 3))) rfl ?_)
  refine sx_on (j := 3) (dd := 16) rfl rfl (by decide) (yl_on (e := decide (d.kind = 3)) rfl kf_3) (stp_fieldAddr fa_Deed_0 rfl ?_)
  refine sx_on (j := 3) (dd := 16) rfl rfl (by decide) (yl_on (e := decide (d.kind = 3)) rfl kf_3) (stp_load_bx ld_int rfl rfl (st9.get 0 rfl) (i := 0) rfl rfl ?_)
  refine sx_on (j := 3) (dd := 16) rfl rfl (by decide) (yl_on (e := decide (d.kind = 3)) rfl kf_3) (stp_eql rfl rfl ?_)
  refine sx rfl (stp_pick_f (v := .bool (decide (d.kind = 4))) ((rfl : _ = (.bool (decide (d.kind = 3)) : Value)).trans (congrArg Value.bool kf_3)) rfl ?_)
  refine sx rfl (stp_assign (v := .bool (decide (d.kind = 4))) rfl ?_)
  refine sx_nil ?_
  refine wp_seq ?_
  refine sx_region ?_
  refine sx rfl (stp_move (v := .bool (decide (d.kind = 2))) rfl ?_)
  refine sx rfl (stp_not rfl ?_)
  refine sx rfl (stp_move (v := .bool (!decide (d.kind = 2))) rfl ?_)
  iterate 3 refine sx_off (j := 2) (dd := 23) rfl rfl (by decide) (yl_off (e := !decide (d.kind = 2)) rfl (congrArg not kf_2)) ?_
  refine sx rfl (stp_pick_f (v := .bool false) ((rfl : _ = (.bool (!decide (d.kind = 2)) : Value)).trans (congrArg Value.bool (congrArg not kf_2))) rfl ?_)
  refine sx rfl (stp_move (v := .bool false) rfl ?_)
  iterate 3 refine sx_off (j := 7) (dd := 28) rfl rfl (by decide) (yl_off (e := false) rfl rfl) ?_
  refine sx rfl (stp_pick_f (v := .bool false) rfl rfl ?_)
  refine sx rfl (stp_assign (v := .bool false) rfl ?_)
  refine sx_nil ?_
  refine wp_seq ?_
  refine wp_seq ?_
  refine sx_region ?_
  refine sx rfl (stp_move (v := .bool false) rfl ?_)
  refine sx rfl (stp_move (v := .bool false) rfl ?_)
  iterate 4 refine sx_off (j := 1) (dd := 34) rfl rfl (by decide) (yl_off (e := false) rfl rfl) ?_
  refine sx rfl (stp_pick_f (v := .bool false) rfl rfl ?_)
  refine sx rfl (stp_move (v := .bool false) rfl ?_)
  refine sx_on (j := 7) (dd := 40) rfl rfl (by decide) (yl_on (e := false) rfl rfl) (stp_move (v := .bool false) rfl ?_)
  refine sx_on (j := 7) (dd := 40) rfl rfl (by decide) (yl_on (e := false) rfl rfl) (stp_not rfl ?_)
  refine sx_on (j := 7) (dd := 40) rfl rfl (by decide) (yl_on (e := false) rfl rfl) (stp_move (v := .bool true) rfl ?_)
  refine sx_on (j := 10) (dd := 43) rfl rfl (by decide) (yl_on (e := true) rfl rfl) (stp_fieldAddr fa_Deed_1 rfl ?_)
  refine sx_on (j := 10) (dd := 43) rfl rfl (by decide) (yl_on (e := true) rfl rfl) (stp_load_bx ld_int rfl rfl (st9.get 0 rfl) (i := 1) rfl rfl ?_)
  refine sx_on (j := 10) (dd := 43) rfl rfl (by decide) (yl_on (e := true) rfl rfl) (stp_neq rfl rfl ?_)
  refine sx_on (j := 7) (dd := 40) rfl rfl (by decide) (yl_on (e := false) rfl rfl) (stp_pick_t (v := .bool (!decide (d.run = 0))) rfl rfl ?_)
  refine sx rfl (stp_pick_f (v := .bool (!decide (d.run = 0))) rfl rfl ?_)
  refine sx rfl (stp_move (v := .bool (!decide (d.run = 0))) rfl ?_)
  rcases bd (!decide (d.run = 0)) with h11 | h11
  · skip
    have h11p := of_decide_eq_true (bnot_f h11)
    refine sx_on (j := 16) (dd := 49) rfl rfl (by decide) (yl_on (e := !decide (d.run = 0)) rfl h11) (stp_move (v := .bool (decide (d.kind = 4))) rfl ?_)
    refine sx_on (j := 16) (dd := 49) rfl rfl (by decide) (yl_on (e := !decide (d.run = 0)) rfl h11) (stp_move (v := .bool (decide (d.kind = 4))) rfl ?_)
    iterate 5 refine sx_off (j := 18) (dd := 51) rfl rfl (by decide) (yl_off (e := decide (d.kind = 4)) rfl kf_4) ?_
    iterate 4 refine sx_off rfl rfl (by decide) (yl_und rfl) ?_
    refine sx_off (j := 18) (dd := 51) rfl rfl (by decide) (yl_off (e := decide (d.kind = 4)) rfl kf_4) ?_
    refine sx_on (j := 16) (dd := 49) rfl rfl (by decide) (yl_on (e := !decide (d.run = 0)) rfl h11) (stp_pick_f (v := .bool false) ((rfl : _ = (.bool (decide (d.kind = 4)) : Value)).trans (congrArg Value.bool kf_4)) rfl ?_)
    refine sx rfl (stp_pick_f (v := .bool false) ((rfl : _ = (.bool (!decide (d.run = 0)) : Value)).trans (congrArg Value.bool h11)) rfl ?_)
    refine sx rfl (stp_move (v := .bool false) rfl ?_)
    refine sx_on (j := 31) (dd := 64) rfl rfl (by decide) (yl_on (e := false) rfl rfl) (stp_move (v := .bool (decide (d.kind = 4))) rfl ?_)
    refine sx_on (j := 31) (dd := 64) rfl rfl (by decide) (yl_on (e := false) rfl rfl) (stp_not rfl ?_)
    refine sx_on (j := 31) (dd := 64) rfl rfl (by decide) (yl_on (e := false) rfl rfl) (stp_move (v := .bool (!decide (d.kind = 4))) rfl ?_)
    refine sx_on (j := 34) (dd := 67) rfl rfl (by decide) (yl_on (e := !decide (d.kind = 4)) rfl (congrArg not kf_4)) (stp_fieldAddr fa_Deed_3 rfl ?_)
    refine sx_on (j := 34) (dd := 67) rfl rfl (by decide) (yl_on (e := !decide (d.kind = 4)) rfl (congrArg not kf_4)) (stp_load_bx ld_int rfl rfl (st9.get 0 rfl) (i := 7) rfl rfl ?_)
    refine sx_on (j := 34) (dd := 67) rfl rfl (by decide) (yl_on (e := !decide (d.kind = 4)) rfl (congrArg not kf_4)) (stp_neq rfl rfl ?_)
    refine sx_on (j := 34) (dd := 67) rfl rfl (by decide) (yl_on (e := !decide (d.kind = 4)) rfl (congrArg not kf_4)) (stp_move (v := .bool (!decide (d.task = 0))) rfl ?_)
    rcases bd (!decide (d.task = 0)) with h12 | h12
    · skip
      have h12p := of_decide_eq_true (bnot_f h12)
      refine sx_on (j := 38) (dd := 71) rfl rfl (by decide) (yl_on (e := !decide (d.task = 0)) rfl h12) (stp_fieldAddr fa_Deed_4 rfl ?_)
      refine sx_on (j := 38) (dd := 71) rfl rfl (by decide) (yl_on (e := !decide (d.task = 0)) rfl h12) (stp_load_bx ld_int rfl rfl (st9.get 0 rfl) (i := 8) rfl rfl ?_)
      refine sx_on (j := 38) (dd := 71) rfl rfl (by decide) (yl_on (e := !decide (d.task = 0)) rfl h12) (stp_neq rfl rfl ?_)
      refine sx_on (j := 34) (dd := 67) rfl rfl (by decide) (yl_on (e := !decide (d.kind = 4)) rfl (congrArg not kf_4)) (stp_pick_f (v := .bool (!decide (d.try_ = 0))) ((rfl : _ = (.bool (!decide (d.task = 0)) : Value)).trans (congrArg Value.bool h12)) rfl ?_)
      refine sx_on (j := 31) (dd := 64) rfl rfl (by decide) (yl_on (e := false) rfl rfl) (stp_pick_t (v := .bool (!decide (d.try_ = 0))) ((rfl : _ = (.bool (!decide (d.kind = 4)) : Value)).trans (congrArg Value.bool (congrArg not kf_4))) rfl ?_)
      refine sx rfl (stp_pick_f (v := .bool (!decide (d.try_ = 0))) rfl rfl ?_)
      refine sx rfl (stp_move (v := .bool (!decide (d.try_ = 0))) rfl ?_)
      rcases bd (!decide (d.try_ = 0)) with h13 | h13
      · skip
        have h13p := of_decide_eq_true (bnot_f h13)
        refine sx_on (j := 45) (dd := 78) rfl rfl (by decide) (yl_on (e := !decide (d.try_ = 0)) rfl h13) (stp_move (v := .bool (decide (d.kind = 2))) rfl ?_)
        refine sx_on (j := 45) (dd := 78) rfl rfl (by decide) (yl_on (e := !decide (d.try_ = 0)) rfl h13) (stp_move (v := .bool (decide (d.kind = 2))) rfl ?_)
        refine sx_on (j := 47) (dd := 80) rfl rfl (by decide) (yl_on (e := decide (d.kind = 2)) rfl kf_2) (stp_fieldAddr fa_Deed_5 rfl ?_)
        refine sx_on (j := 47) (dd := 80) rfl rfl (by decide) (yl_on (e := decide (d.kind = 2)) rfl kf_2) (stp_load_bx ld_int rfl rfl (st9.get 0 rfl) (i := 9) rfl rfl ?_)
        refine sx_on (j := 47) (dd := 80) rfl rfl (by decide) (yl_on (e := decide (d.kind = 2)) rfl kf_2) (stp_call1 Tryd.func56 rfl rfl ((numS W7 d.worker).mono ?_)); rintro _ W14 ⟨rfl, hk15⟩; refine ⟨_, rfl, ?_⟩
        have st16 := St.call st9 hk15
        refine sx_on (j := 47) (dd := 80) rfl rfl (by decide) (yl_on (e := decide (d.kind = 2)) rfl kf_2) (stp_not rfl ?_)
        refine sx_on (j := 47) (dd := 80) rfl rfl (by decide) (yl_on (e := decide (d.kind = 2)) rfl kf_2) (stp_move (v := .bool (!(num d.worker))) rfl ?_)
        rcases bd (!(num d.worker)) with h18 | h18
        · skip
          refine sx_on (j := 52) (dd := 85) rfl rfl (by decide) (yl_on (e := !(num d.worker)) rfl h18) (stp_fieldAddr fa_Deed_6 rfl ?_)
          refine sx_on (j := 52) (dd := 85) rfl rfl (by decide) (yl_on (e := !(num d.worker)) rfl h18) (stp_load_bx ld_int rfl rfl (st16.get 0 rfl) (i := 10) rfl rfl ?_)
          refine sx_on (j := 52) (dd := 85) rfl rfl (by decide) (yl_on (e := !(num d.worker)) rfl h18) (stp_call1 Tryd.func56 rfl rfl ((numS W14 d.draw).mono ?_)); rintro _ W19 ⟨rfl, hk20⟩; refine ⟨_, rfl, ?_⟩
          have st21 := St.call st16 hk20
          refine sx_on (j := 52) (dd := 85) rfl rfl (by decide) (yl_on (e := !(num d.worker)) rfl h18) (stp_not rfl ?_)
          refine sx_on (j := 47) (dd := 80) rfl rfl (by decide) (yl_on (e := decide (d.kind = 2)) rfl kf_2) (stp_pick_f (v := .bool (!(num d.draw))) ((rfl : _ = (.bool (!(num d.worker)) : Value)).trans (congrArg Value.bool h18)) rfl ?_)
          refine sx_on (j := 45) (dd := 78) rfl rfl (by decide) (yl_on (e := !decide (d.try_ = 0)) rfl h13) (stp_pick_t (v := .bool (!(num d.draw))) ((rfl : _ = (.bool (decide (d.kind = 2)) : Value)).trans (congrArg Value.bool kf_2)) rfl ?_)
          refine sx rfl (stp_pick_f (v := .bool (!(num d.draw))) ((rfl : _ = (.bool (!decide (d.try_ = 0)) : Value)).trans (congrArg Value.bool h13)) rfl ?_)
          refine sx rfl (stp_move (v := .bool (!(num d.draw))) rfl ?_)
          rcases bd (!(num d.draw)) with h23 | h23
          · skip
            refine sx_on (j := 60) (dd := 93) rfl rfl (by decide) (yl_on (e := !(num d.draw)) rfl h23) (stp_move (v := .bool (decide (d.kind = 2))) rfl ?_)
            refine sx_on (j := 60) (dd := 93) rfl rfl (by decide) (yl_on (e := !(num d.draw)) rfl h23) (stp_not rfl ?_)
            refine sx_on (j := 60) (dd := 93) rfl rfl (by decide) (yl_on (e := !(num d.draw)) rfl h23) (stp_move (v := .bool (!decide (d.kind = 2))) rfl ?_)
            iterate 4 refine sx_off (j := 63) (dd := 96) rfl rfl (by decide) (yl_off (e := !decide (d.kind = 2)) rfl (congrArg not kf_2)) ?_
            iterate 3 refine sx_off rfl rfl (by decide) (yl_und rfl) ?_
            refine sx_off (j := 63) (dd := 96) rfl rfl (by decide) (yl_off (e := !decide (d.kind = 2)) rfl (congrArg not kf_2)) ?_
            refine sx_on (j := 60) (dd := 93) rfl rfl (by decide) (yl_on (e := !(num d.draw)) rfl h23) (stp_pick_f (v := .bool false) ((rfl : _ = (.bool (!decide (d.kind = 2)) : Value)).trans (congrArg Value.bool (congrArg not kf_2))) rfl ?_)
            refine sx rfl (stp_pick_f (v := .bool false) ((rfl : _ = (.bool (!(num d.draw)) : Value)).trans (congrArg Value.bool h23)) rfl ?_)
            refine sx_nil ?_
            refine sx_f rfl rfl ?_
            refine wp_skip ?_
            refine wp_seq ?_
            refine wp_seq ?_
            refine sx_region ?_
            refine sx rfl (stp_fieldAddr fa_Deed_0 rfl ?_)
            refine sx rfl (stp_load_bx ld_int rfl rfl (st21.get 0 rfl) (i := 0) rfl rfl ?_)
            refine sx rfl (stp_eql rfl rfl ?_)
            refine sx_nil ?_
            refine sx_f rfl kf_1 ?_
            refine wp_skip ?_
            refine wp_seq ?_
            refine sx_region ?_
            refine sx rfl (stp_fieldAddr fa_Deed_2 rfl ?_)
            refine sx rfl (stp_load_bxs (cs := [I d.plan.prio, I d.plan.most, I d.plan.wait, I d.plan.tasks, v6_0]) ld_Plan rfl rfl (st21.get 0 rfl) rfl rfl ?_)
            refine sx rfl (stp_call1 Tryd.func58 rfl rfl ((noPlanS W19 (show Shape.C _ [I d.plan.prio, I d.plan.most, I d.plan.wait, I d.plan.tasks, v6_0] d.plan _ from ⟨_, _, rfl, (by simp only [Edge.ok, Plan.ok, Entry.ok, Task.ok, Run.ok, Yard.ok, Reply.ok, Deed.ok, Note.ok, Wait.ok, File.ok, Disk.ok, Engine.ok, WorldD.ok, ActD.ok, Hand.ok, Span.ok, Crew.ok, View.ok, I64] at *; omega), (h6_0.below st21.below), rfl⟩)).mono ?_)); rintro _ W24 ⟨rfl, hk25⟩; refine ⟨_, rfl, ?_⟩
            have st26 := St.call st21 hk25
            refine sx rfl (stp_assign (v := .bool (noPlan d.plan)) rfl ?_)
            refine sx_nil ?_
            refine wp_ret ?_; repeat (first | refine then_ret ?_ | refine blk_ret ?_)
            refine ret1 Tryd.results35 rfl ?_
            exact ⟨(congrArg (fun z => Ending.returned (.bool z)) (Eq.symm (by rw [deedOk_2 hk]; simp [num0, h11p, h12p, h13p, bnot_f h18, bnot_f h23]))), st26.bare⟩
          · skip
            iterate 3 refine sx_off (j := 60) (dd := 93) rfl rfl (by decide) (yl_off (e := !(num d.draw)) rfl h23) ?_
            iterate 8 refine sx_off rfl rfl (by decide) (yl_und rfl) ?_
            refine sx_off (j := 60) (dd := 93) rfl rfl (by decide) (yl_off (e := !(num d.draw)) rfl h23) ?_
            refine sx rfl (stp_pick_t (v := .bool true) ((rfl : _ = (.bool (!(num d.draw)) : Value)).trans (congrArg Value.bool h23)) rfl ?_)
            refine sx_nil ?_
            refine sx_t rfl rfl ?_
            refine wp_seq ?_
            refine sx_region ?_
            refine sx rfl (stp_assign (v := .bool false) rfl ?_)
            refine sx_nil ?_
            refine wp_ret ?_; repeat (first | refine then_ret ?_ | refine blk_ret ?_)
            refine ret1 Tryd.results35 rfl ?_
            exact ⟨(congrArg (fun z => Ending.returned (.bool z)) (Eq.symm (by rw [deedOk_2 hk]; simp [num0, h11p, h12p, h13p, bnot_f h18, bnot_t h23]))), st21.bare⟩
        · skip
          iterate 4 refine sx_off (j := 52) (dd := 85) rfl rfl (by decide) (yl_off (e := !(num d.worker)) rfl h18) ?_
          refine sx_on (j := 47) (dd := 80) rfl rfl (by decide) (yl_on (e := decide (d.kind = 2)) rfl kf_2) (stp_pick_t (v := .bool true) ((rfl : _ = (.bool (!(num d.worker)) : Value)).trans (congrArg Value.bool h18)) rfl ?_)
          refine sx_on (j := 45) (dd := 78) rfl rfl (by decide) (yl_on (e := !decide (d.try_ = 0)) rfl h13) (stp_pick_t (v := .bool true) ((rfl : _ = (.bool (decide (d.kind = 2)) : Value)).trans (congrArg Value.bool kf_2)) rfl ?_)
          refine sx rfl (stp_pick_f (v := .bool true) ((rfl : _ = (.bool (!decide (d.try_ = 0)) : Value)).trans (congrArg Value.bool h13)) rfl ?_)
          refine sx rfl (stp_move (v := .bool true) rfl ?_)
          iterate 3 refine sx_off (j := 60) (dd := 93) rfl rfl (by decide) (yl_off (e := true) rfl rfl) ?_
          iterate 8 refine sx_off rfl rfl (by decide) (yl_und rfl) ?_
          refine sx_off (j := 60) (dd := 93) rfl rfl (by decide) (yl_off (e := true) rfl rfl) ?_
          refine sx rfl (stp_pick_t (v := .bool true) rfl rfl ?_)
          refine sx_nil ?_
          refine sx_t rfl rfl ?_
          refine wp_seq ?_
          refine sx_region ?_
          refine sx rfl (stp_assign (v := .bool false) rfl ?_)
          refine sx_nil ?_
          refine wp_ret ?_; repeat (first | refine then_ret ?_ | refine blk_ret ?_)
          refine ret1 Tryd.results35 rfl ?_
          exact ⟨(congrArg (fun z => Ending.returned (.bool z)) (Eq.symm (by rw [deedOk_2 hk]; simp [num0, h11p, h12p, h13p, bnot_t h18]))), st16.bare⟩
      · skip
        have h13p := of_decide_eq_false (bnot_t h13)
        iterate 2 refine sx_off (j := 45) (dd := 78) rfl rfl (by decide) (yl_off (e := !decide (d.try_ = 0)) rfl h13) ?_
        iterate 10 refine sx_off rfl rfl (by decide) (yl_und rfl) ?_
        refine sx_off (j := 45) (dd := 78) rfl rfl (by decide) (yl_off (e := !decide (d.try_ = 0)) rfl h13) ?_
        refine sx rfl (stp_pick_t (v := .bool true) ((rfl : _ = (.bool (!decide (d.try_ = 0)) : Value)).trans (congrArg Value.bool h13)) rfl ?_)
        refine sx rfl (stp_move (v := .bool true) rfl ?_)
        iterate 3 refine sx_off (j := 60) (dd := 93) rfl rfl (by decide) (yl_off (e := true) rfl rfl) ?_
        iterate 8 refine sx_off rfl rfl (by decide) (yl_und rfl) ?_
        refine sx_off (j := 60) (dd := 93) rfl rfl (by decide) (yl_off (e := true) rfl rfl) ?_
        refine sx rfl (stp_pick_t (v := .bool true) rfl rfl ?_)
        refine sx_nil ?_
        refine sx_t rfl rfl ?_
        refine wp_seq ?_
        refine sx_region ?_
        refine sx rfl (stp_assign (v := .bool false) rfl ?_)
        refine sx_nil ?_
        refine wp_ret ?_; repeat (first | refine then_ret ?_ | refine blk_ret ?_)
        refine ret1 Tryd.results35 rfl ?_
        exact ⟨(congrArg (fun z => Ending.returned (.bool z)) (Eq.symm (by rw [deedOk_2 hk]; simp [num0, h11p, h12p, h13p]))), st9.bare⟩
    · skip
      have h12p := of_decide_eq_false (bnot_t h12)
      iterate 3 refine sx_off (j := 38) (dd := 71) rfl rfl (by decide) (yl_off (e := !decide (d.task = 0)) rfl h12) ?_
      refine sx_on (j := 34) (dd := 67) rfl rfl (by decide) (yl_on (e := !decide (d.kind = 4)) rfl (congrArg not kf_4)) (stp_pick_t (v := .bool true) ((rfl : _ = (.bool (!decide (d.task = 0)) : Value)).trans (congrArg Value.bool h12)) rfl ?_)
      refine sx_on (j := 31) (dd := 64) rfl rfl (by decide) (yl_on (e := false) rfl rfl) (stp_pick_t (v := .bool true) ((rfl : _ = (.bool (!decide (d.kind = 4)) : Value)).trans (congrArg Value.bool (congrArg not kf_4))) rfl ?_)
      refine sx rfl (stp_pick_f (v := .bool true) rfl rfl ?_)
      refine sx rfl (stp_move (v := .bool true) rfl ?_)
      iterate 2 refine sx_off (j := 45) (dd := 78) rfl rfl (by decide) (yl_off (e := true) rfl rfl) ?_
      iterate 10 refine sx_off rfl rfl (by decide) (yl_und rfl) ?_
      refine sx_off (j := 45) (dd := 78) rfl rfl (by decide) (yl_off (e := true) rfl rfl) ?_
      refine sx rfl (stp_pick_t (v := .bool true) rfl rfl ?_)
      refine sx rfl (stp_move (v := .bool true) rfl ?_)
      iterate 3 refine sx_off (j := 60) (dd := 93) rfl rfl (by decide) (yl_off (e := true) rfl rfl) ?_
      iterate 8 refine sx_off rfl rfl (by decide) (yl_und rfl) ?_
      refine sx_off (j := 60) (dd := 93) rfl rfl (by decide) (yl_off (e := true) rfl rfl) ?_
      refine sx rfl (stp_pick_t (v := .bool true) rfl rfl ?_)
      refine sx_nil ?_
      refine sx_t rfl rfl ?_
      refine wp_seq ?_
      refine sx_region ?_
      refine sx rfl (stp_assign (v := .bool false) rfl ?_)
      refine sx_nil ?_
      refine wp_ret ?_; repeat (first | refine then_ret ?_ | refine blk_ret ?_)
      refine ret1 Tryd.results35 rfl ?_
      exact ⟨(congrArg (fun z => Ending.returned (.bool z)) (Eq.symm (by rw [deedOk_2 hk]; simp [num0, h11p, h12p]))), st9.bare⟩
  · skip
    have h11p := of_decide_eq_false (bnot_t h11)
    iterate 2 refine sx_off (j := 16) (dd := 49) rfl rfl (by decide) (yl_off (e := !decide (d.run = 0)) rfl h11) ?_
    iterate 10 refine sx_off rfl rfl (by decide) (yl_und rfl) ?_
    refine sx_off (j := 16) (dd := 49) rfl rfl (by decide) (yl_off (e := !decide (d.run = 0)) rfl h11) ?_
    refine sx rfl (stp_pick_t (v := .bool true) ((rfl : _ = (.bool (!decide (d.run = 0)) : Value)).trans (congrArg Value.bool h11)) rfl ?_)
    refine sx rfl (stp_move (v := .bool true) rfl ?_)
    iterate 3 refine sx_off (j := 31) (dd := 64) rfl rfl (by decide) (yl_off (e := true) rfl rfl) ?_
    iterate 8 refine sx_off rfl rfl (by decide) (yl_und rfl) ?_
    refine sx_off (j := 31) (dd := 64) rfl rfl (by decide) (yl_off (e := true) rfl rfl) ?_
    refine sx rfl (stp_pick_t (v := .bool true) rfl rfl ?_)
    refine sx rfl (stp_move (v := .bool true) rfl ?_)
    iterate 2 refine sx_off (j := 45) (dd := 78) rfl rfl (by decide) (yl_off (e := true) rfl rfl) ?_
    iterate 10 refine sx_off rfl rfl (by decide) (yl_und rfl) ?_
    refine sx_off (j := 45) (dd := 78) rfl rfl (by decide) (yl_off (e := true) rfl rfl) ?_
    refine sx rfl (stp_pick_t (v := .bool true) rfl rfl ?_)
    refine sx rfl (stp_move (v := .bool true) rfl ?_)
    iterate 3 refine sx_off (j := 60) (dd := 93) rfl rfl (by decide) (yl_off (e := true) rfl rfl) ?_
    iterate 8 refine sx_off rfl rfl (by decide) (yl_und rfl) ?_
    refine sx_off (j := 60) (dd := 93) rfl rfl (by decide) (yl_off (e := true) rfl rfl) ?_
    refine sx rfl (stp_pick_t (v := .bool true) rfl rfl ?_)
    refine sx_nil ?_
    refine sx_t rfl rfl ?_
    refine wp_seq ?_
    refine sx_region ?_
    refine sx rfl (stp_assign (v := .bool false) rfl ?_)
    refine sx_nil ?_
    refine wp_ret ?_; repeat (first | refine then_ret ?_ | refine blk_ret ?_)
    refine ret1 Tryd.results35 rfl ?_
    exact ⟨(congrArg (fun z => Ending.returned (.bool z)) (Eq.symm (by rw [deedOk_2 hk]; simp [num0, h11p]))), st9.bare⟩
set_option maxHeartbeats 2000000 in
theorem DeedOkS_3 (w : World) {d : Deed} {cs : List Value} {fp : List Nat} (hc : Shape.C w cs d fp) (hk : d.kind = 3) :
    Calls Tryd.prog 35 #[.agg cs.toArray] w fun e w' => e = .returned (.bool (deedOk d)) ∧ St w w' [] := by
  refine enter1 Tryd.func35 rfl Tryd.ntmps35 (by decide) ?_
  have hki : inB d.kind 1 8 = true := by rw [hk]; rfl
  have kf_1 : decide (d.kind = 1) = false := by rw [hk]; rfl
  have kf_2 : decide (d.kind = 2) = false := by rw [hk]; rfl
  have kf_3 : decide (d.kind = 3) = true := by rw [hk]; rfl
  have kf_4 : decide (d.kind = 4) = false := by rw [hk]; rfl
  have kf_5 : decide (d.kind = 5) = false := by rw [hk]; rfl
  have kf_6 : decide (d.kind = 6) = false := by rw [hk]; rfl
  have kf_7 : decide (d.kind = 7) = false := by rw [hk]; rfl
  have kf_8 : decide (d.kind = 8) = false := by rw [hk]; rfl
  refine wp_seq ?_
  refine sx_region ?_
  refine sx rfl (stp_box_agg (cs := cs) rfl (St.start w) ?_); intro b1 W2 hb3 st4
  refine sx rfl (stp_assign (v := .bool false) rfl ?_)
  refine sx_nil ?_
  refine wp_seq ?_
  refine wp_seq ?_
  refine sx_region ?_
  refine sx rfl (stp_fieldAddr fa_Deed_0 rfl ?_)
  have hk6 := hc
  obtain ⟨v6_0, g6_0, rfl, hok6, h6_0, rfl⟩ := hk6
  refine sx rfl (stp_load_bx ld_int rfl rfl (st4.get 0 rfl) (i := 0) rfl rfl ?_)
  refine sx rfl (stp_call3 Tryd.func28 rfl rfl rfl rfl ((l01In_n W2 d.kind 1 8).mono ?_)); rintro _ W7 ⟨rfl, hk8⟩; refine ⟨_, rfl, ?_⟩
  have st9 := St.call st4 hk8
  refine sx rfl (stp_not rfl ?_)
  refine sx_nil ?_
  refine sx_f rfl (congrArg not hki) ?_
  refine wp_skip ?_
  refine wp_seq ?_
  refine sx_region ?_
  refine sx rfl (stp_fieldAddr fa_Deed_0 rfl ?_)
  refine sx rfl (stp_load_bx ld_int rfl rfl (st9.get 0 rfl) (i := 0) rfl rfl ?_)
  refine sx rfl (stp_eql rfl rfl ?_)
  refine sx rfl (stp_assign (v := .bool (decide (d.kind = 2))) rfl ?_)
  refine sx_nil ?_
  refine wp_seq ?_
  refine sx_region ?_
  refine sx rfl (stp_fieldAddr fa_Deed_0 rfl ?_)
  refine sx rfl (stp_load_bx ld_int rfl rfl (st9.get 0 rfl) (i := 0) rfl rfl ?_)
  refine sx rfl (stp_eql rfl rfl ?_)
  refine sx rfl (stp_move (v := .bool (decide (d.kind = 3))) rfl ?_)
  iterate 3 refine sx_off (j := 3) (dd := 16) rfl rfl (by decide) (yl_off (e := decide (d.kind = 3)) rfl kf_3) ?_
  refine sx rfl (stp_pick_t (v := .bool true) ((rfl : _ = (.bool (decide (d.kind = 3)) : Value)).trans (congrArg Value.bool kf_3)) rfl ?_)
  refine sx rfl (stp_assign (v := .bool true) rfl ?_)
  refine sx_nil ?_
  refine wp_seq ?_
  refine sx_region ?_
  refine sx rfl (stp_move (v := .bool (decide (d.kind = 2))) rfl ?_)
  refine sx rfl (stp_not rfl ?_)
  refine sx rfl (stp_move (v := .bool (!decide (d.kind = 2))) rfl ?_)
  refine sx_on (j := 2) (dd := 23) rfl rfl (by decide) (yl_on (e := !decide (d.kind = 2)) rfl (congrArg not kf_2)) (stp_fieldAddr fa_Deed_0 rfl ?_)
  refine sx_on (j := 2) (dd := 23) rfl rfl (by decide) (yl_on (e := !decide (d.kind = 2)) rfl (congrArg not kf_2)) (stp_load_bx ld_int rfl rfl (st9.get 0 rfl) (i := 0) rfl rfl ?_)
  refine sx_on (j := 2) (dd := 23) rfl rfl (by decide) (yl_on (e := !decide (d.kind = 2)) rfl (congrArg not kf_2)) (stp_neq rfl rfl ?_)
  refine sx rfl (stp_pick_t (v := .bool (!decide (d.kind = 5))) ((rfl : _ = (.bool (!decide (d.kind = 2)) : Value)).trans (congrArg Value.bool (congrArg not kf_2))) rfl ?_)
  refine sx rfl (stp_move (v := .bool (!decide (d.kind = 5))) rfl ?_)
  refine sx_on (j := 7) (dd := 28) rfl rfl (by decide) (yl_on (e := !decide (d.kind = 5)) rfl (congrArg not kf_5)) (stp_fieldAddr fa_Deed_0 rfl ?_)
  refine sx_on (j := 7) (dd := 28) rfl rfl (by decide) (yl_on (e := !decide (d.kind = 5)) rfl (congrArg not kf_5)) (stp_load_bx ld_int rfl rfl (st9.get 0 rfl) (i := 0) rfl rfl ?_)
  refine sx_on (j := 7) (dd := 28) rfl rfl (by decide) (yl_on (e := !decide (d.kind = 5)) rfl (congrArg not kf_5)) (stp_neq rfl rfl ?_)
  refine sx rfl (stp_pick_t (v := .bool (!decide (d.kind = 8))) ((rfl : _ = (.bool (!decide (d.kind = 5)) : Value)).trans (congrArg Value.bool (congrArg not kf_5))) rfl ?_)
  refine sx rfl (stp_assign (v := .bool (!decide (d.kind = 8))) rfl ?_)
  refine sx_nil ?_
  refine wp_seq ?_
  refine wp_seq ?_
  refine sx_region ?_
  refine sx rfl (stp_move (v := .bool (!decide (d.kind = 8))) rfl ?_)
  refine sx rfl (stp_move (v := .bool (!decide (d.kind = 8))) rfl ?_)
  refine sx_on (j := 1) (dd := 34) rfl rfl (by decide) (yl_on (e := !decide (d.kind = 8)) rfl (congrArg not kf_8)) (stp_fieldAddr fa_Deed_1 rfl ?_)
  refine sx_on (j := 1) (dd := 34) rfl rfl (by decide) (yl_on (e := !decide (d.kind = 8)) rfl (congrArg not kf_8)) (stp_load_bx ld_int rfl rfl (st9.get 0 rfl) (i := 1) rfl rfl ?_)
  refine sx_on (j := 1) (dd := 34) rfl rfl (by decide) (yl_on (e := !decide (d.kind = 8)) rfl (congrArg not kf_8)) (stp_call1 Tryd.func56 rfl rfl ((numS W7 d.run).mono ?_)); rintro _ W11 ⟨rfl, hk12⟩; refine ⟨_, rfl, ?_⟩
  have st13 := St.call st9 hk12
  refine sx_on (j := 1) (dd := 34) rfl rfl (by decide) (yl_on (e := !decide (d.kind = 8)) rfl (congrArg not kf_8)) (stp_not rfl ?_)
  refine sx rfl (stp_pick_t (v := .bool (!(num d.run))) ((rfl : _ = (.bool (!decide (d.kind = 8)) : Value)).trans (congrArg Value.bool (congrArg not kf_8))) rfl ?_)
  refine sx rfl (stp_move (v := .bool (!(num d.run))) rfl ?_)
  rcases bd (!(num d.run)) with h15 | h15
  · skip
    refine sx_on (j := 7) (dd := 40) rfl rfl (by decide) (yl_on (e := !(num d.run)) rfl h15) (stp_move (v := .bool (!decide (d.kind = 8))) rfl ?_)
    refine sx_on (j := 7) (dd := 40) rfl rfl (by decide) (yl_on (e := !(num d.run)) rfl h15) (stp_not rfl ?_)
    refine sx_on (j := 7) (dd := 40) rfl rfl (by decide) (yl_on (e := !(num d.run)) rfl h15) (stp_move (v := .bool (!(!decide (d.kind = 8)))) rfl ?_)
    iterate 3 refine sx_off (j := 10) (dd := 43) rfl rfl (by decide) (yl_off (e := !(!decide (d.kind = 8))) rfl (congrArg not (congrArg not kf_8))) ?_
    refine sx_on (j := 7) (dd := 40) rfl rfl (by decide) (yl_on (e := !(num d.run)) rfl h15) (stp_pick_f (v := .bool false) ((rfl : _ = (.bool (!(!decide (d.kind = 8))) : Value)).trans (congrArg Value.bool (congrArg not (congrArg not kf_8)))) rfl ?_)
    refine sx rfl (stp_pick_f (v := .bool false) ((rfl : _ = (.bool (!(num d.run)) : Value)).trans (congrArg Value.bool h15)) rfl ?_)
    refine sx rfl (stp_move (v := .bool false) rfl ?_)
    refine sx_on (j := 16) (dd := 49) rfl rfl (by decide) (yl_on (e := false) rfl rfl) (stp_move (v := .bool true) rfl ?_)
    refine sx_on (j := 16) (dd := 49) rfl rfl (by decide) (yl_on (e := false) rfl rfl) (stp_move (v := .bool true) rfl ?_)
    refine sx_on (j := 18) (dd := 51) rfl rfl (by decide) (yl_on (e := true) rfl rfl) (stp_fieldAddr fa_Deed_3 rfl ?_)
    refine sx_on (j := 18) (dd := 51) rfl rfl (by decide) (yl_on (e := true) rfl rfl) (stp_load_bx ld_int rfl rfl (st13.get 0 rfl) (i := 7) rfl rfl ?_)
    refine sx_on (j := 18) (dd := 51) rfl rfl (by decide) (yl_on (e := true) rfl rfl) (stp_call1 Tryd.func56 rfl rfl ((numS W11 d.task).mono ?_)); rintro _ W16 ⟨rfl, hk17⟩; refine ⟨_, rfl, ?_⟩
    have st18 := St.call st13 hk17
    refine sx_on (j := 18) (dd := 51) rfl rfl (by decide) (yl_on (e := true) rfl rfl) (stp_not rfl ?_)
    refine sx_on (j := 18) (dd := 51) rfl rfl (by decide) (yl_on (e := true) rfl rfl) (stp_move (v := .bool (!(num d.task))) rfl ?_)
    rcases bd (!(num d.task)) with h20 | h20
    · skip
      refine sx_on (j := 23) (dd := 56) rfl rfl (by decide) (yl_on (e := !(num d.task)) rfl h20) (stp_fieldAddr fa_Deed_4 rfl ?_)
      refine sx_on (j := 23) (dd := 56) rfl rfl (by decide) (yl_on (e := !(num d.task)) rfl h20) (stp_load_bx ld_int rfl rfl (st18.get 0 rfl) (i := 8) rfl rfl ?_)
      refine sx_on (j := 23) (dd := 56) rfl rfl (by decide) (yl_on (e := !(num d.task)) rfl h20) (stp_call1 Tryd.func56 rfl rfl ((numS W16 d.try_).mono ?_)); rintro _ W21 ⟨rfl, hk22⟩; refine ⟨_, rfl, ?_⟩
      have st23 := St.call st18 hk22
      refine sx_on (j := 23) (dd := 56) rfl rfl (by decide) (yl_on (e := !(num d.task)) rfl h20) (stp_not rfl ?_)
      refine sx_on (j := 18) (dd := 51) rfl rfl (by decide) (yl_on (e := true) rfl rfl) (stp_pick_f (v := .bool (!(num d.try_))) ((rfl : _ = (.bool (!(num d.task)) : Value)).trans (congrArg Value.bool h20)) rfl ?_)
      refine sx_on (j := 16) (dd := 49) rfl rfl (by decide) (yl_on (e := false) rfl rfl) (stp_pick_t (v := .bool (!(num d.try_))) rfl rfl ?_)
      refine sx rfl (stp_pick_f (v := .bool (!(num d.try_))) rfl rfl ?_)
      refine sx rfl (stp_move (v := .bool (!(num d.try_))) rfl ?_)
      rcases bd (!(num d.try_)) with h25 | h25
      · skip
        refine sx_on (j := 31) (dd := 64) rfl rfl (by decide) (yl_on (e := !(num d.try_)) rfl h25) (stp_move (v := .bool true) rfl ?_)
        refine sx_on (j := 31) (dd := 64) rfl rfl (by decide) (yl_on (e := !(num d.try_)) rfl h25) (stp_not rfl ?_)
        refine sx_on (j := 31) (dd := 64) rfl rfl (by decide) (yl_on (e := !(num d.try_)) rfl h25) (stp_move (v := .bool false) rfl ?_)
        iterate 4 refine sx_off (j := 34) (dd := 67) rfl rfl (by decide) (yl_off (e := false) rfl rfl) ?_
        iterate 3 refine sx_off rfl rfl (by decide) (yl_und rfl) ?_
        refine sx_off (j := 34) (dd := 67) rfl rfl (by decide) (yl_off (e := false) rfl rfl) ?_
        refine sx_on (j := 31) (dd := 64) rfl rfl (by decide) (yl_on (e := !(num d.try_)) rfl h25) (stp_pick_f (v := .bool false) rfl rfl ?_)
        refine sx rfl (stp_pick_f (v := .bool false) ((rfl : _ = (.bool (!(num d.try_)) : Value)).trans (congrArg Value.bool h25)) rfl ?_)
        refine sx rfl (stp_move (v := .bool false) rfl ?_)
        refine sx_on (j := 45) (dd := 78) rfl rfl (by decide) (yl_on (e := false) rfl rfl) (stp_move (v := .bool (decide (d.kind = 2))) rfl ?_)
        refine sx_on (j := 45) (dd := 78) rfl rfl (by decide) (yl_on (e := false) rfl rfl) (stp_move (v := .bool (decide (d.kind = 2))) rfl ?_)
        iterate 5 refine sx_off (j := 47) (dd := 80) rfl rfl (by decide) (yl_off (e := decide (d.kind = 2)) rfl kf_2) ?_
        iterate 4 refine sx_off rfl rfl (by decide) (yl_und rfl) ?_
        refine sx_off (j := 47) (dd := 80) rfl rfl (by decide) (yl_off (e := decide (d.kind = 2)) rfl kf_2) ?_
        refine sx_on (j := 45) (dd := 78) rfl rfl (by decide) (yl_on (e := false) rfl rfl) (stp_pick_f (v := .bool false) ((rfl : _ = (.bool (decide (d.kind = 2)) : Value)).trans (congrArg Value.bool kf_2)) rfl ?_)
        refine sx rfl (stp_pick_f (v := .bool false) rfl rfl ?_)
        refine sx rfl (stp_move (v := .bool false) rfl ?_)
        refine sx_on (j := 60) (dd := 93) rfl rfl (by decide) (yl_on (e := false) rfl rfl) (stp_move (v := .bool (decide (d.kind = 2))) rfl ?_)
        refine sx_on (j := 60) (dd := 93) rfl rfl (by decide) (yl_on (e := false) rfl rfl) (stp_not rfl ?_)
        refine sx_on (j := 60) (dd := 93) rfl rfl (by decide) (yl_on (e := false) rfl rfl) (stp_move (v := .bool (!decide (d.kind = 2))) rfl ?_)
        refine sx_on (j := 63) (dd := 96) rfl rfl (by decide) (yl_on (e := !decide (d.kind = 2)) rfl (congrArg not kf_2)) (stp_fieldAddr fa_Deed_5 rfl ?_)
        refine sx_on (j := 63) (dd := 96) rfl rfl (by decide) (yl_on (e := !decide (d.kind = 2)) rfl (congrArg not kf_2)) (stp_load_bx ld_int rfl rfl (st23.get 0 rfl) (i := 9) rfl rfl ?_)
        refine sx_on (j := 63) (dd := 96) rfl rfl (by decide) (yl_on (e := !decide (d.kind = 2)) rfl (congrArg not kf_2)) (stp_neq rfl rfl ?_)
        refine sx_on (j := 63) (dd := 96) rfl rfl (by decide) (yl_on (e := !decide (d.kind = 2)) rfl (congrArg not kf_2)) (stp_move (v := .bool (!decide (d.worker = 0))) rfl ?_)
        rcases bd (!decide (d.worker = 0)) with h26 | h26
        · skip
          have h26p := of_decide_eq_true (bnot_f h26)
          refine sx_on (j := 67) (dd := 100) rfl rfl (by decide) (yl_on (e := !decide (d.worker = 0)) rfl h26) (stp_fieldAddr fa_Deed_6 rfl ?_)
          refine sx_on (j := 67) (dd := 100) rfl rfl (by decide) (yl_on (e := !decide (d.worker = 0)) rfl h26) (stp_load_bx ld_int rfl rfl (st23.get 0 rfl) (i := 10) rfl rfl ?_)
          refine sx_on (j := 67) (dd := 100) rfl rfl (by decide) (yl_on (e := !decide (d.worker = 0)) rfl h26) (stp_neq rfl rfl ?_)
          refine sx_on (j := 63) (dd := 96) rfl rfl (by decide) (yl_on (e := !decide (d.kind = 2)) rfl (congrArg not kf_2)) (stp_pick_f (v := .bool (!decide (d.draw = 0))) ((rfl : _ = (.bool (!decide (d.worker = 0)) : Value)).trans (congrArg Value.bool h26)) rfl ?_)
          refine sx_on (j := 60) (dd := 93) rfl rfl (by decide) (yl_on (e := false) rfl rfl) (stp_pick_t (v := .bool (!decide (d.draw = 0))) ((rfl : _ = (.bool (!decide (d.kind = 2)) : Value)).trans (congrArg Value.bool (congrArg not kf_2))) rfl ?_)
          refine sx rfl (stp_pick_f (v := .bool (!decide (d.draw = 0))) rfl rfl ?_)
          refine sx_nil ?_
          refine sx_if rfl (fun h27 => ?_) (fun h27 => ?_)
          · skip
            have h27p := of_decide_eq_false (bnot_t h27)
            refine wp_seq ?_
            refine sx_region ?_
            refine sx rfl (stp_assign (v := .bool false) rfl ?_)
            refine sx_nil ?_
            refine wp_ret ?_; repeat (first | refine then_ret ?_ | refine blk_ret ?_)
            refine ret1 Tryd.results35 rfl ?_
            exact ⟨(congrArg (fun z => Ending.returned (.bool z)) (Eq.symm (by rw [deedOk_3 (.inl hk)]; simp [num0, bnot_f h15, bnot_f h20, bnot_f h25, h26p, h27p]))), st23.bare⟩
          · skip
            have h27p := of_decide_eq_true (bnot_f h27)
            refine wp_skip ?_
            refine wp_seq ?_
            refine wp_seq ?_
            refine sx_region ?_
            refine sx rfl (stp_fieldAddr fa_Deed_0 rfl ?_)
            refine sx rfl (stp_load_bx ld_int rfl rfl (st23.get 0 rfl) (i := 0) rfl rfl ?_)
            refine sx rfl (stp_eql rfl rfl ?_)
            refine sx_nil ?_
            refine sx_f rfl kf_1 ?_
            refine wp_skip ?_
            refine wp_seq ?_
            refine sx_region ?_
            refine sx rfl (stp_fieldAddr fa_Deed_2 rfl ?_)
            refine sx rfl (stp_load_bxs (cs := [I d.plan.prio, I d.plan.most, I d.plan.wait, I d.plan.tasks, v6_0]) ld_Plan rfl rfl (st23.get 0 rfl) rfl rfl ?_)
            refine sx rfl (stp_call1 Tryd.func58 rfl rfl ((noPlanS W21 (show Shape.C _ [I d.plan.prio, I d.plan.most, I d.plan.wait, I d.plan.tasks, v6_0] d.plan _ from ⟨_, _, rfl, (by simp only [Edge.ok, Plan.ok, Entry.ok, Task.ok, Run.ok, Yard.ok, Reply.ok, Deed.ok, Note.ok, Wait.ok, File.ok, Disk.ok, Engine.ok, WorldD.ok, ActD.ok, Hand.ok, Span.ok, Crew.ok, View.ok, I64] at *; omega), (h6_0.below st23.below), rfl⟩)).mono ?_)); rintro _ W28 ⟨rfl, hk29⟩; refine ⟨_, rfl, ?_⟩
            have st30 := St.call st23 hk29
            refine sx rfl (stp_assign (v := .bool (noPlan d.plan)) rfl ?_)
            refine sx_nil ?_
            refine wp_ret ?_; repeat (first | refine then_ret ?_ | refine blk_ret ?_)
            refine ret1 Tryd.results35 rfl ?_
            exact ⟨(congrArg (fun z => Ending.returned (.bool z)) (Eq.symm (by rw [deedOk_3 (.inl hk)]; simp [num0, bnot_f h15, bnot_f h20, bnot_f h25, h26p, h27p]))), st30.bare⟩
        · skip
          have h26p := of_decide_eq_false (bnot_t h26)
          iterate 3 refine sx_off (j := 67) (dd := 100) rfl rfl (by decide) (yl_off (e := !decide (d.worker = 0)) rfl h26) ?_
          refine sx_on (j := 63) (dd := 96) rfl rfl (by decide) (yl_on (e := !decide (d.kind = 2)) rfl (congrArg not kf_2)) (stp_pick_t (v := .bool true) ((rfl : _ = (.bool (!decide (d.worker = 0)) : Value)).trans (congrArg Value.bool h26)) rfl ?_)
          refine sx_on (j := 60) (dd := 93) rfl rfl (by decide) (yl_on (e := false) rfl rfl) (stp_pick_t (v := .bool true) ((rfl : _ = (.bool (!decide (d.kind = 2)) : Value)).trans (congrArg Value.bool (congrArg not kf_2))) rfl ?_)
          refine sx rfl (stp_pick_f (v := .bool true) rfl rfl ?_)
          refine sx_nil ?_
          refine sx_t rfl rfl ?_
          refine wp_seq ?_
          refine sx_region ?_
          refine sx rfl (stp_assign (v := .bool false) rfl ?_)
          refine sx_nil ?_
          refine wp_ret ?_; repeat (first | refine then_ret ?_ | refine blk_ret ?_)
          refine ret1 Tryd.results35 rfl ?_
          exact ⟨(congrArg (fun z => Ending.returned (.bool z)) (Eq.symm (by rw [deedOk_3 (.inl hk)]; simp [num0, bnot_f h15, bnot_f h20, bnot_f h25, h26p]))), st23.bare⟩
      · skip
        iterate 3 refine sx_off (j := 31) (dd := 64) rfl rfl (by decide) (yl_off (e := !(num d.try_)) rfl h25) ?_
        iterate 8 refine sx_off rfl rfl (by decide) (yl_und rfl) ?_
        refine sx_off (j := 31) (dd := 64) rfl rfl (by decide) (yl_off (e := !(num d.try_)) rfl h25) ?_
        refine sx rfl (stp_pick_t (v := .bool true) ((rfl : _ = (.bool (!(num d.try_)) : Value)).trans (congrArg Value.bool h25)) rfl ?_)
        refine sx rfl (stp_move (v := .bool true) rfl ?_)
        iterate 2 refine sx_off (j := 45) (dd := 78) rfl rfl (by decide) (yl_off (e := true) rfl rfl) ?_
        iterate 10 refine sx_off rfl rfl (by decide) (yl_und rfl) ?_
        refine sx_off (j := 45) (dd := 78) rfl rfl (by decide) (yl_off (e := true) rfl rfl) ?_
        refine sx rfl (stp_pick_t (v := .bool true) rfl rfl ?_)
        refine sx rfl (stp_move (v := .bool true) rfl ?_)
        iterate 3 refine sx_off (j := 60) (dd := 93) rfl rfl (by decide) (yl_off (e := true) rfl rfl) ?_
        iterate 8 refine sx_off rfl rfl (by decide) (yl_und rfl) ?_
        refine sx_off (j := 60) (dd := 93) rfl rfl (by decide) (yl_off (e := true) rfl rfl) ?_
        refine sx rfl (stp_pick_t (v := .bool true) rfl rfl ?_)
        refine sx_nil ?_
        refine sx_t rfl rfl ?_
        refine wp_seq ?_
        refine sx_region ?_
        refine sx rfl (stp_assign (v := .bool false) rfl ?_)
        refine sx_nil ?_
        refine wp_ret ?_; repeat (first | refine then_ret ?_ | refine blk_ret ?_)
        refine ret1 Tryd.results35 rfl ?_
        exact ⟨(congrArg (fun z => Ending.returned (.bool z)) (Eq.symm (by rw [deedOk_3 (.inl hk)]; simp [num0, bnot_f h15, bnot_f h20, bnot_t h25]))), st23.bare⟩
    · skip
      iterate 4 refine sx_off (j := 23) (dd := 56) rfl rfl (by decide) (yl_off (e := !(num d.task)) rfl h20) ?_
      refine sx_on (j := 18) (dd := 51) rfl rfl (by decide) (yl_on (e := true) rfl rfl) (stp_pick_t (v := .bool true) ((rfl : _ = (.bool (!(num d.task)) : Value)).trans (congrArg Value.bool h20)) rfl ?_)
      refine sx_on (j := 16) (dd := 49) rfl rfl (by decide) (yl_on (e := false) rfl rfl) (stp_pick_t (v := .bool true) rfl rfl ?_)
      refine sx rfl (stp_pick_f (v := .bool true) rfl rfl ?_)
      refine sx rfl (stp_move (v := .bool true) rfl ?_)
      iterate 3 refine sx_off (j := 31) (dd := 64) rfl rfl (by decide) (yl_off (e := true) rfl rfl) ?_
      iterate 8 refine sx_off rfl rfl (by decide) (yl_und rfl) ?_
      refine sx_off (j := 31) (dd := 64) rfl rfl (by decide) (yl_off (e := true) rfl rfl) ?_
      refine sx rfl (stp_pick_t (v := .bool true) rfl rfl ?_)
      refine sx rfl (stp_move (v := .bool true) rfl ?_)
      iterate 2 refine sx_off (j := 45) (dd := 78) rfl rfl (by decide) (yl_off (e := true) rfl rfl) ?_
      iterate 10 refine sx_off rfl rfl (by decide) (yl_und rfl) ?_
      refine sx_off (j := 45) (dd := 78) rfl rfl (by decide) (yl_off (e := true) rfl rfl) ?_
      refine sx rfl (stp_pick_t (v := .bool true) rfl rfl ?_)
      refine sx rfl (stp_move (v := .bool true) rfl ?_)
      iterate 3 refine sx_off (j := 60) (dd := 93) rfl rfl (by decide) (yl_off (e := true) rfl rfl) ?_
      iterate 8 refine sx_off rfl rfl (by decide) (yl_und rfl) ?_
      refine sx_off (j := 60) (dd := 93) rfl rfl (by decide) (yl_off (e := true) rfl rfl) ?_
      refine sx rfl (stp_pick_t (v := .bool true) rfl rfl ?_)
      refine sx_nil ?_
      refine sx_t rfl rfl ?_
      refine wp_seq ?_
      refine sx_region ?_
      refine sx rfl (stp_assign (v := .bool false) rfl ?_)
      refine sx_nil ?_
      refine wp_ret ?_; repeat (first | refine then_ret ?_ | refine blk_ret ?_)
      refine ret1 Tryd.results35 rfl ?_
      exact ⟨(congrArg (fun z => Ending.returned (.bool z)) (Eq.symm (by rw [deedOk_3 (.inl hk)]; simp [num0, bnot_f h15, bnot_t h20]))), st18.bare⟩
  · skip
    iterate 3 refine sx_off (j := 7) (dd := 40) rfl rfl (by decide) (yl_off (e := !(num d.run)) rfl h15) ?_
    iterate 3 refine sx_off rfl rfl (by decide) (yl_und rfl) ?_
    refine sx_off (j := 7) (dd := 40) rfl rfl (by decide) (yl_off (e := !(num d.run)) rfl h15) ?_
    refine sx rfl (stp_pick_t (v := .bool true) ((rfl : _ = (.bool (!(num d.run)) : Value)).trans (congrArg Value.bool h15)) rfl ?_)
    refine sx rfl (stp_move (v := .bool true) rfl ?_)
    iterate 2 refine sx_off (j := 16) (dd := 49) rfl rfl (by decide) (yl_off (e := true) rfl rfl) ?_
    iterate 10 refine sx_off rfl rfl (by decide) (yl_und rfl) ?_
    refine sx_off (j := 16) (dd := 49) rfl rfl (by decide) (yl_off (e := true) rfl rfl) ?_
    refine sx rfl (stp_pick_t (v := .bool true) rfl rfl ?_)
    refine sx rfl (stp_move (v := .bool true) rfl ?_)
    iterate 3 refine sx_off (j := 31) (dd := 64) rfl rfl (by decide) (yl_off (e := true) rfl rfl) ?_
    iterate 8 refine sx_off rfl rfl (by decide) (yl_und rfl) ?_
    refine sx_off (j := 31) (dd := 64) rfl rfl (by decide) (yl_off (e := true) rfl rfl) ?_
    refine sx rfl (stp_pick_t (v := .bool true) rfl rfl ?_)
    refine sx rfl (stp_move (v := .bool true) rfl ?_)
    iterate 2 refine sx_off (j := 45) (dd := 78) rfl rfl (by decide) (yl_off (e := true) rfl rfl) ?_
    iterate 10 refine sx_off rfl rfl (by decide) (yl_und rfl) ?_
    refine sx_off (j := 45) (dd := 78) rfl rfl (by decide) (yl_off (e := true) rfl rfl) ?_
    refine sx rfl (stp_pick_t (v := .bool true) rfl rfl ?_)
    refine sx rfl (stp_move (v := .bool true) rfl ?_)
    iterate 3 refine sx_off (j := 60) (dd := 93) rfl rfl (by decide) (yl_off (e := true) rfl rfl) ?_
    iterate 8 refine sx_off rfl rfl (by decide) (yl_und rfl) ?_
    refine sx_off (j := 60) (dd := 93) rfl rfl (by decide) (yl_off (e := true) rfl rfl) ?_
    refine sx rfl (stp_pick_t (v := .bool true) rfl rfl ?_)
    refine sx_nil ?_
    refine sx_t rfl rfl ?_
    refine wp_seq ?_
    refine sx_region ?_
    refine sx rfl (stp_assign (v := .bool false) rfl ?_)
    refine sx_nil ?_
    refine wp_ret ?_; repeat (first | refine then_ret ?_ | refine blk_ret ?_)
    refine ret1 Tryd.results35 rfl ?_
    exact ⟨(congrArg (fun z => Ending.returned (.bool z)) (Eq.symm (by rw [deedOk_3 (.inl hk)]; simp [num0, bnot_t h15]))), st13.bare⟩
set_option maxHeartbeats 2000000 in
theorem DeedOkS_4 (w : World) {d : Deed} {cs : List Value} {fp : List Nat} (hc : Shape.C w cs d fp) (hk : d.kind = 4) :
    Calls Tryd.prog 35 #[.agg cs.toArray] w fun e w' => e = .returned (.bool (deedOk d)) ∧ St w w' [] := by
  refine enter1 Tryd.func35 rfl Tryd.ntmps35 (by decide) ?_
  have hki : inB d.kind 1 8 = true := by rw [hk]; rfl
  have kf_1 : decide (d.kind = 1) = false := by rw [hk]; rfl
  have kf_2 : decide (d.kind = 2) = false := by rw [hk]; rfl
  have kf_3 : decide (d.kind = 3) = false := by rw [hk]; rfl
  have kf_4 : decide (d.kind = 4) = true := by rw [hk]; rfl
  have kf_5 : decide (d.kind = 5) = false := by rw [hk]; rfl
  have kf_6 : decide (d.kind = 6) = false := by rw [hk]; rfl
  have kf_7 : decide (d.kind = 7) = false := by rw [hk]; rfl
  have kf_8 : decide (d.kind = 8) = false := by rw [hk]; rfl
  refine wp_seq ?_
  refine sx_region ?_
  refine sx rfl (stp_box_agg (cs := cs) rfl (St.start w) ?_); intro b1 W2 hb3 st4
  refine sx rfl (stp_assign (v := .bool false) rfl ?_)
  refine sx_nil ?_
  refine wp_seq ?_
  refine wp_seq ?_
  refine sx_region ?_
  refine sx rfl (stp_fieldAddr fa_Deed_0 rfl ?_)
  have hk6 := hc
  obtain ⟨v6_0, g6_0, rfl, hok6, h6_0, rfl⟩ := hk6
  refine sx rfl (stp_load_bx ld_int rfl rfl (st4.get 0 rfl) (i := 0) rfl rfl ?_)
  refine sx rfl (stp_call3 Tryd.func28 rfl rfl rfl rfl ((l01In_n W2 d.kind 1 8).mono ?_)); rintro _ W7 ⟨rfl, hk8⟩; refine ⟨_, rfl, ?_⟩
  have st9 := St.call st4 hk8
  refine sx rfl (stp_not rfl ?_)
  refine sx_nil ?_
  refine sx_f rfl (congrArg not hki) ?_
  refine wp_skip ?_
  refine wp_seq ?_
  refine sx_region ?_
  refine sx rfl (stp_fieldAddr fa_Deed_0 rfl ?_)
  refine sx rfl (stp_load_bx ld_int rfl rfl (st9.get 0 rfl) (i := 0) rfl rfl ?_)
  refine sx rfl (stp_eql rfl rfl ?_)
  refine sx rfl (stp_assign (v := .bool (decide (d.kind = 2))) rfl ?_)
  refine sx_nil ?_
  refine wp_seq ?_
  refine sx_region ?_
  refine sx rfl (stp_fieldAddr fa_Deed_0 rfl ?_)
  refine sx rfl (stp_load_bx ld_int rfl rfl (st9.get 0 rfl) (i := 0) rfl rfl ?_)
  refine sx rfl (stp_eql rfl rfl ?_)
  refine sx rfl (stp_move (v := .bool (decide (d.kind = 3))) rfl ?_)
  refine sx_on (j := 3) (dd := 16) rfl rfl (by decide) (yl_on (e := decide (d.kind = 3)) rfl kf_3) (stp_fieldAddr fa_Deed_0 rfl ?_)
  refine sx_on (j := 3) (dd := 16) rfl rfl (by decide) (yl_on (e := decide (d.kind = 3)) rfl kf_3) (stp_load_bx ld_int rfl rfl (st9.get 0 rfl) (i := 0) rfl rfl ?_)
  refine sx_on (j := 3) (dd := 16) rfl rfl (by decide) (yl_on (e := decide (d.kind = 3)) rfl kf_3) (stp_eql rfl rfl ?_)
  refine sx rfl (stp_pick_f (v := .bool (decide (d.kind = 4))) ((rfl : _ = (.bool (decide (d.kind = 3)) : Value)).trans (congrArg Value.bool kf_3)) rfl ?_)
  refine sx rfl (stp_assign (v := .bool (decide (d.kind = 4))) rfl ?_)
  refine sx_nil ?_
  refine wp_seq ?_
  refine sx_region ?_
  refine sx rfl (stp_move (v := .bool (decide (d.kind = 2))) rfl ?_)
  refine sx rfl (stp_not rfl ?_)
  refine sx rfl (stp_move (v := .bool (!decide (d.kind = 2))) rfl ?_)
  refine sx_on (j := 2) (dd := 23) rfl rfl (by decide) (yl_on (e := !decide (d.kind = 2)) rfl (congrArg not kf_2)) (stp_fieldAddr fa_Deed_0 rfl ?_)
  refine sx_on (j := 2) (dd := 23) rfl rfl (by decide) (yl_on (e := !decide (d.kind = 2)) rfl (congrArg not kf_2)) (stp_load_bx ld_int rfl rfl (st9.get 0 rfl) (i := 0) rfl rfl ?_)
  refine sx_on (j := 2) (dd := 23) rfl rfl (by decide) (yl_on (e := !decide (d.kind = 2)) rfl (congrArg not kf_2)) (stp_neq rfl rfl ?_)
  refine sx rfl (stp_pick_t (v := .bool (!decide (d.kind = 5))) ((rfl : _ = (.bool (!decide (d.kind = 2)) : Value)).trans (congrArg Value.bool (congrArg not kf_2))) rfl ?_)
  refine sx rfl (stp_move (v := .bool (!decide (d.kind = 5))) rfl ?_)
  refine sx_on (j := 7) (dd := 28) rfl rfl (by decide) (yl_on (e := !decide (d.kind = 5)) rfl (congrArg not kf_5)) (stp_fieldAddr fa_Deed_0 rfl ?_)
  refine sx_on (j := 7) (dd := 28) rfl rfl (by decide) (yl_on (e := !decide (d.kind = 5)) rfl (congrArg not kf_5)) (stp_load_bx ld_int rfl rfl (st9.get 0 rfl) (i := 0) rfl rfl ?_)
  refine sx_on (j := 7) (dd := 28) rfl rfl (by decide) (yl_on (e := !decide (d.kind = 5)) rfl (congrArg not kf_5)) (stp_neq rfl rfl ?_)
  refine sx rfl (stp_pick_t (v := .bool (!decide (d.kind = 8))) ((rfl : _ = (.bool (!decide (d.kind = 5)) : Value)).trans (congrArg Value.bool (congrArg not kf_5))) rfl ?_)
  refine sx rfl (stp_assign (v := .bool (!decide (d.kind = 8))) rfl ?_)
  refine sx_nil ?_
  refine wp_seq ?_
  refine wp_seq ?_
  refine sx_region ?_
  refine sx rfl (stp_move (v := .bool (!decide (d.kind = 8))) rfl ?_)
  refine sx rfl (stp_move (v := .bool (!decide (d.kind = 8))) rfl ?_)
  refine sx_on (j := 1) (dd := 34) rfl rfl (by decide) (yl_on (e := !decide (d.kind = 8)) rfl (congrArg not kf_8)) (stp_fieldAddr fa_Deed_1 rfl ?_)
  refine sx_on (j := 1) (dd := 34) rfl rfl (by decide) (yl_on (e := !decide (d.kind = 8)) rfl (congrArg not kf_8)) (stp_load_bx ld_int rfl rfl (st9.get 0 rfl) (i := 1) rfl rfl ?_)
  refine sx_on (j := 1) (dd := 34) rfl rfl (by decide) (yl_on (e := !decide (d.kind = 8)) rfl (congrArg not kf_8)) (stp_call1 Tryd.func56 rfl rfl ((numS W7 d.run).mono ?_)); rintro _ W11 ⟨rfl, hk12⟩; refine ⟨_, rfl, ?_⟩
  have st13 := St.call st9 hk12
  refine sx_on (j := 1) (dd := 34) rfl rfl (by decide) (yl_on (e := !decide (d.kind = 8)) rfl (congrArg not kf_8)) (stp_not rfl ?_)
  refine sx rfl (stp_pick_t (v := .bool (!(num d.run))) ((rfl : _ = (.bool (!decide (d.kind = 8)) : Value)).trans (congrArg Value.bool (congrArg not kf_8))) rfl ?_)
  refine sx rfl (stp_move (v := .bool (!(num d.run))) rfl ?_)
  rcases bd (!(num d.run)) with h15 | h15
  · skip
    refine sx_on (j := 7) (dd := 40) rfl rfl (by decide) (yl_on (e := !(num d.run)) rfl h15) (stp_move (v := .bool (!decide (d.kind = 8))) rfl ?_)
    refine sx_on (j := 7) (dd := 40) rfl rfl (by decide) (yl_on (e := !(num d.run)) rfl h15) (stp_not rfl ?_)
    refine sx_on (j := 7) (dd := 40) rfl rfl (by decide) (yl_on (e := !(num d.run)) rfl h15) (stp_move (v := .bool (!(!decide (d.kind = 8)))) rfl ?_)
    iterate 3 refine sx_off (j := 10) (dd := 43) rfl rfl (by decide) (yl_off (e := !(!decide (d.kind = 8))) rfl (congrArg not (congrArg not kf_8))) ?_
    refine sx_on (j := 7) (dd := 40) rfl rfl (by decide) (yl_on (e := !(num d.run)) rfl h15) (stp_pick_f (v := .bool false) ((rfl : _ = (.bool (!(!decide (d.kind = 8))) : Value)).trans (congrArg Value.bool (congrArg not (congrArg not kf_8)))) rfl ?_)
    refine sx rfl (stp_pick_f (v := .bool false) ((rfl : _ = (.bool (!(num d.run)) : Value)).trans (congrArg Value.bool h15)) rfl ?_)
    refine sx rfl (stp_move (v := .bool false) rfl ?_)
    refine sx_on (j := 16) (dd := 49) rfl rfl (by decide) (yl_on (e := false) rfl rfl) (stp_move (v := .bool (decide (d.kind = 4))) rfl ?_)
    refine sx_on (j := 16) (dd := 49) rfl rfl (by decide) (yl_on (e := false) rfl rfl) (stp_move (v := .bool (decide (d.kind = 4))) rfl ?_)
    refine sx_on (j := 18) (dd := 51) rfl rfl (by decide) (yl_on (e := decide (d.kind = 4)) rfl kf_4) (stp_fieldAddr fa_Deed_3 rfl ?_)
    refine sx_on (j := 18) (dd := 51) rfl rfl (by decide) (yl_on (e := decide (d.kind = 4)) rfl kf_4) (stp_load_bx ld_int rfl rfl (st13.get 0 rfl) (i := 7) rfl rfl ?_)
    refine sx_on (j := 18) (dd := 51) rfl rfl (by decide) (yl_on (e := decide (d.kind = 4)) rfl kf_4) (stp_call1 Tryd.func56 rfl rfl ((numS W11 d.task).mono ?_)); rintro _ W16 ⟨rfl, hk17⟩; refine ⟨_, rfl, ?_⟩
    have st18 := St.call st13 hk17
    refine sx_on (j := 18) (dd := 51) rfl rfl (by decide) (yl_on (e := decide (d.kind = 4)) rfl kf_4) (stp_not rfl ?_)
    refine sx_on (j := 18) (dd := 51) rfl rfl (by decide) (yl_on (e := decide (d.kind = 4)) rfl kf_4) (stp_move (v := .bool (!(num d.task))) rfl ?_)
    rcases bd (!(num d.task)) with h20 | h20
    · skip
      refine sx_on (j := 23) (dd := 56) rfl rfl (by decide) (yl_on (e := !(num d.task)) rfl h20) (stp_fieldAddr fa_Deed_4 rfl ?_)
      refine sx_on (j := 23) (dd := 56) rfl rfl (by decide) (yl_on (e := !(num d.task)) rfl h20) (stp_load_bx ld_int rfl rfl (st18.get 0 rfl) (i := 8) rfl rfl ?_)
      refine sx_on (j := 23) (dd := 56) rfl rfl (by decide) (yl_on (e := !(num d.task)) rfl h20) (stp_call1 Tryd.func56 rfl rfl ((numS W16 d.try_).mono ?_)); rintro _ W21 ⟨rfl, hk22⟩; refine ⟨_, rfl, ?_⟩
      have st23 := St.call st18 hk22
      refine sx_on (j := 23) (dd := 56) rfl rfl (by decide) (yl_on (e := !(num d.task)) rfl h20) (stp_not rfl ?_)
      refine sx_on (j := 18) (dd := 51) rfl rfl (by decide) (yl_on (e := decide (d.kind = 4)) rfl kf_4) (stp_pick_f (v := .bool (!(num d.try_))) ((rfl : _ = (.bool (!(num d.task)) : Value)).trans (congrArg Value.bool h20)) rfl ?_)
      refine sx_on (j := 16) (dd := 49) rfl rfl (by decide) (yl_on (e := false) rfl rfl) (stp_pick_t (v := .bool (!(num d.try_))) ((rfl : _ = (.bool (decide (d.kind = 4)) : Value)).trans (congrArg Value.bool kf_4)) rfl ?_)
      refine sx rfl (stp_pick_f (v := .bool (!(num d.try_))) rfl rfl ?_)
      refine sx rfl (stp_move (v := .bool (!(num d.try_))) rfl ?_)
      rcases bd (!(num d.try_)) with h25 | h25
      · skip
        refine sx_on (j := 31) (dd := 64) rfl rfl (by decide) (yl_on (e := !(num d.try_)) rfl h25) (stp_move (v := .bool (decide (d.kind = 4))) rfl ?_)
        refine sx_on (j := 31) (dd := 64) rfl rfl (by decide) (yl_on (e := !(num d.try_)) rfl h25) (stp_not rfl ?_)
        refine sx_on (j := 31) (dd := 64) rfl rfl (by decide) (yl_on (e := !(num d.try_)) rfl h25) (stp_move (v := .bool (!decide (d.kind = 4))) rfl ?_)
        iterate 4 refine sx_off (j := 34) (dd := 67) rfl rfl (by decide) (yl_off (e := !decide (d.kind = 4)) rfl (congrArg not kf_4)) ?_
        iterate 3 refine sx_off rfl rfl (by decide) (yl_und rfl) ?_
        refine sx_off (j := 34) (dd := 67) rfl rfl (by decide) (yl_off (e := !decide (d.kind = 4)) rfl (congrArg not kf_4)) ?_
        refine sx_on (j := 31) (dd := 64) rfl rfl (by decide) (yl_on (e := !(num d.try_)) rfl h25) (stp_pick_f (v := .bool false) ((rfl : _ = (.bool (!decide (d.kind = 4)) : Value)).trans (congrArg Value.bool (congrArg not kf_4))) rfl ?_)
        refine sx rfl (stp_pick_f (v := .bool false) ((rfl : _ = (.bool (!(num d.try_)) : Value)).trans (congrArg Value.bool h25)) rfl ?_)
        refine sx rfl (stp_move (v := .bool false) rfl ?_)
        refine sx_on (j := 45) (dd := 78) rfl rfl (by decide) (yl_on (e := false) rfl rfl) (stp_move (v := .bool (decide (d.kind = 2))) rfl ?_)
        refine sx_on (j := 45) (dd := 78) rfl rfl (by decide) (yl_on (e := false) rfl rfl) (stp_move (v := .bool (decide (d.kind = 2))) rfl ?_)
        iterate 5 refine sx_off (j := 47) (dd := 80) rfl rfl (by decide) (yl_off (e := decide (d.kind = 2)) rfl kf_2) ?_
        iterate 4 refine sx_off rfl rfl (by decide) (yl_und rfl) ?_
        refine sx_off (j := 47) (dd := 80) rfl rfl (by decide) (yl_off (e := decide (d.kind = 2)) rfl kf_2) ?_
        refine sx_on (j := 45) (dd := 78) rfl rfl (by decide) (yl_on (e := false) rfl rfl) (stp_pick_f (v := .bool false) ((rfl : _ = (.bool (decide (d.kind = 2)) : Value)).trans (congrArg Value.bool kf_2)) rfl ?_)
        refine sx rfl (stp_pick_f (v := .bool false) rfl rfl ?_)
        refine sx rfl (stp_move (v := .bool false) rfl ?_)
        refine sx_on (j := 60) (dd := 93) rfl rfl (by decide) (yl_on (e := false) rfl rfl) (stp_move (v := .bool (decide (d.kind = 2))) rfl ?_)
        refine sx_on (j := 60) (dd := 93) rfl rfl (by decide) (yl_on (e := false) rfl rfl) (stp_not rfl ?_)
        refine sx_on (j := 60) (dd := 93) rfl rfl (by decide) (yl_on (e := false) rfl rfl) (stp_move (v := .bool (!decide (d.kind = 2))) rfl ?_)
        refine sx_on (j := 63) (dd := 96) rfl rfl (by decide) (yl_on (e := !decide (d.kind = 2)) rfl (congrArg not kf_2)) (stp_fieldAddr fa_Deed_5 rfl ?_)
        refine sx_on (j := 63) (dd := 96) rfl rfl (by decide) (yl_on (e := !decide (d.kind = 2)) rfl (congrArg not kf_2)) (stp_load_bx ld_int rfl rfl (st23.get 0 rfl) (i := 9) rfl rfl ?_)
        refine sx_on (j := 63) (dd := 96) rfl rfl (by decide) (yl_on (e := !decide (d.kind = 2)) rfl (congrArg not kf_2)) (stp_neq rfl rfl ?_)
        refine sx_on (j := 63) (dd := 96) rfl rfl (by decide) (yl_on (e := !decide (d.kind = 2)) rfl (congrArg not kf_2)) (stp_move (v := .bool (!decide (d.worker = 0))) rfl ?_)
        rcases bd (!decide (d.worker = 0)) with h26 | h26
        · skip
          have h26p := of_decide_eq_true (bnot_f h26)
          refine sx_on (j := 67) (dd := 100) rfl rfl (by decide) (yl_on (e := !decide (d.worker = 0)) rfl h26) (stp_fieldAddr fa_Deed_6 rfl ?_)
          refine sx_on (j := 67) (dd := 100) rfl rfl (by decide) (yl_on (e := !decide (d.worker = 0)) rfl h26) (stp_load_bx ld_int rfl rfl (st23.get 0 rfl) (i := 10) rfl rfl ?_)
          refine sx_on (j := 67) (dd := 100) rfl rfl (by decide) (yl_on (e := !decide (d.worker = 0)) rfl h26) (stp_neq rfl rfl ?_)
          refine sx_on (j := 63) (dd := 96) rfl rfl (by decide) (yl_on (e := !decide (d.kind = 2)) rfl (congrArg not kf_2)) (stp_pick_f (v := .bool (!decide (d.draw = 0))) ((rfl : _ = (.bool (!decide (d.worker = 0)) : Value)).trans (congrArg Value.bool h26)) rfl ?_)
          refine sx_on (j := 60) (dd := 93) rfl rfl (by decide) (yl_on (e := false) rfl rfl) (stp_pick_t (v := .bool (!decide (d.draw = 0))) ((rfl : _ = (.bool (!decide (d.kind = 2)) : Value)).trans (congrArg Value.bool (congrArg not kf_2))) rfl ?_)
          refine sx rfl (stp_pick_f (v := .bool (!decide (d.draw = 0))) rfl rfl ?_)
          refine sx_nil ?_
          refine sx_if rfl (fun h27 => ?_) (fun h27 => ?_)
          · skip
            have h27p := of_decide_eq_false (bnot_t h27)
            refine wp_seq ?_
            refine sx_region ?_
            refine sx rfl (stp_assign (v := .bool false) rfl ?_)
            refine sx_nil ?_
            refine wp_ret ?_; repeat (first | refine then_ret ?_ | refine blk_ret ?_)
            refine ret1 Tryd.results35 rfl ?_
            exact ⟨(congrArg (fun z => Ending.returned (.bool z)) (Eq.symm (by rw [deedOk_3 (.inr hk)]; simp [num0, bnot_f h15, bnot_f h20, bnot_f h25, h26p, h27p]))), st23.bare⟩
          · skip
            have h27p := of_decide_eq_true (bnot_f h27)
            refine wp_skip ?_
            refine wp_seq ?_
            refine wp_seq ?_
            refine sx_region ?_
            refine sx rfl (stp_fieldAddr fa_Deed_0 rfl ?_)
            refine sx rfl (stp_load_bx ld_int rfl rfl (st23.get 0 rfl) (i := 0) rfl rfl ?_)
            refine sx rfl (stp_eql rfl rfl ?_)
            refine sx_nil ?_
            refine sx_f rfl kf_1 ?_
            refine wp_skip ?_
            refine wp_seq ?_
            refine sx_region ?_
            refine sx rfl (stp_fieldAddr fa_Deed_2 rfl ?_)
            refine sx rfl (stp_load_bxs (cs := [I d.plan.prio, I d.plan.most, I d.plan.wait, I d.plan.tasks, v6_0]) ld_Plan rfl rfl (st23.get 0 rfl) rfl rfl ?_)
            refine sx rfl (stp_call1 Tryd.func58 rfl rfl ((noPlanS W21 (show Shape.C _ [I d.plan.prio, I d.plan.most, I d.plan.wait, I d.plan.tasks, v6_0] d.plan _ from ⟨_, _, rfl, (by simp only [Edge.ok, Plan.ok, Entry.ok, Task.ok, Run.ok, Yard.ok, Reply.ok, Deed.ok, Note.ok, Wait.ok, File.ok, Disk.ok, Engine.ok, WorldD.ok, ActD.ok, Hand.ok, Span.ok, Crew.ok, View.ok, I64] at *; omega), (h6_0.below st23.below), rfl⟩)).mono ?_)); rintro _ W28 ⟨rfl, hk29⟩; refine ⟨_, rfl, ?_⟩
            have st30 := St.call st23 hk29
            refine sx rfl (stp_assign (v := .bool (noPlan d.plan)) rfl ?_)
            refine sx_nil ?_
            refine wp_ret ?_; repeat (first | refine then_ret ?_ | refine blk_ret ?_)
            refine ret1 Tryd.results35 rfl ?_
            exact ⟨(congrArg (fun z => Ending.returned (.bool z)) (Eq.symm (by rw [deedOk_3 (.inr hk)]; simp [num0, bnot_f h15, bnot_f h20, bnot_f h25, h26p, h27p]))), st30.bare⟩
        · skip
          have h26p := of_decide_eq_false (bnot_t h26)
          iterate 3 refine sx_off (j := 67) (dd := 100) rfl rfl (by decide) (yl_off (e := !decide (d.worker = 0)) rfl h26) ?_
          refine sx_on (j := 63) (dd := 96) rfl rfl (by decide) (yl_on (e := !decide (d.kind = 2)) rfl (congrArg not kf_2)) (stp_pick_t (v := .bool true) ((rfl : _ = (.bool (!decide (d.worker = 0)) : Value)).trans (congrArg Value.bool h26)) rfl ?_)
          refine sx_on (j := 60) (dd := 93) rfl rfl (by decide) (yl_on (e := false) rfl rfl) (stp_pick_t (v := .bool true) ((rfl : _ = (.bool (!decide (d.kind = 2)) : Value)).trans (congrArg Value.bool (congrArg not kf_2))) rfl ?_)
          refine sx rfl (stp_pick_f (v := .bool true) rfl rfl ?_)
          refine sx_nil ?_
          refine sx_t rfl rfl ?_
          refine wp_seq ?_
          refine sx_region ?_
          refine sx rfl (stp_assign (v := .bool false) rfl ?_)
          refine sx_nil ?_
          refine wp_ret ?_; repeat (first | refine then_ret ?_ | refine blk_ret ?_)
          refine ret1 Tryd.results35 rfl ?_
          exact ⟨(congrArg (fun z => Ending.returned (.bool z)) (Eq.symm (by rw [deedOk_3 (.inr hk)]; simp [num0, bnot_f h15, bnot_f h20, bnot_f h25, h26p]))), st23.bare⟩
      · skip
        iterate 3 refine sx_off (j := 31) (dd := 64) rfl rfl (by decide) (yl_off (e := !(num d.try_)) rfl h25) ?_
        iterate 8 refine sx_off rfl rfl (by decide) (yl_und rfl) ?_
        refine sx_off (j := 31) (dd := 64) rfl rfl (by decide) (yl_off (e := !(num d.try_)) rfl h25) ?_
        refine sx rfl (stp_pick_t (v := .bool true) ((rfl : _ = (.bool (!(num d.try_)) : Value)).trans (congrArg Value.bool h25)) rfl ?_)
        refine sx rfl (stp_move (v := .bool true) rfl ?_)
        iterate 2 refine sx_off (j := 45) (dd := 78) rfl rfl (by decide) (yl_off (e := true) rfl rfl) ?_
        iterate 10 refine sx_off rfl rfl (by decide) (yl_und rfl) ?_
        refine sx_off (j := 45) (dd := 78) rfl rfl (by decide) (yl_off (e := true) rfl rfl) ?_
        refine sx rfl (stp_pick_t (v := .bool true) rfl rfl ?_)
        refine sx rfl (stp_move (v := .bool true) rfl ?_)
        iterate 3 refine sx_off (j := 60) (dd := 93) rfl rfl (by decide) (yl_off (e := true) rfl rfl) ?_
        iterate 8 refine sx_off rfl rfl (by decide) (yl_und rfl) ?_
        refine sx_off (j := 60) (dd := 93) rfl rfl (by decide) (yl_off (e := true) rfl rfl) ?_
        refine sx rfl (stp_pick_t (v := .bool true) rfl rfl ?_)
        refine sx_nil ?_
        refine sx_t rfl rfl ?_
        refine wp_seq ?_
        refine sx_region ?_
        refine sx rfl (stp_assign (v := .bool false) rfl ?_)
        refine sx_nil ?_
        refine wp_ret ?_; repeat (first | refine then_ret ?_ | refine blk_ret ?_)
        refine ret1 Tryd.results35 rfl ?_
        exact ⟨(congrArg (fun z => Ending.returned (.bool z)) (Eq.symm (by rw [deedOk_3 (.inr hk)]; simp [num0, bnot_f h15, bnot_f h20, bnot_t h25]))), st23.bare⟩
    · skip
      iterate 4 refine sx_off (j := 23) (dd := 56) rfl rfl (by decide) (yl_off (e := !(num d.task)) rfl h20) ?_
      refine sx_on (j := 18) (dd := 51) rfl rfl (by decide) (yl_on (e := decide (d.kind = 4)) rfl kf_4) (stp_pick_t (v := .bool true) ((rfl : _ = (.bool (!(num d.task)) : Value)).trans (congrArg Value.bool h20)) rfl ?_)
      refine sx_on (j := 16) (dd := 49) rfl rfl (by decide) (yl_on (e := false) rfl rfl) (stp_pick_t (v := .bool true) ((rfl : _ = (.bool (decide (d.kind = 4)) : Value)).trans (congrArg Value.bool kf_4)) rfl ?_)
      refine sx rfl (stp_pick_f (v := .bool true) rfl rfl ?_)
      refine sx rfl (stp_move (v := .bool true) rfl ?_)
      iterate 3 refine sx_off (j := 31) (dd := 64) rfl rfl (by decide) (yl_off (e := true) rfl rfl) ?_
      iterate 8 refine sx_off rfl rfl (by decide) (yl_und rfl) ?_
      refine sx_off (j := 31) (dd := 64) rfl rfl (by decide) (yl_off (e := true) rfl rfl) ?_
      refine sx rfl (stp_pick_t (v := .bool true) rfl rfl ?_)
      refine sx rfl (stp_move (v := .bool true) rfl ?_)
      iterate 2 refine sx_off (j := 45) (dd := 78) rfl rfl (by decide) (yl_off (e := true) rfl rfl) ?_
      iterate 10 refine sx_off rfl rfl (by decide) (yl_und rfl) ?_
      refine sx_off (j := 45) (dd := 78) rfl rfl (by decide) (yl_off (e := true) rfl rfl) ?_
      refine sx rfl (stp_pick_t (v := .bool true) rfl rfl ?_)
      refine sx rfl (stp_move (v := .bool true) rfl ?_)
      iterate 3 refine sx_off (j := 60) (dd := 93) rfl rfl (by decide) (yl_off (e := true) rfl rfl) ?_
      iterate 8 refine sx_off rfl rfl (by decide) (yl_und rfl) ?_
      refine sx_off (j := 60) (dd := 93) rfl rfl (by decide) (yl_off (e := true) rfl rfl) ?_
      refine sx rfl (stp_pick_t (v := .bool true) rfl rfl ?_)
      refine sx_nil ?_
      refine sx_t rfl rfl ?_
      refine wp_seq ?_
      refine sx_region ?_
      refine sx rfl (stp_assign (v := .bool false) rfl ?_)
      refine sx_nil ?_
      refine wp_ret ?_; repeat (first | refine then_ret ?_ | refine blk_ret ?_)
      refine ret1 Tryd.results35 rfl ?_
      exact ⟨(congrArg (fun z => Ending.returned (.bool z)) (Eq.symm (by rw [deedOk_3 (.inr hk)]; simp [num0, bnot_f h15, bnot_t h20]))), st18.bare⟩
  · skip
    iterate 3 refine sx_off (j := 7) (dd := 40) rfl rfl (by decide) (yl_off (e := !(num d.run)) rfl h15) ?_
    iterate 3 refine sx_off rfl rfl (by decide) (yl_und rfl) ?_
    refine sx_off (j := 7) (dd := 40) rfl rfl (by decide) (yl_off (e := !(num d.run)) rfl h15) ?_
    refine sx rfl (stp_pick_t (v := .bool true) ((rfl : _ = (.bool (!(num d.run)) : Value)).trans (congrArg Value.bool h15)) rfl ?_)
    refine sx rfl (stp_move (v := .bool true) rfl ?_)
    iterate 2 refine sx_off (j := 16) (dd := 49) rfl rfl (by decide) (yl_off (e := true) rfl rfl) ?_
    iterate 10 refine sx_off rfl rfl (by decide) (yl_und rfl) ?_
    refine sx_off (j := 16) (dd := 49) rfl rfl (by decide) (yl_off (e := true) rfl rfl) ?_
    refine sx rfl (stp_pick_t (v := .bool true) rfl rfl ?_)
    refine sx rfl (stp_move (v := .bool true) rfl ?_)
    iterate 3 refine sx_off (j := 31) (dd := 64) rfl rfl (by decide) (yl_off (e := true) rfl rfl) ?_
    iterate 8 refine sx_off rfl rfl (by decide) (yl_und rfl) ?_
    refine sx_off (j := 31) (dd := 64) rfl rfl (by decide) (yl_off (e := true) rfl rfl) ?_
    refine sx rfl (stp_pick_t (v := .bool true) rfl rfl ?_)
    refine sx rfl (stp_move (v := .bool true) rfl ?_)
    iterate 2 refine sx_off (j := 45) (dd := 78) rfl rfl (by decide) (yl_off (e := true) rfl rfl) ?_
    iterate 10 refine sx_off rfl rfl (by decide) (yl_und rfl) ?_
    refine sx_off (j := 45) (dd := 78) rfl rfl (by decide) (yl_off (e := true) rfl rfl) ?_
    refine sx rfl (stp_pick_t (v := .bool true) rfl rfl ?_)
    refine sx rfl (stp_move (v := .bool true) rfl ?_)
    iterate 3 refine sx_off (j := 60) (dd := 93) rfl rfl (by decide) (yl_off (e := true) rfl rfl) ?_
    iterate 8 refine sx_off rfl rfl (by decide) (yl_und rfl) ?_
    refine sx_off (j := 60) (dd := 93) rfl rfl (by decide) (yl_off (e := true) rfl rfl) ?_
    refine sx rfl (stp_pick_t (v := .bool true) rfl rfl ?_)
    refine sx_nil ?_
    refine sx_t rfl rfl ?_
    refine wp_seq ?_
    refine sx_region ?_
    refine sx rfl (stp_assign (v := .bool false) rfl ?_)
    refine sx_nil ?_
    refine wp_ret ?_; repeat (first | refine then_ret ?_ | refine blk_ret ?_)
    refine ret1 Tryd.results35 rfl ?_
    exact ⟨(congrArg (fun z => Ending.returned (.bool z)) (Eq.symm (by rw [deedOk_3 (.inr hk)]; simp [num0, bnot_t h15]))), st13.bare⟩
set_option maxHeartbeats 2000000 in
theorem DeedOkS_5 (w : World) {d : Deed} {cs : List Value} {fp : List Nat} (hc : Shape.C w cs d fp) (hk : d.kind = 5) :
    Calls Tryd.prog 35 #[.agg cs.toArray] w fun e w' => e = .returned (.bool (deedOk d)) ∧ St w w' [] := by
  refine enter1 Tryd.func35 rfl Tryd.ntmps35 (by decide) ?_
  have hki : inB d.kind 1 8 = true := by rw [hk]; rfl
  have kf_1 : decide (d.kind = 1) = false := by rw [hk]; rfl
  have kf_2 : decide (d.kind = 2) = false := by rw [hk]; rfl
  have kf_3 : decide (d.kind = 3) = false := by rw [hk]; rfl
  have kf_4 : decide (d.kind = 4) = false := by rw [hk]; rfl
  have kf_5 : decide (d.kind = 5) = true := by rw [hk]; rfl
  have kf_6 : decide (d.kind = 6) = false := by rw [hk]; rfl
  have kf_7 : decide (d.kind = 7) = false := by rw [hk]; rfl
  have kf_8 : decide (d.kind = 8) = false := by rw [hk]; rfl
  refine wp_seq ?_
  refine sx_region ?_
  refine sx rfl (stp_box_agg (cs := cs) rfl (St.start w) ?_); intro b1 W2 hb3 st4
  refine sx rfl (stp_assign (v := .bool false) rfl ?_)
  refine sx_nil ?_
  refine wp_seq ?_
  refine wp_seq ?_
  refine sx_region ?_
  refine sx rfl (stp_fieldAddr fa_Deed_0 rfl ?_)
  have hk6 := hc
  obtain ⟨v6_0, g6_0, rfl, hok6, h6_0, rfl⟩ := hk6
  refine sx rfl (stp_load_bx ld_int rfl rfl (st4.get 0 rfl) (i := 0) rfl rfl ?_)
  refine sx rfl (stp_call3 Tryd.func28 rfl rfl rfl rfl ((l01In_n W2 d.kind 1 8).mono ?_)); rintro _ W7 ⟨rfl, hk8⟩; refine ⟨_, rfl, ?_⟩
  have st9 := St.call st4 hk8
  refine sx rfl (stp_not rfl ?_)
  refine sx_nil ?_
  refine sx_f rfl (congrArg not hki) ?_
  refine wp_skip ?_
  refine wp_seq ?_
  refine sx_region ?_
  refine sx rfl (stp_fieldAddr fa_Deed_0 rfl ?_)
  refine sx rfl (stp_load_bx ld_int rfl rfl (st9.get 0 rfl) (i := 0) rfl rfl ?_)
  refine sx rfl (stp_eql rfl rfl ?_)
  refine sx rfl (stp_assign (v := .bool (decide (d.kind = 2))) rfl ?_)
  refine sx_nil ?_
  refine wp_seq ?_
  refine sx_region ?_
  refine sx rfl (stp_fieldAddr fa_Deed_0 rfl ?_)
  refine sx rfl (stp_load_bx ld_int rfl rfl (st9.get 0 rfl) (i := 0) rfl rfl ?_)
  refine sx rfl (stp_eql rfl rfl ?_)
  refine sx rfl (stp_move (v := .bool (decide (d.kind = 3))) rfl ?_)
  refine sx_on (j := 3) (dd := 16) rfl rfl (by decide) (yl_on (e := decide (d.kind = 3)) rfl kf_3) (stp_fieldAddr fa_Deed_0 rfl ?_)
  refine sx_on (j := 3) (dd := 16) rfl rfl (by decide) (yl_on (e := decide (d.kind = 3)) rfl kf_3) (stp_load_bx ld_int rfl rfl (st9.get 0 rfl) (i := 0) rfl rfl ?_)
  refine sx_on (j := 3) (dd := 16) rfl rfl (by decide) (yl_on (e := decide (d.kind = 3)) rfl kf_3) (stp_eql rfl rfl ?_)
  refine sx rfl (stp_pick_f (v := .bool (decide (d.kind = 4))) ((rfl : _ = (.bool (decide (d.kind = 3)) : Value)).trans (congrArg Value.bool kf_3)) rfl ?_)
  refine sx rfl (stp_assign (v := .bool (decide (d.kind = 4))) rfl ?_)
  refine sx_nil ?_
  refine wp_seq ?_
  refine sx_region ?_
  refine sx rfl (stp_move (v := .bool (decide (d.kind = 2))) rfl ?_)
  refine sx rfl (stp_not rfl ?_)
  refine sx rfl (stp_move (v := .bool (!decide (d.kind = 2))) rfl ?_)
  refine sx_on (j := 2) (dd := 23) rfl rfl (by decide) (yl_on (e := !decide (d.kind = 2)) rfl (congrArg not kf_2)) (stp_fieldAddr fa_Deed_0 rfl ?_)
  refine sx_on (j := 2) (dd := 23) rfl rfl (by decide) (yl_on (e := !decide (d.kind = 2)) rfl (congrArg not kf_2)) (stp_load_bx ld_int rfl rfl (st9.get 0 rfl) (i := 0) rfl rfl ?_)
  refine sx_on (j := 2) (dd := 23) rfl rfl (by decide) (yl_on (e := !decide (d.kind = 2)) rfl (congrArg not kf_2)) (stp_neq rfl rfl ?_)
  refine sx rfl (stp_pick_t (v := .bool (!decide (d.kind = 5))) ((rfl : _ = (.bool (!decide (d.kind = 2)) : Value)).trans (congrArg Value.bool (congrArg not kf_2))) rfl ?_)
  refine sx rfl (stp_move (v := .bool (!decide (d.kind = 5))) rfl ?_)
  iterate 3 refine sx_off (j := 7) (dd := 28) rfl rfl (by decide) (yl_off (e := !decide (d.kind = 5)) rfl (congrArg not kf_5)) ?_
  refine sx rfl (stp_pick_f (v := .bool false) ((rfl : _ = (.bool (!decide (d.kind = 5)) : Value)).trans (congrArg Value.bool (congrArg not kf_5))) rfl ?_)
  refine sx rfl (stp_assign (v := .bool false) rfl ?_)
  refine sx_nil ?_
  refine wp_seq ?_
  refine wp_seq ?_
  refine sx_region ?_
  refine sx rfl (stp_move (v := .bool false) rfl ?_)
  refine sx rfl (stp_move (v := .bool false) rfl ?_)
  iterate 4 refine sx_off (j := 1) (dd := 34) rfl rfl (by decide) (yl_off (e := false) rfl rfl) ?_
  refine sx rfl (stp_pick_f (v := .bool false) rfl rfl ?_)
  refine sx rfl (stp_move (v := .bool false) rfl ?_)
  refine sx_on (j := 7) (dd := 40) rfl rfl (by decide) (yl_on (e := false) rfl rfl) (stp_move (v := .bool false) rfl ?_)
  refine sx_on (j := 7) (dd := 40) rfl rfl (by decide) (yl_on (e := false) rfl rfl) (stp_not rfl ?_)
  refine sx_on (j := 7) (dd := 40) rfl rfl (by decide) (yl_on (e := false) rfl rfl) (stp_move (v := .bool true) rfl ?_)
  refine sx_on (j := 10) (dd := 43) rfl rfl (by decide) (yl_on (e := true) rfl rfl) (stp_fieldAddr fa_Deed_1 rfl ?_)
  refine sx_on (j := 10) (dd := 43) rfl rfl (by decide) (yl_on (e := true) rfl rfl) (stp_load_bx ld_int rfl rfl (st9.get 0 rfl) (i := 1) rfl rfl ?_)
  refine sx_on (j := 10) (dd := 43) rfl rfl (by decide) (yl_on (e := true) rfl rfl) (stp_neq rfl rfl ?_)
  refine sx_on (j := 7) (dd := 40) rfl rfl (by decide) (yl_on (e := false) rfl rfl) (stp_pick_t (v := .bool (!decide (d.run = 0))) rfl rfl ?_)
  refine sx rfl (stp_pick_f (v := .bool (!decide (d.run = 0))) rfl rfl ?_)
  refine sx rfl (stp_move (v := .bool (!decide (d.run = 0))) rfl ?_)
  rcases bd (!decide (d.run = 0)) with h11 | h11
  · skip
    have h11p := of_decide_eq_true (bnot_f h11)
    refine sx_on (j := 16) (dd := 49) rfl rfl (by decide) (yl_on (e := !decide (d.run = 0)) rfl h11) (stp_move (v := .bool (decide (d.kind = 4))) rfl ?_)
    refine sx_on (j := 16) (dd := 49) rfl rfl (by decide) (yl_on (e := !decide (d.run = 0)) rfl h11) (stp_move (v := .bool (decide (d.kind = 4))) rfl ?_)
    iterate 5 refine sx_off (j := 18) (dd := 51) rfl rfl (by decide) (yl_off (e := decide (d.kind = 4)) rfl kf_4) ?_
    iterate 4 refine sx_off rfl rfl (by decide) (yl_und rfl) ?_
    refine sx_off (j := 18) (dd := 51) rfl rfl (by decide) (yl_off (e := decide (d.kind = 4)) rfl kf_4) ?_
    refine sx_on (j := 16) (dd := 49) rfl rfl (by decide) (yl_on (e := !decide (d.run = 0)) rfl h11) (stp_pick_f (v := .bool false) ((rfl : _ = (.bool (decide (d.kind = 4)) : Value)).trans (congrArg Value.bool kf_4)) rfl ?_)
    refine sx rfl (stp_pick_f (v := .bool false) ((rfl : _ = (.bool (!decide (d.run = 0)) : Value)).trans (congrArg Value.bool h11)) rfl ?_)
    refine sx rfl (stp_move (v := .bool false) rfl ?_)
    refine sx_on (j := 31) (dd := 64) rfl rfl (by decide) (yl_on (e := false) rfl rfl) (stp_move (v := .bool (decide (d.kind = 4))) rfl ?_)
    refine sx_on (j := 31) (dd := 64) rfl rfl (by decide) (yl_on (e := false) rfl rfl) (stp_not rfl ?_)
    refine sx_on (j := 31) (dd := 64) rfl rfl (by decide) (yl_on (e := false) rfl rfl) (stp_move (v := .bool (!decide (d.kind = 4))) rfl ?_)
    refine sx_on (j := 34) (dd := 67) rfl rfl (by decide) (yl_on (e := !decide (d.kind = 4)) rfl (congrArg not kf_4)) (stp_fieldAddr fa_Deed_3 rfl ?_)
    refine sx_on (j := 34) (dd := 67) rfl rfl (by decide) (yl_on (e := !decide (d.kind = 4)) rfl (congrArg not kf_4)) (stp_load_bx ld_int rfl rfl (st9.get 0 rfl) (i := 7) rfl rfl ?_)
    refine sx_on (j := 34) (dd := 67) rfl rfl (by decide) (yl_on (e := !decide (d.kind = 4)) rfl (congrArg not kf_4)) (stp_neq rfl rfl ?_)
    refine sx_on (j := 34) (dd := 67) rfl rfl (by decide) (yl_on (e := !decide (d.kind = 4)) rfl (congrArg not kf_4)) (stp_move (v := .bool (!decide (d.task = 0))) rfl ?_)
    rcases bd (!decide (d.task = 0)) with h12 | h12
    · skip
      have h12p := of_decide_eq_true (bnot_f h12)
      refine sx_on (j := 38) (dd := 71) rfl rfl (by decide) (yl_on (e := !decide (d.task = 0)) rfl h12) (stp_fieldAddr fa_Deed_4 rfl ?_)
      refine sx_on (j := 38) (dd := 71) rfl rfl (by decide) (yl_on (e := !decide (d.task = 0)) rfl h12) (stp_load_bx ld_int rfl rfl (st9.get 0 rfl) (i := 8) rfl rfl ?_)
      refine sx_on (j := 38) (dd := 71) rfl rfl (by decide) (yl_on (e := !decide (d.task = 0)) rfl h12) (stp_neq rfl rfl ?_)
      refine sx_on (j := 34) (dd := 67) rfl rfl (by decide) (yl_on (e := !decide (d.kind = 4)) rfl (congrArg not kf_4)) (stp_pick_f (v := .bool (!decide (d.try_ = 0))) ((rfl : _ = (.bool (!decide (d.task = 0)) : Value)).trans (congrArg Value.bool h12)) rfl ?_)
      refine sx_on (j := 31) (dd := 64) rfl rfl (by decide) (yl_on (e := false) rfl rfl) (stp_pick_t (v := .bool (!decide (d.try_ = 0))) ((rfl : _ = (.bool (!decide (d.kind = 4)) : Value)).trans (congrArg Value.bool (congrArg not kf_4))) rfl ?_)
      refine sx rfl (stp_pick_f (v := .bool (!decide (d.try_ = 0))) rfl rfl ?_)
      refine sx rfl (stp_move (v := .bool (!decide (d.try_ = 0))) rfl ?_)
      rcases bd (!decide (d.try_ = 0)) with h13 | h13
      · skip
        have h13p := of_decide_eq_true (bnot_f h13)
        refine sx_on (j := 45) (dd := 78) rfl rfl (by decide) (yl_on (e := !decide (d.try_ = 0)) rfl h13) (stp_move (v := .bool (decide (d.kind = 2))) rfl ?_)
        refine sx_on (j := 45) (dd := 78) rfl rfl (by decide) (yl_on (e := !decide (d.try_ = 0)) rfl h13) (stp_move (v := .bool (decide (d.kind = 2))) rfl ?_)
        iterate 5 refine sx_off (j := 47) (dd := 80) rfl rfl (by decide) (yl_off (e := decide (d.kind = 2)) rfl kf_2) ?_
        iterate 4 refine sx_off rfl rfl (by decide) (yl_und rfl) ?_
        refine sx_off (j := 47) (dd := 80) rfl rfl (by decide) (yl_off (e := decide (d.kind = 2)) rfl kf_2) ?_
        refine sx_on (j := 45) (dd := 78) rfl rfl (by decide) (yl_on (e := !decide (d.try_ = 0)) rfl h13) (stp_pick_f (v := .bool false) ((rfl : _ = (.bool (decide (d.kind = 2)) : Value)).trans (congrArg Value.bool kf_2)) rfl ?_)
        refine sx rfl (stp_pick_f (v := .bool false) ((rfl : _ = (.bool (!decide (d.try_ = 0)) : Value)).trans (congrArg Value.bool h13)) rfl ?_)
        refine sx rfl (stp_move (v := .bool false) rfl ?_)
        refine sx_on (j := 60) (dd := 93) rfl rfl (by decide) (yl_on (e := false) rfl rfl) (stp_move (v := .bool (decide (d.kind = 2))) rfl ?_)
        refine sx_on (j := 60) (dd := 93) rfl rfl (by decide) (yl_on (e := false) rfl rfl) (stp_not rfl ?_)
        refine sx_on (j := 60) (dd := 93) rfl rfl (by decide) (yl_on (e := false) rfl rfl) (stp_move (v := .bool (!decide (d.kind = 2))) rfl ?_)
        refine sx_on (j := 63) (dd := 96) rfl rfl (by decide) (yl_on (e := !decide (d.kind = 2)) rfl (congrArg not kf_2)) (stp_fieldAddr fa_Deed_5 rfl ?_)
        refine sx_on (j := 63) (dd := 96) rfl rfl (by decide) (yl_on (e := !decide (d.kind = 2)) rfl (congrArg not kf_2)) (stp_load_bx ld_int rfl rfl (st9.get 0 rfl) (i := 9) rfl rfl ?_)
        refine sx_on (j := 63) (dd := 96) rfl rfl (by decide) (yl_on (e := !decide (d.kind = 2)) rfl (congrArg not kf_2)) (stp_neq rfl rfl ?_)
        refine sx_on (j := 63) (dd := 96) rfl rfl (by decide) (yl_on (e := !decide (d.kind = 2)) rfl (congrArg not kf_2)) (stp_move (v := .bool (!decide (d.worker = 0))) rfl ?_)
        rcases bd (!decide (d.worker = 0)) with h14 | h14
        · skip
          have h14p := of_decide_eq_true (bnot_f h14)
          refine sx_on (j := 67) (dd := 100) rfl rfl (by decide) (yl_on (e := !decide (d.worker = 0)) rfl h14) (stp_fieldAddr fa_Deed_6 rfl ?_)
          refine sx_on (j := 67) (dd := 100) rfl rfl (by decide) (yl_on (e := !decide (d.worker = 0)) rfl h14) (stp_load_bx ld_int rfl rfl (st9.get 0 rfl) (i := 10) rfl rfl ?_)
          refine sx_on (j := 67) (dd := 100) rfl rfl (by decide) (yl_on (e := !decide (d.worker = 0)) rfl h14) (stp_neq rfl rfl ?_)
          refine sx_on (j := 63) (dd := 96) rfl rfl (by decide) (yl_on (e := !decide (d.kind = 2)) rfl (congrArg not kf_2)) (stp_pick_f (v := .bool (!decide (d.draw = 0))) ((rfl : _ = (.bool (!decide (d.worker = 0)) : Value)).trans (congrArg Value.bool h14)) rfl ?_)
          refine sx_on (j := 60) (dd := 93) rfl rfl (by decide) (yl_on (e := false) rfl rfl) (stp_pick_t (v := .bool (!decide (d.draw = 0))) ((rfl : _ = (.bool (!decide (d.kind = 2)) : Value)).trans (congrArg Value.bool (congrArg not kf_2))) rfl ?_)
          refine sx rfl (stp_pick_f (v := .bool (!decide (d.draw = 0))) rfl rfl ?_)
          refine sx_nil ?_
          refine sx_if rfl (fun h15 => ?_) (fun h15 => ?_)
          · skip
            have h15p := of_decide_eq_false (bnot_t h15)
            refine wp_seq ?_
            refine sx_region ?_
            refine sx rfl (stp_assign (v := .bool false) rfl ?_)
            refine sx_nil ?_
            refine wp_ret ?_; repeat (first | refine then_ret ?_ | refine blk_ret ?_)
            refine ret1 Tryd.results35 rfl ?_
            exact ⟨(congrArg (fun z => Ending.returned (.bool z)) (Eq.symm (by rw [deedOk_5 (.inl hk)]; simp [num0, h11p, h12p, h13p, h14p, h15p]))), st9.bare⟩
          · skip
            have h15p := of_decide_eq_true (bnot_f h15)
            refine wp_skip ?_
            refine wp_seq ?_
            refine wp_seq ?_
            refine sx_region ?_
            refine sx rfl (stp_fieldAddr fa_Deed_0 rfl ?_)
            refine sx rfl (stp_load_bx ld_int rfl rfl (st9.get 0 rfl) (i := 0) rfl rfl ?_)
            refine sx rfl (stp_eql rfl rfl ?_)
            refine sx_nil ?_
            refine sx_f rfl kf_1 ?_
            refine wp_skip ?_
            refine wp_seq ?_
            refine sx_region ?_
            refine sx rfl (stp_fieldAddr fa_Deed_2 rfl ?_)
            refine sx rfl (stp_load_bxs (cs := [I d.plan.prio, I d.plan.most, I d.plan.wait, I d.plan.tasks, v6_0]) ld_Plan rfl rfl (st9.get 0 rfl) rfl rfl ?_)
            refine sx rfl (stp_call1 Tryd.func58 rfl rfl ((noPlanS W7 (show Shape.C _ [I d.plan.prio, I d.plan.most, I d.plan.wait, I d.plan.tasks, v6_0] d.plan _ from ⟨_, _, rfl, (by simp only [Edge.ok, Plan.ok, Entry.ok, Task.ok, Run.ok, Yard.ok, Reply.ok, Deed.ok, Note.ok, Wait.ok, File.ok, Disk.ok, Engine.ok, WorldD.ok, ActD.ok, Hand.ok, Span.ok, Crew.ok, View.ok, I64] at *; omega), (h6_0.below st9.below), rfl⟩)).mono ?_)); rintro _ W16 ⟨rfl, hk17⟩; refine ⟨_, rfl, ?_⟩
            have st18 := St.call st9 hk17
            refine sx rfl (stp_assign (v := .bool (noPlan d.plan)) rfl ?_)
            refine sx_nil ?_
            refine wp_ret ?_; repeat (first | refine then_ret ?_ | refine blk_ret ?_)
            refine ret1 Tryd.results35 rfl ?_
            exact ⟨(congrArg (fun z => Ending.returned (.bool z)) (Eq.symm (by rw [deedOk_5 (.inl hk)]; simp [num0, h11p, h12p, h13p, h14p, h15p]))), st18.bare⟩
        · skip
          have h14p := of_decide_eq_false (bnot_t h14)
          iterate 3 refine sx_off (j := 67) (dd := 100) rfl rfl (by decide) (yl_off (e := !decide (d.worker = 0)) rfl h14) ?_
          refine sx_on (j := 63) (dd := 96) rfl rfl (by decide) (yl_on (e := !decide (d.kind = 2)) rfl (congrArg not kf_2)) (stp_pick_t (v := .bool true) ((rfl : _ = (.bool (!decide (d.worker = 0)) : Value)).trans (congrArg Value.bool h14)) rfl ?_)
          refine sx_on (j := 60) (dd := 93) rfl rfl (by decide) (yl_on (e := false) rfl rfl) (stp_pick_t (v := .bool true) ((rfl : _ = (.bool (!decide (d.kind = 2)) : Value)).trans (congrArg Value.bool (congrArg not kf_2))) rfl ?_)
          refine sx rfl (stp_pick_f (v := .bool true) rfl rfl ?_)
          refine sx_nil ?_
          refine sx_t rfl rfl ?_
          refine wp_seq ?_
          refine sx_region ?_
          refine sx rfl (stp_assign (v := .bool false) rfl ?_)
          refine sx_nil ?_
          refine wp_ret ?_; repeat (first | refine then_ret ?_ | refine blk_ret ?_)
          refine ret1 Tryd.results35 rfl ?_
          exact ⟨(congrArg (fun z => Ending.returned (.bool z)) (Eq.symm (by rw [deedOk_5 (.inl hk)]; simp [num0, h11p, h12p, h13p, h14p]))), st9.bare⟩
      · skip
        have h13p := of_decide_eq_false (bnot_t h13)
        iterate 2 refine sx_off (j := 45) (dd := 78) rfl rfl (by decide) (yl_off (e := !decide (d.try_ = 0)) rfl h13) ?_
        iterate 10 refine sx_off rfl rfl (by decide) (yl_und rfl) ?_
        refine sx_off (j := 45) (dd := 78) rfl rfl (by decide) (yl_off (e := !decide (d.try_ = 0)) rfl h13) ?_
        refine sx rfl (stp_pick_t (v := .bool true) ((rfl : _ = (.bool (!decide (d.try_ = 0)) : Value)).trans (congrArg Value.bool h13)) rfl ?_)
        refine sx rfl (stp_move (v := .bool true) rfl ?_)
        iterate 3 refine sx_off (j := 60) (dd := 93) rfl rfl (by decide) (yl_off (e := true) rfl rfl) ?_
        iterate 8 refine sx_off rfl rfl (by decide) (yl_und rfl) ?_
        refine sx_off (j := 60) (dd := 93) rfl rfl (by decide) (yl_off (e := true) rfl rfl) ?_
        refine sx rfl (stp_pick_t (v := .bool true) rfl rfl ?_)
        refine sx_nil ?_
        refine sx_t rfl rfl ?_
        refine wp_seq ?_
        refine sx_region ?_
        refine sx rfl (stp_assign (v := .bool false) rfl ?_)
        refine sx_nil ?_
        refine wp_ret ?_; repeat (first | refine then_ret ?_ | refine blk_ret ?_)
        refine ret1 Tryd.results35 rfl ?_
        exact ⟨(congrArg (fun z => Ending.returned (.bool z)) (Eq.symm (by rw [deedOk_5 (.inl hk)]; simp [num0, h11p, h12p, h13p]))), st9.bare⟩
    · skip
      have h12p := of_decide_eq_false (bnot_t h12)
      iterate 3 refine sx_off (j := 38) (dd := 71) rfl rfl (by decide) (yl_off (e := !decide (d.task = 0)) rfl h12) ?_
      refine sx_on (j := 34) (dd := 67) rfl rfl (by decide) (yl_on (e := !decide (d.kind = 4)) rfl (congrArg not kf_4)) (stp_pick_t (v := .bool true) ((rfl : _ = (.bool (!decide (d.task = 0)) : Value)).trans (congrArg Value.bool h12)) rfl ?_)
      refine sx_on (j := 31) (dd := 64) rfl rfl (by decide) (yl_on (e := false) rfl rfl) (stp_pick_t (v := .bool true) ((rfl : _ = (.bool (!decide (d.kind = 4)) : Value)).trans (congrArg Value.bool (congrArg not kf_4))) rfl ?_)
      refine sx rfl (stp_pick_f (v := .bool true) rfl rfl ?_)
      refine sx rfl (stp_move (v := .bool true) rfl ?_)
      iterate 2 refine sx_off (j := 45) (dd := 78) rfl rfl (by decide) (yl_off (e := true) rfl rfl) ?_
      iterate 10 refine sx_off rfl rfl (by decide) (yl_und rfl) ?_
      refine sx_off (j := 45) (dd := 78) rfl rfl (by decide) (yl_off (e := true) rfl rfl) ?_
      refine sx rfl (stp_pick_t (v := .bool true) rfl rfl ?_)
      refine sx rfl (stp_move (v := .bool true) rfl ?_)
      iterate 3 refine sx_off (j := 60) (dd := 93) rfl rfl (by decide) (yl_off (e := true) rfl rfl) ?_
      iterate 8 refine sx_off rfl rfl (by decide) (yl_und rfl) ?_
      refine sx_off (j := 60) (dd := 93) rfl rfl (by decide) (yl_off (e := true) rfl rfl) ?_
      refine sx rfl (stp_pick_t (v := .bool true) rfl rfl ?_)
      refine sx_nil ?_
      refine sx_t rfl rfl ?_
      refine wp_seq ?_
      refine sx_region ?_
      refine sx rfl (stp_assign (v := .bool false) rfl ?_)
      refine sx_nil ?_
      refine wp_ret ?_; repeat (first | refine then_ret ?_ | refine blk_ret ?_)
      refine ret1 Tryd.results35 rfl ?_
      exact ⟨(congrArg (fun z => Ending.returned (.bool z)) (Eq.symm (by rw [deedOk_5 (.inl hk)]; simp [num0, h11p, h12p]))), st9.bare⟩
  · skip
    have h11p := of_decide_eq_false (bnot_t h11)
    iterate 2 refine sx_off (j := 16) (dd := 49) rfl rfl (by decide) (yl_off (e := !decide (d.run = 0)) rfl h11) ?_
    iterate 10 refine sx_off rfl rfl (by decide) (yl_und rfl) ?_
    refine sx_off (j := 16) (dd := 49) rfl rfl (by decide) (yl_off (e := !decide (d.run = 0)) rfl h11) ?_
    refine sx rfl (stp_pick_t (v := .bool true) ((rfl : _ = (.bool (!decide (d.run = 0)) : Value)).trans (congrArg Value.bool h11)) rfl ?_)
    refine sx rfl (stp_move (v := .bool true) rfl ?_)
    iterate 3 refine sx_off (j := 31) (dd := 64) rfl rfl (by decide) (yl_off (e := true) rfl rfl) ?_
    iterate 8 refine sx_off rfl rfl (by decide) (yl_und rfl) ?_
    refine sx_off (j := 31) (dd := 64) rfl rfl (by decide) (yl_off (e := true) rfl rfl) ?_
    refine sx rfl (stp_pick_t (v := .bool true) rfl rfl ?_)
    refine sx rfl (stp_move (v := .bool true) rfl ?_)
    iterate 2 refine sx_off (j := 45) (dd := 78) rfl rfl (by decide) (yl_off (e := true) rfl rfl) ?_
    iterate 10 refine sx_off rfl rfl (by decide) (yl_und rfl) ?_
    refine sx_off (j := 45) (dd := 78) rfl rfl (by decide) (yl_off (e := true) rfl rfl) ?_
    refine sx rfl (stp_pick_t (v := .bool true) rfl rfl ?_)
    refine sx rfl (stp_move (v := .bool true) rfl ?_)
    iterate 3 refine sx_off (j := 60) (dd := 93) rfl rfl (by decide) (yl_off (e := true) rfl rfl) ?_
    iterate 8 refine sx_off rfl rfl (by decide) (yl_und rfl) ?_
    refine sx_off (j := 60) (dd := 93) rfl rfl (by decide) (yl_off (e := true) rfl rfl) ?_
    refine sx rfl (stp_pick_t (v := .bool true) rfl rfl ?_)
    refine sx_nil ?_
    refine sx_t rfl rfl ?_
    refine wp_seq ?_
    refine sx_region ?_
    refine sx rfl (stp_assign (v := .bool false) rfl ?_)
    refine sx_nil ?_
    refine wp_ret ?_; repeat (first | refine then_ret ?_ | refine blk_ret ?_)
    refine ret1 Tryd.results35 rfl ?_
    exact ⟨(congrArg (fun z => Ending.returned (.bool z)) (Eq.symm (by rw [deedOk_5 (.inl hk)]; simp [num0, h11p]))), st9.bare⟩
set_option maxHeartbeats 2000000 in
theorem DeedOkS_6 (w : World) {d : Deed} {cs : List Value} {fp : List Nat} (hc : Shape.C w cs d fp) (hk : d.kind = 6) :
    Calls Tryd.prog 35 #[.agg cs.toArray] w fun e w' => e = .returned (.bool (deedOk d)) ∧ St w w' [] := by
  refine enter1 Tryd.func35 rfl Tryd.ntmps35 (by decide) ?_
  have hki : inB d.kind 1 8 = true := by rw [hk]; rfl
  have kf_1 : decide (d.kind = 1) = false := by rw [hk]; rfl
  have kf_2 : decide (d.kind = 2) = false := by rw [hk]; rfl
  have kf_3 : decide (d.kind = 3) = false := by rw [hk]; rfl
  have kf_4 : decide (d.kind = 4) = false := by rw [hk]; rfl
  have kf_5 : decide (d.kind = 5) = false := by rw [hk]; rfl
  have kf_6 : decide (d.kind = 6) = true := by rw [hk]; rfl
  have kf_7 : decide (d.kind = 7) = false := by rw [hk]; rfl
  have kf_8 : decide (d.kind = 8) = false := by rw [hk]; rfl
  refine wp_seq ?_
  refine sx_region ?_
  refine sx rfl (stp_box_agg (cs := cs) rfl (St.start w) ?_); intro b1 W2 hb3 st4
  refine sx rfl (stp_assign (v := .bool false) rfl ?_)
  refine sx_nil ?_
  refine wp_seq ?_
  refine wp_seq ?_
  refine sx_region ?_
  refine sx rfl (stp_fieldAddr fa_Deed_0 rfl ?_)
  have hk6 := hc
  obtain ⟨v6_0, g6_0, rfl, hok6, h6_0, rfl⟩ := hk6
  refine sx rfl (stp_load_bx ld_int rfl rfl (st4.get 0 rfl) (i := 0) rfl rfl ?_)
  refine sx rfl (stp_call3 Tryd.func28 rfl rfl rfl rfl ((l01In_n W2 d.kind 1 8).mono ?_)); rintro _ W7 ⟨rfl, hk8⟩; refine ⟨_, rfl, ?_⟩
  have st9 := St.call st4 hk8
  refine sx rfl (stp_not rfl ?_)
  refine sx_nil ?_
  refine sx_f rfl (congrArg not hki) ?_
  refine wp_skip ?_
  refine wp_seq ?_
  refine sx_region ?_
  refine sx rfl (stp_fieldAddr fa_Deed_0 rfl ?_)
  refine sx rfl (stp_load_bx ld_int rfl rfl (st9.get 0 rfl) (i := 0) rfl rfl ?_)
  refine sx rfl (stp_eql rfl rfl ?_)
  refine sx rfl (stp_assign (v := .bool (decide (d.kind = 2))) rfl ?_)
  refine sx_nil ?_
  refine wp_seq ?_
  refine sx_region ?_
  refine sx rfl (stp_fieldAddr fa_Deed_0 rfl ?_)
  refine sx rfl (stp_load_bx ld_int rfl rfl (st9.get 0 rfl) (i := 0) rfl rfl ?_)
  refine sx rfl (stp_eql rfl rfl ?_)
  refine sx rfl (stp_move (v := .bool (decide (d.kind = 3))) rfl ?_)
  refine sx_on (j := 3) (dd := 16) rfl rfl (by decide) (yl_on (e := decide (d.kind = 3)) rfl kf_3) (stp_fieldAddr fa_Deed_0 rfl ?_)
  refine sx_on (j := 3) (dd := 16) rfl rfl (by decide) (yl_on (e := decide (d.kind = 3)) rfl kf_3) (stp_load_bx ld_int rfl rfl (st9.get 0 rfl) (i := 0) rfl rfl ?_)
  refine sx_on (j := 3) (dd := 16) rfl rfl (by decide) (yl_on (e := decide (d.kind = 3)) rfl kf_3) (stp_eql rfl rfl ?_)
  refine sx rfl (stp_pick_f (v := .bool (decide (d.kind = 4))) ((rfl : _ = (.bool (decide (d.kind = 3)) : Value)).trans (congrArg Value.bool kf_3)) rfl ?_)
  refine sx rfl (stp_assign (v := .bool (decide (d.kind = 4))) rfl ?_)
  refine sx_nil ?_
  refine wp_seq ?_
  refine sx_region ?_
  refine sx rfl (stp_move (v := .bool (decide (d.kind = 2))) rfl ?_)
  refine sx rfl (stp_not rfl ?_)
  refine sx rfl (stp_move (v := .bool (!decide (d.kind = 2))) rfl ?_)
  refine sx_on (j := 2) (dd := 23) rfl rfl (by decide) (yl_on (e := !decide (d.kind = 2)) rfl (congrArg not kf_2)) (stp_fieldAddr fa_Deed_0 rfl ?_)
  refine sx_on (j := 2) (dd := 23) rfl rfl (by decide) (yl_on (e := !decide (d.kind = 2)) rfl (congrArg not kf_2)) (stp_load_bx ld_int rfl rfl (st9.get 0 rfl) (i := 0) rfl rfl ?_)
  refine sx_on (j := 2) (dd := 23) rfl rfl (by decide) (yl_on (e := !decide (d.kind = 2)) rfl (congrArg not kf_2)) (stp_neq rfl rfl ?_)
  refine sx rfl (stp_pick_t (v := .bool (!decide (d.kind = 5))) ((rfl : _ = (.bool (!decide (d.kind = 2)) : Value)).trans (congrArg Value.bool (congrArg not kf_2))) rfl ?_)
  refine sx rfl (stp_move (v := .bool (!decide (d.kind = 5))) rfl ?_)
  refine sx_on (j := 7) (dd := 28) rfl rfl (by decide) (yl_on (e := !decide (d.kind = 5)) rfl (congrArg not kf_5)) (stp_fieldAddr fa_Deed_0 rfl ?_)
  refine sx_on (j := 7) (dd := 28) rfl rfl (by decide) (yl_on (e := !decide (d.kind = 5)) rfl (congrArg not kf_5)) (stp_load_bx ld_int rfl rfl (st9.get 0 rfl) (i := 0) rfl rfl ?_)
  refine sx_on (j := 7) (dd := 28) rfl rfl (by decide) (yl_on (e := !decide (d.kind = 5)) rfl (congrArg not kf_5)) (stp_neq rfl rfl ?_)
  refine sx rfl (stp_pick_t (v := .bool (!decide (d.kind = 8))) ((rfl : _ = (.bool (!decide (d.kind = 5)) : Value)).trans (congrArg Value.bool (congrArg not kf_5))) rfl ?_)
  refine sx rfl (stp_assign (v := .bool (!decide (d.kind = 8))) rfl ?_)
  refine sx_nil ?_
  refine wp_seq ?_
  refine wp_seq ?_
  refine sx_region ?_
  refine sx rfl (stp_move (v := .bool (!decide (d.kind = 8))) rfl ?_)
  refine sx rfl (stp_move (v := .bool (!decide (d.kind = 8))) rfl ?_)
  refine sx_on (j := 1) (dd := 34) rfl rfl (by decide) (yl_on (e := !decide (d.kind = 8)) rfl (congrArg not kf_8)) (stp_fieldAddr fa_Deed_1 rfl ?_)
  refine sx_on (j := 1) (dd := 34) rfl rfl (by decide) (yl_on (e := !decide (d.kind = 8)) rfl (congrArg not kf_8)) (stp_load_bx ld_int rfl rfl (st9.get 0 rfl) (i := 1) rfl rfl ?_)
  refine sx_on (j := 1) (dd := 34) rfl rfl (by decide) (yl_on (e := !decide (d.kind = 8)) rfl (congrArg not kf_8)) (stp_call1 Tryd.func56 rfl rfl ((numS W7 d.run).mono ?_)); rintro _ W11 ⟨rfl, hk12⟩; refine ⟨_, rfl, ?_⟩
  have st13 := St.call st9 hk12
  refine sx_on (j := 1) (dd := 34) rfl rfl (by decide) (yl_on (e := !decide (d.kind = 8)) rfl (congrArg not kf_8)) (stp_not rfl ?_)
  refine sx rfl (stp_pick_t (v := .bool (!(num d.run))) ((rfl : _ = (.bool (!decide (d.kind = 8)) : Value)).trans (congrArg Value.bool (congrArg not kf_8))) rfl ?_)
  refine sx rfl (stp_move (v := .bool (!(num d.run))) rfl ?_)
  rcases bd (!(num d.run)) with h15 | h15
  · skip
    refine sx_on (j := 7) (dd := 40) rfl rfl (by decide) (yl_on (e := !(num d.run)) rfl h15) (stp_move (v := .bool (!decide (d.kind = 8))) rfl ?_)
    refine sx_on (j := 7) (dd := 40) rfl rfl (by decide) (yl_on (e := !(num d.run)) rfl h15) (stp_not rfl ?_)
    refine sx_on (j := 7) (dd := 40) rfl rfl (by decide) (yl_on (e := !(num d.run)) rfl h15) (stp_move (v := .bool (!(!decide (d.kind = 8)))) rfl ?_)
    iterate 3 refine sx_off (j := 10) (dd := 43) rfl rfl (by decide) (yl_off (e := !(!decide (d.kind = 8))) rfl (congrArg not (congrArg not kf_8))) ?_
    refine sx_on (j := 7) (dd := 40) rfl rfl (by decide) (yl_on (e := !(num d.run)) rfl h15) (stp_pick_f (v := .bool false) ((rfl : _ = (.bool (!(!decide (d.kind = 8))) : Value)).trans (congrArg Value.bool (congrArg not (congrArg not kf_8)))) rfl ?_)
    refine sx rfl (stp_pick_f (v := .bool false) ((rfl : _ = (.bool (!(num d.run)) : Value)).trans (congrArg Value.bool h15)) rfl ?_)
    refine sx rfl (stp_move (v := .bool false) rfl ?_)
    refine sx_on (j := 16) (dd := 49) rfl rfl (by decide) (yl_on (e := false) rfl rfl) (stp_move (v := .bool (decide (d.kind = 4))) rfl ?_)
    refine sx_on (j := 16) (dd := 49) rfl rfl (by decide) (yl_on (e := false) rfl rfl) (stp_move (v := .bool (decide (d.kind = 4))) rfl ?_)
    iterate 5 refine sx_off (j := 18) (dd := 51) rfl rfl (by decide) (yl_off (e := decide (d.kind = 4)) rfl kf_4) ?_
    iterate 4 refine sx_off rfl rfl (by decide) (yl_und rfl) ?_
    refine sx_off (j := 18) (dd := 51) rfl rfl (by decide) (yl_off (e := decide (d.kind = 4)) rfl kf_4) ?_
    refine sx_on (j := 16) (dd := 49) rfl rfl (by decide) (yl_on (e := false) rfl rfl) (stp_pick_f (v := .bool false) ((rfl : _ = (.bool (decide (d.kind = 4)) : Value)).trans (congrArg Value.bool kf_4)) rfl ?_)
    refine sx rfl (stp_pick_f (v := .bool false) rfl rfl ?_)
    refine sx rfl (stp_move (v := .bool false) rfl ?_)
    refine sx_on (j := 31) (dd := 64) rfl rfl (by decide) (yl_on (e := false) rfl rfl) (stp_move (v := .bool (decide (d.kind = 4))) rfl ?_)
    refine sx_on (j := 31) (dd := 64) rfl rfl (by decide) (yl_on (e := false) rfl rfl) (stp_not rfl ?_)
    refine sx_on (j := 31) (dd := 64) rfl rfl (by decide) (yl_on (e := false) rfl rfl) (stp_move (v := .bool (!decide (d.kind = 4))) rfl ?_)
    refine sx_on (j := 34) (dd := 67) rfl rfl (by decide) (yl_on (e := !decide (d.kind = 4)) rfl (congrArg not kf_4)) (stp_fieldAddr fa_Deed_3 rfl ?_)
    refine sx_on (j := 34) (dd := 67) rfl rfl (by decide) (yl_on (e := !decide (d.kind = 4)) rfl (congrArg not kf_4)) (stp_load_bx ld_int rfl rfl (st13.get 0 rfl) (i := 7) rfl rfl ?_)
    refine sx_on (j := 34) (dd := 67) rfl rfl (by decide) (yl_on (e := !decide (d.kind = 4)) rfl (congrArg not kf_4)) (stp_neq rfl rfl ?_)
    refine sx_on (j := 34) (dd := 67) rfl rfl (by decide) (yl_on (e := !decide (d.kind = 4)) rfl (congrArg not kf_4)) (stp_move (v := .bool (!decide (d.task = 0))) rfl ?_)
    rcases bd (!decide (d.task = 0)) with h16 | h16
    · skip
      have h16p := of_decide_eq_true (bnot_f h16)
      refine sx_on (j := 38) (dd := 71) rfl rfl (by decide) (yl_on (e := !decide (d.task = 0)) rfl h16) (stp_fieldAddr fa_Deed_4 rfl ?_)
      refine sx_on (j := 38) (dd := 71) rfl rfl (by decide) (yl_on (e := !decide (d.task = 0)) rfl h16) (stp_load_bx ld_int rfl rfl (st13.get 0 rfl) (i := 8) rfl rfl ?_)
      refine sx_on (j := 38) (dd := 71) rfl rfl (by decide) (yl_on (e := !decide (d.task = 0)) rfl h16) (stp_neq rfl rfl ?_)
      refine sx_on (j := 34) (dd := 67) rfl rfl (by decide) (yl_on (e := !decide (d.kind = 4)) rfl (congrArg not kf_4)) (stp_pick_f (v := .bool (!decide (d.try_ = 0))) ((rfl : _ = (.bool (!decide (d.task = 0)) : Value)).trans (congrArg Value.bool h16)) rfl ?_)
      refine sx_on (j := 31) (dd := 64) rfl rfl (by decide) (yl_on (e := false) rfl rfl) (stp_pick_t (v := .bool (!decide (d.try_ = 0))) ((rfl : _ = (.bool (!decide (d.kind = 4)) : Value)).trans (congrArg Value.bool (congrArg not kf_4))) rfl ?_)
      refine sx rfl (stp_pick_f (v := .bool (!decide (d.try_ = 0))) rfl rfl ?_)
      refine sx rfl (stp_move (v := .bool (!decide (d.try_ = 0))) rfl ?_)
      rcases bd (!decide (d.try_ = 0)) with h17 | h17
      · skip
        have h17p := of_decide_eq_true (bnot_f h17)
        refine sx_on (j := 45) (dd := 78) rfl rfl (by decide) (yl_on (e := !decide (d.try_ = 0)) rfl h17) (stp_move (v := .bool (decide (d.kind = 2))) rfl ?_)
        refine sx_on (j := 45) (dd := 78) rfl rfl (by decide) (yl_on (e := !decide (d.try_ = 0)) rfl h17) (stp_move (v := .bool (decide (d.kind = 2))) rfl ?_)
        iterate 5 refine sx_off (j := 47) (dd := 80) rfl rfl (by decide) (yl_off (e := decide (d.kind = 2)) rfl kf_2) ?_
        iterate 4 refine sx_off rfl rfl (by decide) (yl_und rfl) ?_
        refine sx_off (j := 47) (dd := 80) rfl rfl (by decide) (yl_off (e := decide (d.kind = 2)) rfl kf_2) ?_
        refine sx_on (j := 45) (dd := 78) rfl rfl (by decide) (yl_on (e := !decide (d.try_ = 0)) rfl h17) (stp_pick_f (v := .bool false) ((rfl : _ = (.bool (decide (d.kind = 2)) : Value)).trans (congrArg Value.bool kf_2)) rfl ?_)
        refine sx rfl (stp_pick_f (v := .bool false) ((rfl : _ = (.bool (!decide (d.try_ = 0)) : Value)).trans (congrArg Value.bool h17)) rfl ?_)
        refine sx rfl (stp_move (v := .bool false) rfl ?_)
        refine sx_on (j := 60) (dd := 93) rfl rfl (by decide) (yl_on (e := false) rfl rfl) (stp_move (v := .bool (decide (d.kind = 2))) rfl ?_)
        refine sx_on (j := 60) (dd := 93) rfl rfl (by decide) (yl_on (e := false) rfl rfl) (stp_not rfl ?_)
        refine sx_on (j := 60) (dd := 93) rfl rfl (by decide) (yl_on (e := false) rfl rfl) (stp_move (v := .bool (!decide (d.kind = 2))) rfl ?_)
        refine sx_on (j := 63) (dd := 96) rfl rfl (by decide) (yl_on (e := !decide (d.kind = 2)) rfl (congrArg not kf_2)) (stp_fieldAddr fa_Deed_5 rfl ?_)
        refine sx_on (j := 63) (dd := 96) rfl rfl (by decide) (yl_on (e := !decide (d.kind = 2)) rfl (congrArg not kf_2)) (stp_load_bx ld_int rfl rfl (st13.get 0 rfl) (i := 9) rfl rfl ?_)
        refine sx_on (j := 63) (dd := 96) rfl rfl (by decide) (yl_on (e := !decide (d.kind = 2)) rfl (congrArg not kf_2)) (stp_neq rfl rfl ?_)
        refine sx_on (j := 63) (dd := 96) rfl rfl (by decide) (yl_on (e := !decide (d.kind = 2)) rfl (congrArg not kf_2)) (stp_move (v := .bool (!decide (d.worker = 0))) rfl ?_)
        rcases bd (!decide (d.worker = 0)) with h18 | h18
        · skip
          have h18p := of_decide_eq_true (bnot_f h18)
          refine sx_on (j := 67) (dd := 100) rfl rfl (by decide) (yl_on (e := !decide (d.worker = 0)) rfl h18) (stp_fieldAddr fa_Deed_6 rfl ?_)
          refine sx_on (j := 67) (dd := 100) rfl rfl (by decide) (yl_on (e := !decide (d.worker = 0)) rfl h18) (stp_load_bx ld_int rfl rfl (st13.get 0 rfl) (i := 10) rfl rfl ?_)
          refine sx_on (j := 67) (dd := 100) rfl rfl (by decide) (yl_on (e := !decide (d.worker = 0)) rfl h18) (stp_neq rfl rfl ?_)
          refine sx_on (j := 63) (dd := 96) rfl rfl (by decide) (yl_on (e := !decide (d.kind = 2)) rfl (congrArg not kf_2)) (stp_pick_f (v := .bool (!decide (d.draw = 0))) ((rfl : _ = (.bool (!decide (d.worker = 0)) : Value)).trans (congrArg Value.bool h18)) rfl ?_)
          refine sx_on (j := 60) (dd := 93) rfl rfl (by decide) (yl_on (e := false) rfl rfl) (stp_pick_t (v := .bool (!decide (d.draw = 0))) ((rfl : _ = (.bool (!decide (d.kind = 2)) : Value)).trans (congrArg Value.bool (congrArg not kf_2))) rfl ?_)
          refine sx rfl (stp_pick_f (v := .bool (!decide (d.draw = 0))) rfl rfl ?_)
          refine sx_nil ?_
          refine sx_if rfl (fun h19 => ?_) (fun h19 => ?_)
          · skip
            have h19p := of_decide_eq_false (bnot_t h19)
            refine wp_seq ?_
            refine sx_region ?_
            refine sx rfl (stp_assign (v := .bool false) rfl ?_)
            refine sx_nil ?_
            refine wp_ret ?_; repeat (first | refine then_ret ?_ | refine blk_ret ?_)
            refine ret1 Tryd.results35 rfl ?_
            exact ⟨(congrArg (fun z => Ending.returned (.bool z)) (Eq.symm (by rw [deedOk_6 (.inl hk)]; simp [num0, bnot_f h15, h16p, h17p, h18p, h19p]))), st13.bare⟩
          · skip
            have h19p := of_decide_eq_true (bnot_f h19)
            refine wp_skip ?_
            refine wp_seq ?_
            refine wp_seq ?_
            refine sx_region ?_
            refine sx rfl (stp_fieldAddr fa_Deed_0 rfl ?_)
            refine sx rfl (stp_load_bx ld_int rfl rfl (st13.get 0 rfl) (i := 0) rfl rfl ?_)
            refine sx rfl (stp_eql rfl rfl ?_)
            refine sx_nil ?_
            refine sx_f rfl kf_1 ?_
            refine wp_skip ?_
            refine wp_seq ?_
            refine sx_region ?_
            refine sx rfl (stp_fieldAddr fa_Deed_2 rfl ?_)
            refine sx rfl (stp_load_bxs (cs := [I d.plan.prio, I d.plan.most, I d.plan.wait, I d.plan.tasks, v6_0]) ld_Plan rfl rfl (st13.get 0 rfl) rfl rfl ?_)
            refine sx rfl (stp_call1 Tryd.func58 rfl rfl ((noPlanS W11 (show Shape.C _ [I d.plan.prio, I d.plan.most, I d.plan.wait, I d.plan.tasks, v6_0] d.plan _ from ⟨_, _, rfl, (by simp only [Edge.ok, Plan.ok, Entry.ok, Task.ok, Run.ok, Yard.ok, Reply.ok, Deed.ok, Note.ok, Wait.ok, File.ok, Disk.ok, Engine.ok, WorldD.ok, ActD.ok, Hand.ok, Span.ok, Crew.ok, View.ok, I64] at *; omega), (h6_0.below st13.below), rfl⟩)).mono ?_)); rintro _ W20 ⟨rfl, hk21⟩; refine ⟨_, rfl, ?_⟩
            have st22 := St.call st13 hk21
            refine sx rfl (stp_assign (v := .bool (noPlan d.plan)) rfl ?_)
            refine sx_nil ?_
            refine wp_ret ?_; repeat (first | refine then_ret ?_ | refine blk_ret ?_)
            refine ret1 Tryd.results35 rfl ?_
            exact ⟨(congrArg (fun z => Ending.returned (.bool z)) (Eq.symm (by rw [deedOk_6 (.inl hk)]; simp [num0, bnot_f h15, h16p, h17p, h18p, h19p]))), st22.bare⟩
        · skip
          have h18p := of_decide_eq_false (bnot_t h18)
          iterate 3 refine sx_off (j := 67) (dd := 100) rfl rfl (by decide) (yl_off (e := !decide (d.worker = 0)) rfl h18) ?_
          refine sx_on (j := 63) (dd := 96) rfl rfl (by decide) (yl_on (e := !decide (d.kind = 2)) rfl (congrArg not kf_2)) (stp_pick_t (v := .bool true) ((rfl : _ = (.bool (!decide (d.worker = 0)) : Value)).trans (congrArg Value.bool h18)) rfl ?_)
          refine sx_on (j := 60) (dd := 93) rfl rfl (by decide) (yl_on (e := false) rfl rfl) (stp_pick_t (v := .bool true) ((rfl : _ = (.bool (!decide (d.kind = 2)) : Value)).trans (congrArg Value.bool (congrArg not kf_2))) rfl ?_)
          refine sx rfl (stp_pick_f (v := .bool true) rfl rfl ?_)
          refine sx_nil ?_
          refine sx_t rfl rfl ?_
          refine wp_seq ?_
          refine sx_region ?_
          refine sx rfl (stp_assign (v := .bool false) rfl ?_)
          refine sx_nil ?_
          refine wp_ret ?_; repeat (first | refine then_ret ?_ | refine blk_ret ?_)
          refine ret1 Tryd.results35 rfl ?_
          exact ⟨(congrArg (fun z => Ending.returned (.bool z)) (Eq.symm (by rw [deedOk_6 (.inl hk)]; simp [num0, bnot_f h15, h16p, h17p, h18p]))), st13.bare⟩
      · skip
        have h17p := of_decide_eq_false (bnot_t h17)
        iterate 2 refine sx_off (j := 45) (dd := 78) rfl rfl (by decide) (yl_off (e := !decide (d.try_ = 0)) rfl h17) ?_
        iterate 10 refine sx_off rfl rfl (by decide) (yl_und rfl) ?_
        refine sx_off (j := 45) (dd := 78) rfl rfl (by decide) (yl_off (e := !decide (d.try_ = 0)) rfl h17) ?_
        refine sx rfl (stp_pick_t (v := .bool true) ((rfl : _ = (.bool (!decide (d.try_ = 0)) : Value)).trans (congrArg Value.bool h17)) rfl ?_)
        refine sx rfl (stp_move (v := .bool true) rfl ?_)
        iterate 3 refine sx_off (j := 60) (dd := 93) rfl rfl (by decide) (yl_off (e := true) rfl rfl) ?_
        iterate 8 refine sx_off rfl rfl (by decide) (yl_und rfl) ?_
        refine sx_off (j := 60) (dd := 93) rfl rfl (by decide) (yl_off (e := true) rfl rfl) ?_
        refine sx rfl (stp_pick_t (v := .bool true) rfl rfl ?_)
        refine sx_nil ?_
        refine sx_t rfl rfl ?_
        refine wp_seq ?_
        refine sx_region ?_
        refine sx rfl (stp_assign (v := .bool false) rfl ?_)
        refine sx_nil ?_
        refine wp_ret ?_; repeat (first | refine then_ret ?_ | refine blk_ret ?_)
        refine ret1 Tryd.results35 rfl ?_
        exact ⟨(congrArg (fun z => Ending.returned (.bool z)) (Eq.symm (by rw [deedOk_6 (.inl hk)]; simp [num0, bnot_f h15, h16p, h17p]))), st13.bare⟩
    · skip
      have h16p := of_decide_eq_false (bnot_t h16)
      iterate 3 refine sx_off (j := 38) (dd := 71) rfl rfl (by decide) (yl_off (e := !decide (d.task = 0)) rfl h16) ?_
      refine sx_on (j := 34) (dd := 67) rfl rfl (by decide) (yl_on (e := !decide (d.kind = 4)) rfl (congrArg not kf_4)) (stp_pick_t (v := .bool true) ((rfl : _ = (.bool (!decide (d.task = 0)) : Value)).trans (congrArg Value.bool h16)) rfl ?_)
      refine sx_on (j := 31) (dd := 64) rfl rfl (by decide) (yl_on (e := false) rfl rfl) (stp_pick_t (v := .bool true) ((rfl : _ = (.bool (!decide (d.kind = 4)) : Value)).trans (congrArg Value.bool (congrArg not kf_4))) rfl ?_)
      refine sx rfl (stp_pick_f (v := .bool true) rfl rfl ?_)
      refine sx rfl (stp_move (v := .bool true) rfl ?_)
      iterate 2 refine sx_off (j := 45) (dd := 78) rfl rfl (by decide) (yl_off (e := true) rfl rfl) ?_
      iterate 10 refine sx_off rfl rfl (by decide) (yl_und rfl) ?_
      refine sx_off (j := 45) (dd := 78) rfl rfl (by decide) (yl_off (e := true) rfl rfl) ?_
      refine sx rfl (stp_pick_t (v := .bool true) rfl rfl ?_)
      refine sx rfl (stp_move (v := .bool true) rfl ?_)
      iterate 3 refine sx_off (j := 60) (dd := 93) rfl rfl (by decide) (yl_off (e := true) rfl rfl) ?_
      iterate 8 refine sx_off rfl rfl (by decide) (yl_und rfl) ?_
      refine sx_off (j := 60) (dd := 93) rfl rfl (by decide) (yl_off (e := true) rfl rfl) ?_
      refine sx rfl (stp_pick_t (v := .bool true) rfl rfl ?_)
      refine sx_nil ?_
      refine sx_t rfl rfl ?_
      refine wp_seq ?_
      refine sx_region ?_
      refine sx rfl (stp_assign (v := .bool false) rfl ?_)
      refine sx_nil ?_
      refine wp_ret ?_; repeat (first | refine then_ret ?_ | refine blk_ret ?_)
      refine ret1 Tryd.results35 rfl ?_
      exact ⟨(congrArg (fun z => Ending.returned (.bool z)) (Eq.symm (by rw [deedOk_6 (.inl hk)]; simp [num0, bnot_f h15, h16p]))), st13.bare⟩
  · skip
    iterate 3 refine sx_off (j := 7) (dd := 40) rfl rfl (by decide) (yl_off (e := !(num d.run)) rfl h15) ?_
    iterate 3 refine sx_off rfl rfl (by decide) (yl_und rfl) ?_
    refine sx_off (j := 7) (dd := 40) rfl rfl (by decide) (yl_off (e := !(num d.run)) rfl h15) ?_
    refine sx rfl (stp_pick_t (v := .bool true) ((rfl : _ = (.bool (!(num d.run)) : Value)).trans (congrArg Value.bool h15)) rfl ?_)
    refine sx rfl (stp_move (v := .bool true) rfl ?_)
    iterate 2 refine sx_off (j := 16) (dd := 49) rfl rfl (by decide) (yl_off (e := true) rfl rfl) ?_
    iterate 10 refine sx_off rfl rfl (by decide) (yl_und rfl) ?_
    refine sx_off (j := 16) (dd := 49) rfl rfl (by decide) (yl_off (e := true) rfl rfl) ?_
    refine sx rfl (stp_pick_t (v := .bool true) rfl rfl ?_)
    refine sx rfl (stp_move (v := .bool true) rfl ?_)
    iterate 3 refine sx_off (j := 31) (dd := 64) rfl rfl (by decide) (yl_off (e := true) rfl rfl) ?_
    iterate 8 refine sx_off rfl rfl (by decide) (yl_und rfl) ?_
    refine sx_off (j := 31) (dd := 64) rfl rfl (by decide) (yl_off (e := true) rfl rfl) ?_
    refine sx rfl (stp_pick_t (v := .bool true) rfl rfl ?_)
    refine sx rfl (stp_move (v := .bool true) rfl ?_)
    iterate 2 refine sx_off (j := 45) (dd := 78) rfl rfl (by decide) (yl_off (e := true) rfl rfl) ?_
    iterate 10 refine sx_off rfl rfl (by decide) (yl_und rfl) ?_
    refine sx_off (j := 45) (dd := 78) rfl rfl (by decide) (yl_off (e := true) rfl rfl) ?_
    refine sx rfl (stp_pick_t (v := .bool true) rfl rfl ?_)
    refine sx rfl (stp_move (v := .bool true) rfl ?_)
    iterate 3 refine sx_off (j := 60) (dd := 93) rfl rfl (by decide) (yl_off (e := true) rfl rfl) ?_
    iterate 8 refine sx_off rfl rfl (by decide) (yl_und rfl) ?_
    refine sx_off (j := 60) (dd := 93) rfl rfl (by decide) (yl_off (e := true) rfl rfl) ?_
    refine sx rfl (stp_pick_t (v := .bool true) rfl rfl ?_)
    refine sx_nil ?_
    refine sx_t rfl rfl ?_
    refine wp_seq ?_
    refine sx_region ?_
    refine sx rfl (stp_assign (v := .bool false) rfl ?_)
    refine sx_nil ?_
    refine wp_ret ?_; repeat (first | refine then_ret ?_ | refine blk_ret ?_)
    refine ret1 Tryd.results35 rfl ?_
    exact ⟨(congrArg (fun z => Ending.returned (.bool z)) (Eq.symm (by rw [deedOk_6 (.inl hk)]; simp [num0, bnot_t h15]))), st13.bare⟩
set_option maxHeartbeats 2000000 in
theorem DeedOkS_7 (w : World) {d : Deed} {cs : List Value} {fp : List Nat} (hc : Shape.C w cs d fp) (hk : d.kind = 7) :
    Calls Tryd.prog 35 #[.agg cs.toArray] w fun e w' => e = .returned (.bool (deedOk d)) ∧ St w w' [] := by
  refine enter1 Tryd.func35 rfl Tryd.ntmps35 (by decide) ?_
  have hki : inB d.kind 1 8 = true := by rw [hk]; rfl
  have kf_1 : decide (d.kind = 1) = false := by rw [hk]; rfl
  have kf_2 : decide (d.kind = 2) = false := by rw [hk]; rfl
  have kf_3 : decide (d.kind = 3) = false := by rw [hk]; rfl
  have kf_4 : decide (d.kind = 4) = false := by rw [hk]; rfl
  have kf_5 : decide (d.kind = 5) = false := by rw [hk]; rfl
  have kf_6 : decide (d.kind = 6) = false := by rw [hk]; rfl
  have kf_7 : decide (d.kind = 7) = true := by rw [hk]; rfl
  have kf_8 : decide (d.kind = 8) = false := by rw [hk]; rfl
  refine wp_seq ?_
  refine sx_region ?_
  refine sx rfl (stp_box_agg (cs := cs) rfl (St.start w) ?_); intro b1 W2 hb3 st4
  refine sx rfl (stp_assign (v := .bool false) rfl ?_)
  refine sx_nil ?_
  refine wp_seq ?_
  refine wp_seq ?_
  refine sx_region ?_
  refine sx rfl (stp_fieldAddr fa_Deed_0 rfl ?_)
  have hk6 := hc
  obtain ⟨v6_0, g6_0, rfl, hok6, h6_0, rfl⟩ := hk6
  refine sx rfl (stp_load_bx ld_int rfl rfl (st4.get 0 rfl) (i := 0) rfl rfl ?_)
  refine sx rfl (stp_call3 Tryd.func28 rfl rfl rfl rfl ((l01In_n W2 d.kind 1 8).mono ?_)); rintro _ W7 ⟨rfl, hk8⟩; refine ⟨_, rfl, ?_⟩
  have st9 := St.call st4 hk8
  refine sx rfl (stp_not rfl ?_)
  refine sx_nil ?_
  refine sx_f rfl (congrArg not hki) ?_
  refine wp_skip ?_
  refine wp_seq ?_
  refine sx_region ?_
  refine sx rfl (stp_fieldAddr fa_Deed_0 rfl ?_)
  refine sx rfl (stp_load_bx ld_int rfl rfl (st9.get 0 rfl) (i := 0) rfl rfl ?_)
  refine sx rfl (stp_eql rfl rfl ?_)
  refine sx rfl (stp_assign (v := .bool (decide (d.kind = 2))) rfl ?_)
  refine sx_nil ?_
  refine wp_seq ?_
  refine sx_region ?_
  refine sx rfl (stp_fieldAddr fa_Deed_0 rfl ?_)
  refine sx rfl (stp_load_bx ld_int rfl rfl (st9.get 0 rfl) (i := 0) rfl rfl ?_)
  refine sx rfl (stp_eql rfl rfl ?_)
  refine sx rfl (stp_move (v := .bool (decide (d.kind = 3))) rfl ?_)
  refine sx_on (j := 3) (dd := 16) rfl rfl (by decide) (yl_on (e := decide (d.kind = 3)) rfl kf_3) (stp_fieldAddr fa_Deed_0 rfl ?_)
  refine sx_on (j := 3) (dd := 16) rfl rfl (by decide) (yl_on (e := decide (d.kind = 3)) rfl kf_3) (stp_load_bx ld_int rfl rfl (st9.get 0 rfl) (i := 0) rfl rfl ?_)
  refine sx_on (j := 3) (dd := 16) rfl rfl (by decide) (yl_on (e := decide (d.kind = 3)) rfl kf_3) (stp_eql rfl rfl ?_)
  refine sx rfl (stp_pick_f (v := .bool (decide (d.kind = 4))) ((rfl : _ = (.bool (decide (d.kind = 3)) : Value)).trans (congrArg Value.bool kf_3)) rfl ?_)
  refine sx rfl (stp_assign (v := .bool (decide (d.kind = 4))) rfl ?_)
  refine sx_nil ?_
  refine wp_seq ?_
  refine sx_region ?_
  refine sx rfl (stp_move (v := .bool (decide (d.kind = 2))) rfl ?_)
  refine sx rfl (stp_not rfl ?_)
  refine sx rfl (stp_move (v := .bool (!decide (d.kind = 2))) rfl ?_)
  refine sx_on (j := 2) (dd := 23) rfl rfl (by decide) (yl_on (e := !decide (d.kind = 2)) rfl (congrArg not kf_2)) (stp_fieldAddr fa_Deed_0 rfl ?_)
  refine sx_on (j := 2) (dd := 23) rfl rfl (by decide) (yl_on (e := !decide (d.kind = 2)) rfl (congrArg not kf_2)) (stp_load_bx ld_int rfl rfl (st9.get 0 rfl) (i := 0) rfl rfl ?_)
  refine sx_on (j := 2) (dd := 23) rfl rfl (by decide) (yl_on (e := !decide (d.kind = 2)) rfl (congrArg not kf_2)) (stp_neq rfl rfl ?_)
  refine sx rfl (stp_pick_t (v := .bool (!decide (d.kind = 5))) ((rfl : _ = (.bool (!decide (d.kind = 2)) : Value)).trans (congrArg Value.bool (congrArg not kf_2))) rfl ?_)
  refine sx rfl (stp_move (v := .bool (!decide (d.kind = 5))) rfl ?_)
  refine sx_on (j := 7) (dd := 28) rfl rfl (by decide) (yl_on (e := !decide (d.kind = 5)) rfl (congrArg not kf_5)) (stp_fieldAddr fa_Deed_0 rfl ?_)
  refine sx_on (j := 7) (dd := 28) rfl rfl (by decide) (yl_on (e := !decide (d.kind = 5)) rfl (congrArg not kf_5)) (stp_load_bx ld_int rfl rfl (st9.get 0 rfl) (i := 0) rfl rfl ?_)
  refine sx_on (j := 7) (dd := 28) rfl rfl (by decide) (yl_on (e := !decide (d.kind = 5)) rfl (congrArg not kf_5)) (stp_neq rfl rfl ?_)
  refine sx rfl (stp_pick_t (v := .bool (!decide (d.kind = 8))) ((rfl : _ = (.bool (!decide (d.kind = 5)) : Value)).trans (congrArg Value.bool (congrArg not kf_5))) rfl ?_)
  refine sx rfl (stp_assign (v := .bool (!decide (d.kind = 8))) rfl ?_)
  refine sx_nil ?_
  refine wp_seq ?_
  refine wp_seq ?_
  refine sx_region ?_
  refine sx rfl (stp_move (v := .bool (!decide (d.kind = 8))) rfl ?_)
  refine sx rfl (stp_move (v := .bool (!decide (d.kind = 8))) rfl ?_)
  refine sx_on (j := 1) (dd := 34) rfl rfl (by decide) (yl_on (e := !decide (d.kind = 8)) rfl (congrArg not kf_8)) (stp_fieldAddr fa_Deed_1 rfl ?_)
  refine sx_on (j := 1) (dd := 34) rfl rfl (by decide) (yl_on (e := !decide (d.kind = 8)) rfl (congrArg not kf_8)) (stp_load_bx ld_int rfl rfl (st9.get 0 rfl) (i := 1) rfl rfl ?_)
  refine sx_on (j := 1) (dd := 34) rfl rfl (by decide) (yl_on (e := !decide (d.kind = 8)) rfl (congrArg not kf_8)) (stp_call1 Tryd.func56 rfl rfl ((numS W7 d.run).mono ?_)); rintro _ W11 ⟨rfl, hk12⟩; refine ⟨_, rfl, ?_⟩
  have st13 := St.call st9 hk12
  refine sx_on (j := 1) (dd := 34) rfl rfl (by decide) (yl_on (e := !decide (d.kind = 8)) rfl (congrArg not kf_8)) (stp_not rfl ?_)
  refine sx rfl (stp_pick_t (v := .bool (!(num d.run))) ((rfl : _ = (.bool (!decide (d.kind = 8)) : Value)).trans (congrArg Value.bool (congrArg not kf_8))) rfl ?_)
  refine sx rfl (stp_move (v := .bool (!(num d.run))) rfl ?_)
  rcases bd (!(num d.run)) with h15 | h15
  · skip
    refine sx_on (j := 7) (dd := 40) rfl rfl (by decide) (yl_on (e := !(num d.run)) rfl h15) (stp_move (v := .bool (!decide (d.kind = 8))) rfl ?_)
    refine sx_on (j := 7) (dd := 40) rfl rfl (by decide) (yl_on (e := !(num d.run)) rfl h15) (stp_not rfl ?_)
    refine sx_on (j := 7) (dd := 40) rfl rfl (by decide) (yl_on (e := !(num d.run)) rfl h15) (stp_move (v := .bool (!(!decide (d.kind = 8)))) rfl ?_)
    iterate 3 refine sx_off (j := 10) (dd := 43) rfl rfl (by decide) (yl_off (e := !(!decide (d.kind = 8))) rfl (congrArg not (congrArg not kf_8))) ?_
    refine sx_on (j := 7) (dd := 40) rfl rfl (by decide) (yl_on (e := !(num d.run)) rfl h15) (stp_pick_f (v := .bool false) ((rfl : _ = (.bool (!(!decide (d.kind = 8))) : Value)).trans (congrArg Value.bool (congrArg not (congrArg not kf_8)))) rfl ?_)
    refine sx rfl (stp_pick_f (v := .bool false) ((rfl : _ = (.bool (!(num d.run)) : Value)).trans (congrArg Value.bool h15)) rfl ?_)
    refine sx rfl (stp_move (v := .bool false) rfl ?_)
    refine sx_on (j := 16) (dd := 49) rfl rfl (by decide) (yl_on (e := false) rfl rfl) (stp_move (v := .bool (decide (d.kind = 4))) rfl ?_)
    refine sx_on (j := 16) (dd := 49) rfl rfl (by decide) (yl_on (e := false) rfl rfl) (stp_move (v := .bool (decide (d.kind = 4))) rfl ?_)
    iterate 5 refine sx_off (j := 18) (dd := 51) rfl rfl (by decide) (yl_off (e := decide (d.kind = 4)) rfl kf_4) ?_
    iterate 4 refine sx_off rfl rfl (by decide) (yl_und rfl) ?_
    refine sx_off (j := 18) (dd := 51) rfl rfl (by decide) (yl_off (e := decide (d.kind = 4)) rfl kf_4) ?_
    refine sx_on (j := 16) (dd := 49) rfl rfl (by decide) (yl_on (e := false) rfl rfl) (stp_pick_f (v := .bool false) ((rfl : _ = (.bool (decide (d.kind = 4)) : Value)).trans (congrArg Value.bool kf_4)) rfl ?_)
    refine sx rfl (stp_pick_f (v := .bool false) rfl rfl ?_)
    refine sx rfl (stp_move (v := .bool false) rfl ?_)
    refine sx_on (j := 31) (dd := 64) rfl rfl (by decide) (yl_on (e := false) rfl rfl) (stp_move (v := .bool (decide (d.kind = 4))) rfl ?_)
    refine sx_on (j := 31) (dd := 64) rfl rfl (by decide) (yl_on (e := false) rfl rfl) (stp_not rfl ?_)
    refine sx_on (j := 31) (dd := 64) rfl rfl (by decide) (yl_on (e := false) rfl rfl) (stp_move (v := .bool (!decide (d.kind = 4))) rfl ?_)
    refine sx_on (j := 34) (dd := 67) rfl rfl (by decide) (yl_on (e := !decide (d.kind = 4)) rfl (congrArg not kf_4)) (stp_fieldAddr fa_Deed_3 rfl ?_)
    refine sx_on (j := 34) (dd := 67) rfl rfl (by decide) (yl_on (e := !decide (d.kind = 4)) rfl (congrArg not kf_4)) (stp_load_bx ld_int rfl rfl (st13.get 0 rfl) (i := 7) rfl rfl ?_)
    refine sx_on (j := 34) (dd := 67) rfl rfl (by decide) (yl_on (e := !decide (d.kind = 4)) rfl (congrArg not kf_4)) (stp_neq rfl rfl ?_)
    refine sx_on (j := 34) (dd := 67) rfl rfl (by decide) (yl_on (e := !decide (d.kind = 4)) rfl (congrArg not kf_4)) (stp_move (v := .bool (!decide (d.task = 0))) rfl ?_)
    rcases bd (!decide (d.task = 0)) with h16 | h16
    · skip
      have h16p := of_decide_eq_true (bnot_f h16)
      refine sx_on (j := 38) (dd := 71) rfl rfl (by decide) (yl_on (e := !decide (d.task = 0)) rfl h16) (stp_fieldAddr fa_Deed_4 rfl ?_)
      refine sx_on (j := 38) (dd := 71) rfl rfl (by decide) (yl_on (e := !decide (d.task = 0)) rfl h16) (stp_load_bx ld_int rfl rfl (st13.get 0 rfl) (i := 8) rfl rfl ?_)
      refine sx_on (j := 38) (dd := 71) rfl rfl (by decide) (yl_on (e := !decide (d.task = 0)) rfl h16) (stp_neq rfl rfl ?_)
      refine sx_on (j := 34) (dd := 67) rfl rfl (by decide) (yl_on (e := !decide (d.kind = 4)) rfl (congrArg not kf_4)) (stp_pick_f (v := .bool (!decide (d.try_ = 0))) ((rfl : _ = (.bool (!decide (d.task = 0)) : Value)).trans (congrArg Value.bool h16)) rfl ?_)
      refine sx_on (j := 31) (dd := 64) rfl rfl (by decide) (yl_on (e := false) rfl rfl) (stp_pick_t (v := .bool (!decide (d.try_ = 0))) ((rfl : _ = (.bool (!decide (d.kind = 4)) : Value)).trans (congrArg Value.bool (congrArg not kf_4))) rfl ?_)
      refine sx rfl (stp_pick_f (v := .bool (!decide (d.try_ = 0))) rfl rfl ?_)
      refine sx rfl (stp_move (v := .bool (!decide (d.try_ = 0))) rfl ?_)
      rcases bd (!decide (d.try_ = 0)) with h17 | h17
      · skip
        have h17p := of_decide_eq_true (bnot_f h17)
        refine sx_on (j := 45) (dd := 78) rfl rfl (by decide) (yl_on (e := !decide (d.try_ = 0)) rfl h17) (stp_move (v := .bool (decide (d.kind = 2))) rfl ?_)
        refine sx_on (j := 45) (dd := 78) rfl rfl (by decide) (yl_on (e := !decide (d.try_ = 0)) rfl h17) (stp_move (v := .bool (decide (d.kind = 2))) rfl ?_)
        iterate 5 refine sx_off (j := 47) (dd := 80) rfl rfl (by decide) (yl_off (e := decide (d.kind = 2)) rfl kf_2) ?_
        iterate 4 refine sx_off rfl rfl (by decide) (yl_und rfl) ?_
        refine sx_off (j := 47) (dd := 80) rfl rfl (by decide) (yl_off (e := decide (d.kind = 2)) rfl kf_2) ?_
        refine sx_on (j := 45) (dd := 78) rfl rfl (by decide) (yl_on (e := !decide (d.try_ = 0)) rfl h17) (stp_pick_f (v := .bool false) ((rfl : _ = (.bool (decide (d.kind = 2)) : Value)).trans (congrArg Value.bool kf_2)) rfl ?_)
        refine sx rfl (stp_pick_f (v := .bool false) ((rfl : _ = (.bool (!decide (d.try_ = 0)) : Value)).trans (congrArg Value.bool h17)) rfl ?_)
        refine sx rfl (stp_move (v := .bool false) rfl ?_)
        refine sx_on (j := 60) (dd := 93) rfl rfl (by decide) (yl_on (e := false) rfl rfl) (stp_move (v := .bool (decide (d.kind = 2))) rfl ?_)
        refine sx_on (j := 60) (dd := 93) rfl rfl (by decide) (yl_on (e := false) rfl rfl) (stp_not rfl ?_)
        refine sx_on (j := 60) (dd := 93) rfl rfl (by decide) (yl_on (e := false) rfl rfl) (stp_move (v := .bool (!decide (d.kind = 2))) rfl ?_)
        refine sx_on (j := 63) (dd := 96) rfl rfl (by decide) (yl_on (e := !decide (d.kind = 2)) rfl (congrArg not kf_2)) (stp_fieldAddr fa_Deed_5 rfl ?_)
        refine sx_on (j := 63) (dd := 96) rfl rfl (by decide) (yl_on (e := !decide (d.kind = 2)) rfl (congrArg not kf_2)) (stp_load_bx ld_int rfl rfl (st13.get 0 rfl) (i := 9) rfl rfl ?_)
        refine sx_on (j := 63) (dd := 96) rfl rfl (by decide) (yl_on (e := !decide (d.kind = 2)) rfl (congrArg not kf_2)) (stp_neq rfl rfl ?_)
        refine sx_on (j := 63) (dd := 96) rfl rfl (by decide) (yl_on (e := !decide (d.kind = 2)) rfl (congrArg not kf_2)) (stp_move (v := .bool (!decide (d.worker = 0))) rfl ?_)
        rcases bd (!decide (d.worker = 0)) with h18 | h18
        · skip
          have h18p := of_decide_eq_true (bnot_f h18)
          refine sx_on (j := 67) (dd := 100) rfl rfl (by decide) (yl_on (e := !decide (d.worker = 0)) rfl h18) (stp_fieldAddr fa_Deed_6 rfl ?_)
          refine sx_on (j := 67) (dd := 100) rfl rfl (by decide) (yl_on (e := !decide (d.worker = 0)) rfl h18) (stp_load_bx ld_int rfl rfl (st13.get 0 rfl) (i := 10) rfl rfl ?_)
          refine sx_on (j := 67) (dd := 100) rfl rfl (by decide) (yl_on (e := !decide (d.worker = 0)) rfl h18) (stp_neq rfl rfl ?_)
          refine sx_on (j := 63) (dd := 96) rfl rfl (by decide) (yl_on (e := !decide (d.kind = 2)) rfl (congrArg not kf_2)) (stp_pick_f (v := .bool (!decide (d.draw = 0))) ((rfl : _ = (.bool (!decide (d.worker = 0)) : Value)).trans (congrArg Value.bool h18)) rfl ?_)
          refine sx_on (j := 60) (dd := 93) rfl rfl (by decide) (yl_on (e := false) rfl rfl) (stp_pick_t (v := .bool (!decide (d.draw = 0))) ((rfl : _ = (.bool (!decide (d.kind = 2)) : Value)).trans (congrArg Value.bool (congrArg not kf_2))) rfl ?_)
          refine sx rfl (stp_pick_f (v := .bool (!decide (d.draw = 0))) rfl rfl ?_)
          refine sx_nil ?_
          refine sx_if rfl (fun h19 => ?_) (fun h19 => ?_)
          · skip
            have h19p := of_decide_eq_false (bnot_t h19)
            refine wp_seq ?_
            refine sx_region ?_
            refine sx rfl (stp_assign (v := .bool false) rfl ?_)
            refine sx_nil ?_
            refine wp_ret ?_; repeat (first | refine then_ret ?_ | refine blk_ret ?_)
            refine ret1 Tryd.results35 rfl ?_
            exact ⟨(congrArg (fun z => Ending.returned (.bool z)) (Eq.symm (by rw [deedOk_6 (.inr hk)]; simp [num0, bnot_f h15, h16p, h17p, h18p, h19p]))), st13.bare⟩
          · skip
            have h19p := of_decide_eq_true (bnot_f h19)
            refine wp_skip ?_
            refine wp_seq ?_
            refine wp_seq ?_
            refine sx_region ?_
            refine sx rfl (stp_fieldAddr fa_Deed_0 rfl ?_)
            refine sx rfl (stp_load_bx ld_int rfl rfl (st13.get 0 rfl) (i := 0) rfl rfl ?_)
            refine sx rfl (stp_eql rfl rfl ?_)
            refine sx_nil ?_
            refine sx_f rfl kf_1 ?_
            refine wp_skip ?_
            refine wp_seq ?_
            refine sx_region ?_
            refine sx rfl (stp_fieldAddr fa_Deed_2 rfl ?_)
            refine sx rfl (stp_load_bxs (cs := [I d.plan.prio, I d.plan.most, I d.plan.wait, I d.plan.tasks, v6_0]) ld_Plan rfl rfl (st13.get 0 rfl) rfl rfl ?_)
            refine sx rfl (stp_call1 Tryd.func58 rfl rfl ((noPlanS W11 (show Shape.C _ [I d.plan.prio, I d.plan.most, I d.plan.wait, I d.plan.tasks, v6_0] d.plan _ from ⟨_, _, rfl, (by simp only [Edge.ok, Plan.ok, Entry.ok, Task.ok, Run.ok, Yard.ok, Reply.ok, Deed.ok, Note.ok, Wait.ok, File.ok, Disk.ok, Engine.ok, WorldD.ok, ActD.ok, Hand.ok, Span.ok, Crew.ok, View.ok, I64] at *; omega), (h6_0.below st13.below), rfl⟩)).mono ?_)); rintro _ W20 ⟨rfl, hk21⟩; refine ⟨_, rfl, ?_⟩
            have st22 := St.call st13 hk21
            refine sx rfl (stp_assign (v := .bool (noPlan d.plan)) rfl ?_)
            refine sx_nil ?_
            refine wp_ret ?_; repeat (first | refine then_ret ?_ | refine blk_ret ?_)
            refine ret1 Tryd.results35 rfl ?_
            exact ⟨(congrArg (fun z => Ending.returned (.bool z)) (Eq.symm (by rw [deedOk_6 (.inr hk)]; simp [num0, bnot_f h15, h16p, h17p, h18p, h19p]))), st22.bare⟩
        · skip
          have h18p := of_decide_eq_false (bnot_t h18)
          iterate 3 refine sx_off (j := 67) (dd := 100) rfl rfl (by decide) (yl_off (e := !decide (d.worker = 0)) rfl h18) ?_
          refine sx_on (j := 63) (dd := 96) rfl rfl (by decide) (yl_on (e := !decide (d.kind = 2)) rfl (congrArg not kf_2)) (stp_pick_t (v := .bool true) ((rfl : _ = (.bool (!decide (d.worker = 0)) : Value)).trans (congrArg Value.bool h18)) rfl ?_)
          refine sx_on (j := 60) (dd := 93) rfl rfl (by decide) (yl_on (e := false) rfl rfl) (stp_pick_t (v := .bool true) ((rfl : _ = (.bool (!decide (d.kind = 2)) : Value)).trans (congrArg Value.bool (congrArg not kf_2))) rfl ?_)
          refine sx rfl (stp_pick_f (v := .bool true) rfl rfl ?_)
          refine sx_nil ?_
          refine sx_t rfl rfl ?_
          refine wp_seq ?_
          refine sx_region ?_
          refine sx rfl (stp_assign (v := .bool false) rfl ?_)
          refine sx_nil ?_
          refine wp_ret ?_; repeat (first | refine then_ret ?_ | refine blk_ret ?_)
          refine ret1 Tryd.results35 rfl ?_
          exact ⟨(congrArg (fun z => Ending.returned (.bool z)) (Eq.symm (by rw [deedOk_6 (.inr hk)]; simp [num0, bnot_f h15, h16p, h17p, h18p]))), st13.bare⟩
      · skip
        have h17p := of_decide_eq_false (bnot_t h17)
        iterate 2 refine sx_off (j := 45) (dd := 78) rfl rfl (by decide) (yl_off (e := !decide (d.try_ = 0)) rfl h17) ?_
        iterate 10 refine sx_off rfl rfl (by decide) (yl_und rfl) ?_
        refine sx_off (j := 45) (dd := 78) rfl rfl (by decide) (yl_off (e := !decide (d.try_ = 0)) rfl h17) ?_
        refine sx rfl (stp_pick_t (v := .bool true) ((rfl : _ = (.bool (!decide (d.try_ = 0)) : Value)).trans (congrArg Value.bool h17)) rfl ?_)
        refine sx rfl (stp_move (v := .bool true) rfl ?_)
        iterate 3 refine sx_off (j := 60) (dd := 93) rfl rfl (by decide) (yl_off (e := true) rfl rfl) ?_
        iterate 8 refine sx_off rfl rfl (by decide) (yl_und rfl) ?_
        refine sx_off (j := 60) (dd := 93) rfl rfl (by decide) (yl_off (e := true) rfl rfl) ?_
        refine sx rfl (stp_pick_t (v := .bool true) rfl rfl ?_)
        refine sx_nil ?_
        refine sx_t rfl rfl ?_
        refine wp_seq ?_
        refine sx_region ?_
        refine sx rfl (stp_assign (v := .bool false) rfl ?_)
        refine sx_nil ?_
        refine wp_ret ?_; repeat (first | refine then_ret ?_ | refine blk_ret ?_)
        refine ret1 Tryd.results35 rfl ?_
        exact ⟨(congrArg (fun z => Ending.returned (.bool z)) (Eq.symm (by rw [deedOk_6 (.inr hk)]; simp [num0, bnot_f h15, h16p, h17p]))), st13.bare⟩
    · skip
      have h16p := of_decide_eq_false (bnot_t h16)
      iterate 3 refine sx_off (j := 38) (dd := 71) rfl rfl (by decide) (yl_off (e := !decide (d.task = 0)) rfl h16) ?_
      refine sx_on (j := 34) (dd := 67) rfl rfl (by decide) (yl_on (e := !decide (d.kind = 4)) rfl (congrArg not kf_4)) (stp_pick_t (v := .bool true) ((rfl : _ = (.bool (!decide (d.task = 0)) : Value)).trans (congrArg Value.bool h16)) rfl ?_)
      refine sx_on (j := 31) (dd := 64) rfl rfl (by decide) (yl_on (e := false) rfl rfl) (stp_pick_t (v := .bool true) ((rfl : _ = (.bool (!decide (d.kind = 4)) : Value)).trans (congrArg Value.bool (congrArg not kf_4))) rfl ?_)
      refine sx rfl (stp_pick_f (v := .bool true) rfl rfl ?_)
      refine sx rfl (stp_move (v := .bool true) rfl ?_)
      iterate 2 refine sx_off (j := 45) (dd := 78) rfl rfl (by decide) (yl_off (e := true) rfl rfl) ?_
      iterate 10 refine sx_off rfl rfl (by decide) (yl_und rfl) ?_
      refine sx_off (j := 45) (dd := 78) rfl rfl (by decide) (yl_off (e := true) rfl rfl) ?_
      refine sx rfl (stp_pick_t (v := .bool true) rfl rfl ?_)
      refine sx rfl (stp_move (v := .bool true) rfl ?_)
      iterate 3 refine sx_off (j := 60) (dd := 93) rfl rfl (by decide) (yl_off (e := true) rfl rfl) ?_
      iterate 8 refine sx_off rfl rfl (by decide) (yl_und rfl) ?_
      refine sx_off (j := 60) (dd := 93) rfl rfl (by decide) (yl_off (e := true) rfl rfl) ?_
      refine sx rfl (stp_pick_t (v := .bool true) rfl rfl ?_)
      refine sx_nil ?_
      refine sx_t rfl rfl ?_
      refine wp_seq ?_
      refine sx_region ?_
      refine sx rfl (stp_assign (v := .bool false) rfl ?_)
      refine sx_nil ?_
      refine wp_ret ?_; repeat (first | refine then_ret ?_ | refine blk_ret ?_)
      refine ret1 Tryd.results35 rfl ?_
      exact ⟨(congrArg (fun z => Ending.returned (.bool z)) (Eq.symm (by rw [deedOk_6 (.inr hk)]; simp [num0, bnot_f h15, h16p]))), st13.bare⟩
  · skip
    iterate 3 refine sx_off (j := 7) (dd := 40) rfl rfl (by decide) (yl_off (e := !(num d.run)) rfl h15) ?_
    iterate 3 refine sx_off rfl rfl (by decide) (yl_und rfl) ?_
    refine sx_off (j := 7) (dd := 40) rfl rfl (by decide) (yl_off (e := !(num d.run)) rfl h15) ?_
    refine sx rfl (stp_pick_t (v := .bool true) ((rfl : _ = (.bool (!(num d.run)) : Value)).trans (congrArg Value.bool h15)) rfl ?_)
    refine sx rfl (stp_move (v := .bool true) rfl ?_)
    iterate 2 refine sx_off (j := 16) (dd := 49) rfl rfl (by decide) (yl_off (e := true) rfl rfl) ?_
    iterate 10 refine sx_off rfl rfl (by decide) (yl_und rfl) ?_
    refine sx_off (j := 16) (dd := 49) rfl rfl (by decide) (yl_off (e := true) rfl rfl) ?_
    refine sx rfl (stp_pick_t (v := .bool true) rfl rfl ?_)
    refine sx rfl (stp_move (v := .bool true) rfl ?_)
    iterate 3 refine sx_off (j := 31) (dd := 64) rfl rfl (by decide) (yl_off (e := true) rfl rfl) ?_
    iterate 8 refine sx_off rfl rfl (by decide) (yl_und rfl) ?_
    refine sx_off (j := 31) (dd := 64) rfl rfl (by decide) (yl_off (e := true) rfl rfl) ?_
    refine sx rfl (stp_pick_t (v := .bool true) rfl rfl ?_)
    refine sx rfl (stp_move (v := .bool true) rfl ?_)
    iterate 2 refine sx_off (j := 45) (dd := 78) rfl rfl (by decide) (yl_off (e := true) rfl rfl) ?_
    iterate 10 refine sx_off rfl rfl (by decide) (yl_und rfl) ?_
    refine sx_off (j := 45) (dd := 78) rfl rfl (by decide) (yl_off (e := true) rfl rfl) ?_
    refine sx rfl (stp_pick_t (v := .bool true) rfl rfl ?_)
    refine sx rfl (stp_move (v := .bool true) rfl ?_)
    iterate 3 refine sx_off (j := 60) (dd := 93) rfl rfl (by decide) (yl_off (e := true) rfl rfl) ?_
    iterate 8 refine sx_off rfl rfl (by decide) (yl_und rfl) ?_
    refine sx_off (j := 60) (dd := 93) rfl rfl (by decide) (yl_off (e := true) rfl rfl) ?_
    refine sx rfl (stp_pick_t (v := .bool true) rfl rfl ?_)
    refine sx_nil ?_
    refine sx_t rfl rfl ?_
    refine wp_seq ?_
    refine sx_region ?_
    refine sx rfl (stp_assign (v := .bool false) rfl ?_)
    refine sx_nil ?_
    refine wp_ret ?_; repeat (first | refine then_ret ?_ | refine blk_ret ?_)
    refine ret1 Tryd.results35 rfl ?_
    exact ⟨(congrArg (fun z => Ending.returned (.bool z)) (Eq.symm (by rw [deedOk_6 (.inr hk)]; simp [num0, bnot_t h15]))), st13.bare⟩
set_option maxHeartbeats 2000000 in
theorem DeedOkS_8 (w : World) {d : Deed} {cs : List Value} {fp : List Nat} (hc : Shape.C w cs d fp) (hk : d.kind = 8) :
    Calls Tryd.prog 35 #[.agg cs.toArray] w fun e w' => e = .returned (.bool (deedOk d)) ∧ St w w' [] := by
  refine enter1 Tryd.func35 rfl Tryd.ntmps35 (by decide) ?_
  have hki : inB d.kind 1 8 = true := by rw [hk]; rfl
  have kf_1 : decide (d.kind = 1) = false := by rw [hk]; rfl
  have kf_2 : decide (d.kind = 2) = false := by rw [hk]; rfl
  have kf_3 : decide (d.kind = 3) = false := by rw [hk]; rfl
  have kf_4 : decide (d.kind = 4) = false := by rw [hk]; rfl
  have kf_5 : decide (d.kind = 5) = false := by rw [hk]; rfl
  have kf_6 : decide (d.kind = 6) = false := by rw [hk]; rfl
  have kf_7 : decide (d.kind = 7) = false := by rw [hk]; rfl
  have kf_8 : decide (d.kind = 8) = true := by rw [hk]; rfl
  refine wp_seq ?_
  refine sx_region ?_
  refine sx rfl (stp_box_agg (cs := cs) rfl (St.start w) ?_); intro b1 W2 hb3 st4
  refine sx rfl (stp_assign (v := .bool false) rfl ?_)
  refine sx_nil ?_
  refine wp_seq ?_
  refine wp_seq ?_
  refine sx_region ?_
  refine sx rfl (stp_fieldAddr fa_Deed_0 rfl ?_)
  have hk6 := hc
  obtain ⟨v6_0, g6_0, rfl, hok6, h6_0, rfl⟩ := hk6
  refine sx rfl (stp_load_bx ld_int rfl rfl (st4.get 0 rfl) (i := 0) rfl rfl ?_)
  refine sx rfl (stp_call3 Tryd.func28 rfl rfl rfl rfl ((l01In_n W2 d.kind 1 8).mono ?_)); rintro _ W7 ⟨rfl, hk8⟩; refine ⟨_, rfl, ?_⟩
  have st9 := St.call st4 hk8
  refine sx rfl (stp_not rfl ?_)
  refine sx_nil ?_
  refine sx_f rfl (congrArg not hki) ?_
  refine wp_skip ?_
  refine wp_seq ?_
  refine sx_region ?_
  refine sx rfl (stp_fieldAddr fa_Deed_0 rfl ?_)
  refine sx rfl (stp_load_bx ld_int rfl rfl (st9.get 0 rfl) (i := 0) rfl rfl ?_)
  refine sx rfl (stp_eql rfl rfl ?_)
  refine sx rfl (stp_assign (v := .bool (decide (d.kind = 2))) rfl ?_)
  refine sx_nil ?_
  refine wp_seq ?_
  refine sx_region ?_
  refine sx rfl (stp_fieldAddr fa_Deed_0 rfl ?_)
  refine sx rfl (stp_load_bx ld_int rfl rfl (st9.get 0 rfl) (i := 0) rfl rfl ?_)
  refine sx rfl (stp_eql rfl rfl ?_)
  refine sx rfl (stp_move (v := .bool (decide (d.kind = 3))) rfl ?_)
  refine sx_on (j := 3) (dd := 16) rfl rfl (by decide) (yl_on (e := decide (d.kind = 3)) rfl kf_3) (stp_fieldAddr fa_Deed_0 rfl ?_)
  refine sx_on (j := 3) (dd := 16) rfl rfl (by decide) (yl_on (e := decide (d.kind = 3)) rfl kf_3) (stp_load_bx ld_int rfl rfl (st9.get 0 rfl) (i := 0) rfl rfl ?_)
  refine sx_on (j := 3) (dd := 16) rfl rfl (by decide) (yl_on (e := decide (d.kind = 3)) rfl kf_3) (stp_eql rfl rfl ?_)
  refine sx rfl (stp_pick_f (v := .bool (decide (d.kind = 4))) ((rfl : _ = (.bool (decide (d.kind = 3)) : Value)).trans (congrArg Value.bool kf_3)) rfl ?_)
  refine sx rfl (stp_assign (v := .bool (decide (d.kind = 4))) rfl ?_)
  refine sx_nil ?_
  refine wp_seq ?_
  refine sx_region ?_
  refine sx rfl (stp_move (v := .bool (decide (d.kind = 2))) rfl ?_)
  refine sx rfl (stp_not rfl ?_)
  refine sx rfl (stp_move (v := .bool (!decide (d.kind = 2))) rfl ?_)
  refine sx_on (j := 2) (dd := 23) rfl rfl (by decide) (yl_on (e := !decide (d.kind = 2)) rfl (congrArg not kf_2)) (stp_fieldAddr fa_Deed_0 rfl ?_)
  refine sx_on (j := 2) (dd := 23) rfl rfl (by decide) (yl_on (e := !decide (d.kind = 2)) rfl (congrArg not kf_2)) (stp_load_bx ld_int rfl rfl (st9.get 0 rfl) (i := 0) rfl rfl ?_)
  refine sx_on (j := 2) (dd := 23) rfl rfl (by decide) (yl_on (e := !decide (d.kind = 2)) rfl (congrArg not kf_2)) (stp_neq rfl rfl ?_)
  refine sx rfl (stp_pick_t (v := .bool (!decide (d.kind = 5))) ((rfl : _ = (.bool (!decide (d.kind = 2)) : Value)).trans (congrArg Value.bool (congrArg not kf_2))) rfl ?_)
  refine sx rfl (stp_move (v := .bool (!decide (d.kind = 5))) rfl ?_)
  refine sx_on (j := 7) (dd := 28) rfl rfl (by decide) (yl_on (e := !decide (d.kind = 5)) rfl (congrArg not kf_5)) (stp_fieldAddr fa_Deed_0 rfl ?_)
  refine sx_on (j := 7) (dd := 28) rfl rfl (by decide) (yl_on (e := !decide (d.kind = 5)) rfl (congrArg not kf_5)) (stp_load_bx ld_int rfl rfl (st9.get 0 rfl) (i := 0) rfl rfl ?_)
  refine sx_on (j := 7) (dd := 28) rfl rfl (by decide) (yl_on (e := !decide (d.kind = 5)) rfl (congrArg not kf_5)) (stp_neq rfl rfl ?_)
  refine sx rfl (stp_pick_t (v := .bool (!decide (d.kind = 8))) ((rfl : _ = (.bool (!decide (d.kind = 5)) : Value)).trans (congrArg Value.bool (congrArg not kf_5))) rfl ?_)
  refine sx rfl (stp_assign (v := .bool (!decide (d.kind = 8))) rfl ?_)
  refine sx_nil ?_
  refine wp_seq ?_
  refine wp_seq ?_
  refine sx_region ?_
  refine sx rfl (stp_move (v := .bool (!decide (d.kind = 8))) rfl ?_)
  refine sx rfl (stp_move (v := .bool (!decide (d.kind = 8))) rfl ?_)
  iterate 4 refine sx_off (j := 1) (dd := 34) rfl rfl (by decide) (yl_off (e := !decide (d.kind = 8)) rfl (congrArg not kf_8)) ?_
  refine sx rfl (stp_pick_f (v := .bool false) ((rfl : _ = (.bool (!decide (d.kind = 8)) : Value)).trans (congrArg Value.bool (congrArg not kf_8))) rfl ?_)
  refine sx rfl (stp_move (v := .bool false) rfl ?_)
  refine sx_on (j := 7) (dd := 40) rfl rfl (by decide) (yl_on (e := false) rfl rfl) (stp_move (v := .bool (!decide (d.kind = 8))) rfl ?_)
  refine sx_on (j := 7) (dd := 40) rfl rfl (by decide) (yl_on (e := false) rfl rfl) (stp_not rfl ?_)
  refine sx_on (j := 7) (dd := 40) rfl rfl (by decide) (yl_on (e := false) rfl rfl) (stp_move (v := .bool (!(!decide (d.kind = 8)))) rfl ?_)
  refine sx_on (j := 10) (dd := 43) rfl rfl (by decide) (yl_on (e := !(!decide (d.kind = 8))) rfl (congrArg not (congrArg not kf_8))) (stp_fieldAddr fa_Deed_1 rfl ?_)
  refine sx_on (j := 10) (dd := 43) rfl rfl (by decide) (yl_on (e := !(!decide (d.kind = 8))) rfl (congrArg not (congrArg not kf_8))) (stp_load_bx ld_int rfl rfl (st9.get 0 rfl) (i := 1) rfl rfl ?_)
  refine sx_on (j := 10) (dd := 43) rfl rfl (by decide) (yl_on (e := !(!decide (d.kind = 8))) rfl (congrArg not (congrArg not kf_8))) (stp_neq rfl rfl ?_)
  refine sx_on (j := 7) (dd := 40) rfl rfl (by decide) (yl_on (e := false) rfl rfl) (stp_pick_t (v := .bool (!decide (d.run = 0))) ((rfl : _ = (.bool (!(!decide (d.kind = 8))) : Value)).trans (congrArg Value.bool (congrArg not (congrArg not kf_8)))) rfl ?_)
  refine sx rfl (stp_pick_f (v := .bool (!decide (d.run = 0))) rfl rfl ?_)
  refine sx rfl (stp_move (v := .bool (!decide (d.run = 0))) rfl ?_)
  rcases bd (!decide (d.run = 0)) with h11 | h11
  · skip
    have h11p := of_decide_eq_true (bnot_f h11)
    refine sx_on (j := 16) (dd := 49) rfl rfl (by decide) (yl_on (e := !decide (d.run = 0)) rfl h11) (stp_move (v := .bool (decide (d.kind = 4))) rfl ?_)
    refine sx_on (j := 16) (dd := 49) rfl rfl (by decide) (yl_on (e := !decide (d.run = 0)) rfl h11) (stp_move (v := .bool (decide (d.kind = 4))) rfl ?_)
    iterate 5 refine sx_off (j := 18) (dd := 51) rfl rfl (by decide) (yl_off (e := decide (d.kind = 4)) rfl kf_4) ?_
    iterate 4 refine sx_off rfl rfl (by decide) (yl_und rfl) ?_
    refine sx_off (j := 18) (dd := 51) rfl rfl (by decide) (yl_off (e := decide (d.kind = 4)) rfl kf_4) ?_
    refine sx_on (j := 16) (dd := 49) rfl rfl (by decide) (yl_on (e := !decide (d.run = 0)) rfl h11) (stp_pick_f (v := .bool false) ((rfl : _ = (.bool (decide (d.kind = 4)) : Value)).trans (congrArg Value.bool kf_4)) rfl ?_)
    refine sx rfl (stp_pick_f (v := .bool false) ((rfl : _ = (.bool (!decide (d.run = 0)) : Value)).trans (congrArg Value.bool h11)) rfl ?_)
    refine sx rfl (stp_move (v := .bool false) rfl ?_)
    refine sx_on (j := 31) (dd := 64) rfl rfl (by decide) (yl_on (e := false) rfl rfl) (stp_move (v := .bool (decide (d.kind = 4))) rfl ?_)
    refine sx_on (j := 31) (dd := 64) rfl rfl (by decide) (yl_on (e := false) rfl rfl) (stp_not rfl ?_)
    refine sx_on (j := 31) (dd := 64) rfl rfl (by decide) (yl_on (e := false) rfl rfl) (stp_move (v := .bool (!decide (d.kind = 4))) rfl ?_)
    refine sx_on (j := 34) (dd := 67) rfl rfl (by decide) (yl_on (e := !decide (d.kind = 4)) rfl (congrArg not kf_4)) (stp_fieldAddr fa_Deed_3 rfl ?_)
    refine sx_on (j := 34) (dd := 67) rfl rfl (by decide) (yl_on (e := !decide (d.kind = 4)) rfl (congrArg not kf_4)) (stp_load_bx ld_int rfl rfl (st9.get 0 rfl) (i := 7) rfl rfl ?_)
    refine sx_on (j := 34) (dd := 67) rfl rfl (by decide) (yl_on (e := !decide (d.kind = 4)) rfl (congrArg not kf_4)) (stp_neq rfl rfl ?_)
    refine sx_on (j := 34) (dd := 67) rfl rfl (by decide) (yl_on (e := !decide (d.kind = 4)) rfl (congrArg not kf_4)) (stp_move (v := .bool (!decide (d.task = 0))) rfl ?_)
    rcases bd (!decide (d.task = 0)) with h12 | h12
    · skip
      have h12p := of_decide_eq_true (bnot_f h12)
      refine sx_on (j := 38) (dd := 71) rfl rfl (by decide) (yl_on (e := !decide (d.task = 0)) rfl h12) (stp_fieldAddr fa_Deed_4 rfl ?_)
      refine sx_on (j := 38) (dd := 71) rfl rfl (by decide) (yl_on (e := !decide (d.task = 0)) rfl h12) (stp_load_bx ld_int rfl rfl (st9.get 0 rfl) (i := 8) rfl rfl ?_)
      refine sx_on (j := 38) (dd := 71) rfl rfl (by decide) (yl_on (e := !decide (d.task = 0)) rfl h12) (stp_neq rfl rfl ?_)
      refine sx_on (j := 34) (dd := 67) rfl rfl (by decide) (yl_on (e := !decide (d.kind = 4)) rfl (congrArg not kf_4)) (stp_pick_f (v := .bool (!decide (d.try_ = 0))) ((rfl : _ = (.bool (!decide (d.task = 0)) : Value)).trans (congrArg Value.bool h12)) rfl ?_)
      refine sx_on (j := 31) (dd := 64) rfl rfl (by decide) (yl_on (e := false) rfl rfl) (stp_pick_t (v := .bool (!decide (d.try_ = 0))) ((rfl : _ = (.bool (!decide (d.kind = 4)) : Value)).trans (congrArg Value.bool (congrArg not kf_4))) rfl ?_)
      refine sx rfl (stp_pick_f (v := .bool (!decide (d.try_ = 0))) rfl rfl ?_)
      refine sx rfl (stp_move (v := .bool (!decide (d.try_ = 0))) rfl ?_)
      rcases bd (!decide (d.try_ = 0)) with h13 | h13
      · skip
        have h13p := of_decide_eq_true (bnot_f h13)
        refine sx_on (j := 45) (dd := 78) rfl rfl (by decide) (yl_on (e := !decide (d.try_ = 0)) rfl h13) (stp_move (v := .bool (decide (d.kind = 2))) rfl ?_)
        refine sx_on (j := 45) (dd := 78) rfl rfl (by decide) (yl_on (e := !decide (d.try_ = 0)) rfl h13) (stp_move (v := .bool (decide (d.kind = 2))) rfl ?_)
        iterate 5 refine sx_off (j := 47) (dd := 80) rfl rfl (by decide) (yl_off (e := decide (d.kind = 2)) rfl kf_2) ?_
        iterate 4 refine sx_off rfl rfl (by decide) (yl_und rfl) ?_
        refine sx_off (j := 47) (dd := 80) rfl rfl (by decide) (yl_off (e := decide (d.kind = 2)) rfl kf_2) ?_
        refine sx_on (j := 45) (dd := 78) rfl rfl (by decide) (yl_on (e := !decide (d.try_ = 0)) rfl h13) (stp_pick_f (v := .bool false) ((rfl : _ = (.bool (decide (d.kind = 2)) : Value)).trans (congrArg Value.bool kf_2)) rfl ?_)
        refine sx rfl (stp_pick_f (v := .bool false) ((rfl : _ = (.bool (!decide (d.try_ = 0)) : Value)).trans (congrArg Value.bool h13)) rfl ?_)
        refine sx rfl (stp_move (v := .bool false) rfl ?_)
        refine sx_on (j := 60) (dd := 93) rfl rfl (by decide) (yl_on (e := false) rfl rfl) (stp_move (v := .bool (decide (d.kind = 2))) rfl ?_)
        refine sx_on (j := 60) (dd := 93) rfl rfl (by decide) (yl_on (e := false) rfl rfl) (stp_not rfl ?_)
        refine sx_on (j := 60) (dd := 93) rfl rfl (by decide) (yl_on (e := false) rfl rfl) (stp_move (v := .bool (!decide (d.kind = 2))) rfl ?_)
        refine sx_on (j := 63) (dd := 96) rfl rfl (by decide) (yl_on (e := !decide (d.kind = 2)) rfl (congrArg not kf_2)) (stp_fieldAddr fa_Deed_5 rfl ?_)
        refine sx_on (j := 63) (dd := 96) rfl rfl (by decide) (yl_on (e := !decide (d.kind = 2)) rfl (congrArg not kf_2)) (stp_load_bx ld_int rfl rfl (st9.get 0 rfl) (i := 9) rfl rfl ?_)
        refine sx_on (j := 63) (dd := 96) rfl rfl (by decide) (yl_on (e := !decide (d.kind = 2)) rfl (congrArg not kf_2)) (stp_neq rfl rfl ?_)
        refine sx_on (j := 63) (dd := 96) rfl rfl (by decide) (yl_on (e := !decide (d.kind = 2)) rfl (congrArg not kf_2)) (stp_move (v := .bool (!decide (d.worker = 0))) rfl ?_)
        rcases bd (!decide (d.worker = 0)) with h14 | h14
        · skip
          have h14p := of_decide_eq_true (bnot_f h14)
          refine sx_on (j := 67) (dd := 100) rfl rfl (by decide) (yl_on (e := !decide (d.worker = 0)) rfl h14) (stp_fieldAddr fa_Deed_6 rfl ?_)
          refine sx_on (j := 67) (dd := 100) rfl rfl (by decide) (yl_on (e := !decide (d.worker = 0)) rfl h14) (stp_load_bx ld_int rfl rfl (st9.get 0 rfl) (i := 10) rfl rfl ?_)
          refine sx_on (j := 67) (dd := 100) rfl rfl (by decide) (yl_on (e := !decide (d.worker = 0)) rfl h14) (stp_neq rfl rfl ?_)
          refine sx_on (j := 63) (dd := 96) rfl rfl (by decide) (yl_on (e := !decide (d.kind = 2)) rfl (congrArg not kf_2)) (stp_pick_f (v := .bool (!decide (d.draw = 0))) ((rfl : _ = (.bool (!decide (d.worker = 0)) : Value)).trans (congrArg Value.bool h14)) rfl ?_)
          refine sx_on (j := 60) (dd := 93) rfl rfl (by decide) (yl_on (e := false) rfl rfl) (stp_pick_t (v := .bool (!decide (d.draw = 0))) ((rfl : _ = (.bool (!decide (d.kind = 2)) : Value)).trans (congrArg Value.bool (congrArg not kf_2))) rfl ?_)
          refine sx rfl (stp_pick_f (v := .bool (!decide (d.draw = 0))) rfl rfl ?_)
          refine sx_nil ?_
          refine sx_if rfl (fun h15 => ?_) (fun h15 => ?_)
          · skip
            have h15p := of_decide_eq_false (bnot_t h15)
            refine wp_seq ?_
            refine sx_region ?_
            refine sx rfl (stp_assign (v := .bool false) rfl ?_)
            refine sx_nil ?_
            refine wp_ret ?_; repeat (first | refine then_ret ?_ | refine blk_ret ?_)
            refine ret1 Tryd.results35 rfl ?_
            exact ⟨(congrArg (fun z => Ending.returned (.bool z)) (Eq.symm (by rw [deedOk_5 (.inr hk)]; simp [num0, h11p, h12p, h13p, h14p, h15p]))), st9.bare⟩
          · skip
            have h15p := of_decide_eq_true (bnot_f h15)
            refine wp_skip ?_
            refine wp_seq ?_
            refine wp_seq ?_
            refine sx_region ?_
            refine sx rfl (stp_fieldAddr fa_Deed_0 rfl ?_)
            refine sx rfl (stp_load_bx ld_int rfl rfl (st9.get 0 rfl) (i := 0) rfl rfl ?_)
            refine sx rfl (stp_eql rfl rfl ?_)
            refine sx_nil ?_
            refine sx_f rfl kf_1 ?_
            refine wp_skip ?_
            refine wp_seq ?_
            refine sx_region ?_
            refine sx rfl (stp_fieldAddr fa_Deed_2 rfl ?_)
            refine sx rfl (stp_load_bxs (cs := [I d.plan.prio, I d.plan.most, I d.plan.wait, I d.plan.tasks, v6_0]) ld_Plan rfl rfl (st9.get 0 rfl) rfl rfl ?_)
            refine sx rfl (stp_call1 Tryd.func58 rfl rfl ((noPlanS W7 (show Shape.C _ [I d.plan.prio, I d.plan.most, I d.plan.wait, I d.plan.tasks, v6_0] d.plan _ from ⟨_, _, rfl, (by simp only [Edge.ok, Plan.ok, Entry.ok, Task.ok, Run.ok, Yard.ok, Reply.ok, Deed.ok, Note.ok, Wait.ok, File.ok, Disk.ok, Engine.ok, WorldD.ok, ActD.ok, Hand.ok, Span.ok, Crew.ok, View.ok, I64] at *; omega), (h6_0.below st9.below), rfl⟩)).mono ?_)); rintro _ W16 ⟨rfl, hk17⟩; refine ⟨_, rfl, ?_⟩
            have st18 := St.call st9 hk17
            refine sx rfl (stp_assign (v := .bool (noPlan d.plan)) rfl ?_)
            refine sx_nil ?_
            refine wp_ret ?_; repeat (first | refine then_ret ?_ | refine blk_ret ?_)
            refine ret1 Tryd.results35 rfl ?_
            exact ⟨(congrArg (fun z => Ending.returned (.bool z)) (Eq.symm (by rw [deedOk_5 (.inr hk)]; simp [num0, h11p, h12p, h13p, h14p, h15p]))), st18.bare⟩
        · skip
          have h14p := of_decide_eq_false (bnot_t h14)
          iterate 3 refine sx_off (j := 67) (dd := 100) rfl rfl (by decide) (yl_off (e := !decide (d.worker = 0)) rfl h14) ?_
          refine sx_on (j := 63) (dd := 96) rfl rfl (by decide) (yl_on (e := !decide (d.kind = 2)) rfl (congrArg not kf_2)) (stp_pick_t (v := .bool true) ((rfl : _ = (.bool (!decide (d.worker = 0)) : Value)).trans (congrArg Value.bool h14)) rfl ?_)
          refine sx_on (j := 60) (dd := 93) rfl rfl (by decide) (yl_on (e := false) rfl rfl) (stp_pick_t (v := .bool true) ((rfl : _ = (.bool (!decide (d.kind = 2)) : Value)).trans (congrArg Value.bool (congrArg not kf_2))) rfl ?_)
          refine sx rfl (stp_pick_f (v := .bool true) rfl rfl ?_)
          refine sx_nil ?_
          refine sx_t rfl rfl ?_
          refine wp_seq ?_
          refine sx_region ?_
          refine sx rfl (stp_assign (v := .bool false) rfl ?_)
          refine sx_nil ?_
          refine wp_ret ?_; repeat (first | refine then_ret ?_ | refine blk_ret ?_)
          refine ret1 Tryd.results35 rfl ?_
          exact ⟨(congrArg (fun z => Ending.returned (.bool z)) (Eq.symm (by rw [deedOk_5 (.inr hk)]; simp [num0, h11p, h12p, h13p, h14p]))), st9.bare⟩
      · skip
        have h13p := of_decide_eq_false (bnot_t h13)
        iterate 2 refine sx_off (j := 45) (dd := 78) rfl rfl (by decide) (yl_off (e := !decide (d.try_ = 0)) rfl h13) ?_
        iterate 10 refine sx_off rfl rfl (by decide) (yl_und rfl) ?_
        refine sx_off (j := 45) (dd := 78) rfl rfl (by decide) (yl_off (e := !decide (d.try_ = 0)) rfl h13) ?_
        refine sx rfl (stp_pick_t (v := .bool true) ((rfl : _ = (.bool (!decide (d.try_ = 0)) : Value)).trans (congrArg Value.bool h13)) rfl ?_)
        refine sx rfl (stp_move (v := .bool true) rfl ?_)
        iterate 3 refine sx_off (j := 60) (dd := 93) rfl rfl (by decide) (yl_off (e := true) rfl rfl) ?_
        iterate 8 refine sx_off rfl rfl (by decide) (yl_und rfl) ?_
        refine sx_off (j := 60) (dd := 93) rfl rfl (by decide) (yl_off (e := true) rfl rfl) ?_
        refine sx rfl (stp_pick_t (v := .bool true) rfl rfl ?_)
        refine sx_nil ?_
        refine sx_t rfl rfl ?_
        refine wp_seq ?_
        refine sx_region ?_
        refine sx rfl (stp_assign (v := .bool false) rfl ?_)
        refine sx_nil ?_
        refine wp_ret ?_; repeat (first | refine then_ret ?_ | refine blk_ret ?_)
        refine ret1 Tryd.results35 rfl ?_
        exact ⟨(congrArg (fun z => Ending.returned (.bool z)) (Eq.symm (by rw [deedOk_5 (.inr hk)]; simp [num0, h11p, h12p, h13p]))), st9.bare⟩
    · skip
      have h12p := of_decide_eq_false (bnot_t h12)
      iterate 3 refine sx_off (j := 38) (dd := 71) rfl rfl (by decide) (yl_off (e := !decide (d.task = 0)) rfl h12) ?_
      refine sx_on (j := 34) (dd := 67) rfl rfl (by decide) (yl_on (e := !decide (d.kind = 4)) rfl (congrArg not kf_4)) (stp_pick_t (v := .bool true) ((rfl : _ = (.bool (!decide (d.task = 0)) : Value)).trans (congrArg Value.bool h12)) rfl ?_)
      refine sx_on (j := 31) (dd := 64) rfl rfl (by decide) (yl_on (e := false) rfl rfl) (stp_pick_t (v := .bool true) ((rfl : _ = (.bool (!decide (d.kind = 4)) : Value)).trans (congrArg Value.bool (congrArg not kf_4))) rfl ?_)
      refine sx rfl (stp_pick_f (v := .bool true) rfl rfl ?_)
      refine sx rfl (stp_move (v := .bool true) rfl ?_)
      iterate 2 refine sx_off (j := 45) (dd := 78) rfl rfl (by decide) (yl_off (e := true) rfl rfl) ?_
      iterate 10 refine sx_off rfl rfl (by decide) (yl_und rfl) ?_
      refine sx_off (j := 45) (dd := 78) rfl rfl (by decide) (yl_off (e := true) rfl rfl) ?_
      refine sx rfl (stp_pick_t (v := .bool true) rfl rfl ?_)
      refine sx rfl (stp_move (v := .bool true) rfl ?_)
      iterate 3 refine sx_off (j := 60) (dd := 93) rfl rfl (by decide) (yl_off (e := true) rfl rfl) ?_
      iterate 8 refine sx_off rfl rfl (by decide) (yl_und rfl) ?_
      refine sx_off (j := 60) (dd := 93) rfl rfl (by decide) (yl_off (e := true) rfl rfl) ?_
      refine sx rfl (stp_pick_t (v := .bool true) rfl rfl ?_)
      refine sx_nil ?_
      refine sx_t rfl rfl ?_
      refine wp_seq ?_
      refine sx_region ?_
      refine sx rfl (stp_assign (v := .bool false) rfl ?_)
      refine sx_nil ?_
      refine wp_ret ?_; repeat (first | refine then_ret ?_ | refine blk_ret ?_)
      refine ret1 Tryd.results35 rfl ?_
      exact ⟨(congrArg (fun z => Ending.returned (.bool z)) (Eq.symm (by rw [deedOk_5 (.inr hk)]; simp [num0, h11p, h12p]))), st9.bare⟩
  · skip
    have h11p := of_decide_eq_false (bnot_t h11)
    iterate 2 refine sx_off (j := 16) (dd := 49) rfl rfl (by decide) (yl_off (e := !decide (d.run = 0)) rfl h11) ?_
    iterate 10 refine sx_off rfl rfl (by decide) (yl_und rfl) ?_
    refine sx_off (j := 16) (dd := 49) rfl rfl (by decide) (yl_off (e := !decide (d.run = 0)) rfl h11) ?_
    refine sx rfl (stp_pick_t (v := .bool true) ((rfl : _ = (.bool (!decide (d.run = 0)) : Value)).trans (congrArg Value.bool h11)) rfl ?_)
    refine sx rfl (stp_move (v := .bool true) rfl ?_)
    iterate 3 refine sx_off (j := 31) (dd := 64) rfl rfl (by decide) (yl_off (e := true) rfl rfl) ?_
    iterate 8 refine sx_off rfl rfl (by decide) (yl_und rfl) ?_
    refine sx_off (j := 31) (dd := 64) rfl rfl (by decide) (yl_off (e := true) rfl rfl) ?_
    refine sx rfl (stp_pick_t (v := .bool true) rfl rfl ?_)
    refine sx rfl (stp_move (v := .bool true) rfl ?_)
    iterate 2 refine sx_off (j := 45) (dd := 78) rfl rfl (by decide) (yl_off (e := true) rfl rfl) ?_
    iterate 10 refine sx_off rfl rfl (by decide) (yl_und rfl) ?_
    refine sx_off (j := 45) (dd := 78) rfl rfl (by decide) (yl_off (e := true) rfl rfl) ?_
    refine sx rfl (stp_pick_t (v := .bool true) rfl rfl ?_)
    refine sx rfl (stp_move (v := .bool true) rfl ?_)
    iterate 3 refine sx_off (j := 60) (dd := 93) rfl rfl (by decide) (yl_off (e := true) rfl rfl) ?_
    iterate 8 refine sx_off rfl rfl (by decide) (yl_und rfl) ?_
    refine sx_off (j := 60) (dd := 93) rfl rfl (by decide) (yl_off (e := true) rfl rfl) ?_
    refine sx rfl (stp_pick_t (v := .bool true) rfl rfl ?_)
    refine sx_nil ?_
    refine sx_t rfl rfl ?_
    refine wp_seq ?_
    refine sx_region ?_
    refine sx rfl (stp_assign (v := .bool false) rfl ?_)
    refine sx_nil ?_
    refine wp_ret ?_; repeat (first | refine then_ret ?_ | refine blk_ret ?_)
    refine ret1 Tryd.results35 rfl ?_
    exact ⟨(congrArg (fun z => Ending.returned (.bool z)) (Eq.symm (by rw [deedOk_5 (.inr hk)]; simp [num0, h11p]))), st9.bare⟩
theorem DeedOkS (w : World) {d : Deed} {cs : List Value} {fp : List Nat} (hc : Shape.C w cs d fp) :
    Calls Tryd.prog 35 #[.agg cs.toArray] w fun e w' => e = .returned (.bool (deedOk d)) ∧ St w w' [] := by
  cases hi : inB d.kind 1 8 with
  | false => exact DeedOkS_0 w hc hi
  | true =>
    rw [inB_iff'] at hi
    have hkk : d.kind = 1 ∨ d.kind = 2 ∨ d.kind = 3 ∨ d.kind = 4 ∨ d.kind = 5 ∨ d.kind = 6 ∨ d.kind = 7 ∨ d.kind = 8 := by omega
    rcases hkk with hk | hk | hk | hk | hk | hk | hk | hk
    · exact DeedOkS_1 w hc hk
    · exact DeedOkS_2 w hc hk
    · exact DeedOkS_3 w hc hk
    · exact DeedOkS_4 w hc hk
    · exact DeedOkS_5 w hc hk
    · exact DeedOkS_6 w hc hk
    · exact DeedOkS_7 w hc hk
    · exact DeedOkS_8 w hc hk
end Go.Proofs.YtchnllpegfbleaaDoor
