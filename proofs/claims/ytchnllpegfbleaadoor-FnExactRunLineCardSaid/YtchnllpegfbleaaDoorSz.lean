/-
  The laws' measures. (Printed by a program of this project's.)
-/
import Derived.Test.YtchnllpegfbleaaDoorSxStr
import Derived.Test.YtchnllpegfbleaaDoorKBase
namespace Go.Proofs.YtchnllpegfbleaaDoor
set_option linter.unusedSimpArgs false
set_option linter.unusedVariables false
set_option maxRecDepth 100000
open Go.RowKit

theorem szL_lt {l : Int} {n : Nat} (h : szL l n < 0) (hl : 0 ≤ l) : l < n := by
  unfold szL at h; split at h <;> omega
theorem szL_ge {l : Int} {n : Nat} (h : ¬ szL l n < 0) (hl : 0 ≤ l) : (n : Int) ≤ l ∧ szL l n = l - n := by
  unfold szL at *; split at h <;> simp_all <;> omega

set_option maxHeartbeats 2000000 in
theorem szEdgeS_n (w : World) {v : Value} {xs : List Edge} {fp : List Nat} (h : Sl w v xs fp) (l : Int) (hl : 0 ≤ l) (hl2 : l ≤ 1048576) :
    Calls Tryd.prog 49 #[v, I l] w fun e w' => e = .returned (I (szL l xs.length)) ∧ St w w' [] := by
  have hcap := h.len_le
  refine enter2 Tryd.func49 rfl Tryd.ntmps49 (by decide) ?_
  refine wp_seq ?_
  refine sx_region ?_
  refine sx rfl (stp_assign (v := I 0) rfl ?_)
  refine sx_nil ?_
  refine wp_seq ?_
  refine sx_region ?_
  refine sx rfl (stp_move (v := I l) rfl ?_)
  refine sx rfl (stp_move (v := v) rfl ?_)
  refine sx rfl (stp_len sl_EdgeSL rfl h ?_)
  refine sx rfl (stp_sub rfl rfl (by (simp only [I64] at *; omega)) ?_)
  refine sx rfl (stp_assign (v := I (l - (xs.length : Int))) rfl ?_)
  refine sx_nil ?_
  refine wp_seq ?_
  refine wp_seq ?_
  refine sx_region ?_
  refine sx rfl (stp_move (v := I (l - (xs.length : Int))) rfl ?_)
  refine sx rfl (stp_lss rfl rfl ?_)
  refine sx_nil ?_
  refine sx_if rfl (fun h1 => ?_) (fun h1 => ?_)
  · skip
    have h1p := of_decide_eq_true h1
    refine wp_seq ?_
    refine sx_region ?_
    refine sx rfl (stp_assign (v := I (-1)) rfl ?_)
    refine sx_nil ?_
    refine wp_ret ?_; repeat (first | refine then_ret ?_ | refine blk_ret ?_)
    refine ret1 Tryd.results49 rfl ?_
    exact ⟨congrArg (fun z => Ending.returned (I z)) (szL_t (by omega)).symm, (St.start w).bare⟩
  · skip
    have h1p := of_decide_eq_false h1
    refine wp_skip ?_
    refine wp_seq ?_
    refine sx_region ?_
    refine sx rfl (stp_move (v := I (l - (xs.length : Int))) rfl ?_)
    refine sx rfl (stp_assign (v := I (l - (xs.length : Int))) rfl ?_)
    refine sx_nil ?_
    refine wp_ret ?_; repeat (first | refine then_ret ?_ | refine blk_ret ?_)
    refine ret1 Tryd.results49 rfl ?_
    exact ⟨congrArg (fun z => Ending.returned (I z)) (by rw [szL_f (by omega)]; try omega), (St.start w).bare⟩
set_option maxHeartbeats 2000000 in
theorem szPlan_n (w : World) {x : Plan} {cs : List Value} {fp : List Nat} (hc : Shape.C w cs x fp) (l : Int) (hl : 0 ≤ l) (hl2 : l ≤ 1048576) :
    Calls Tryd.prog 26 #[.agg cs.toArray, I l] w fun e w' => e = .returned (I (szL l x.wt)) ∧ St w w' [] := by
  have hwt : x.wt = x.edges.length := rfl
  refine enter2 Tryd.func26 rfl Tryd.ntmps26 (by decide) ?_
  refine wp_seq ?_
  refine sx_region ?_
  refine sx rfl (stp_box_agg (cs := cs) rfl (St.start w) ?_); intro b1 W2 hb3 st4
  refine sx rfl (stp_assign (v := I 0) rfl ?_)
  refine sx_nil ?_
  refine wp_seq ?_
  refine sx_region ?_
  refine sx rfl (stp_fieldAddr fa_PlanL_4 rfl ?_)
  have hk6 := hc
  obtain ⟨v6_0, g6_0, rfl, hok6, h6_0, rfl⟩ := hk6
  refine sx rfl (stp_load_bx ld_EdgeSL rfl rfl (st4.get 0 rfl) (i := 4) rfl rfl ?_)
  refine sx rfl (stp_move (v := I l) rfl ?_)
  refine sx rfl (stp_call2 Tryd.func49 rfl rfl rfl ((szEdgeS_n W2 (h6_0.below st4.below) l (by omega) (by omega)).mono ?_)); rintro _ W7 ⟨rfl, hk8⟩; refine ⟨_, rfl, ?_⟩
  have st9 := St.call st4 hk8
  refine sx rfl (stp_assign (v := I (szL l x.edges.length)) rfl ?_)
  refine sx_nil ?_
  refine wp_seq ?_
  refine wp_seq ?_
  refine sx_region ?_
  refine sx rfl (stp_move (v := I (szL l x.edges.length)) rfl ?_)
  refine sx rfl (stp_lss rfl rfl ?_)
  refine sx_nil ?_
  refine sx_if rfl (fun h11 => ?_) (fun h11 => ?_)
  · skip
    have h11p := of_decide_eq_true h11
    have h11q := szL_lt h11p (by omega)
    refine wp_seq ?_
    refine sx_region ?_
    refine sx rfl (stp_assign (v := I (-1)) rfl ?_)
    refine sx_nil ?_
    refine wp_ret ?_; repeat (first | refine then_ret ?_ | refine blk_ret ?_)
    refine ret1 Tryd.results26 rfl ?_
    exact ⟨congrArg (fun z => Ending.returned (I z)) (szL_t (by omega)).symm, st9.bare⟩
  · skip
    have h11p := of_decide_eq_false h11
    have h11q := szL_ge h11p (by omega)
    refine wp_skip ?_
    refine wp_seq ?_
    refine sx_region ?_
    refine sx rfl (stp_move (v := I (szL l x.edges.length)) rfl ?_)
    refine sx rfl (stp_assign (v := I (szL l x.edges.length)) rfl ?_)
    refine sx_nil ?_
    refine wp_ret ?_; repeat (first | refine then_ret ?_ | refine blk_ret ?_)
    refine ret1 Tryd.results26 rfl ?_
    exact ⟨congrArg (fun z => Ending.returned (I z)) (by rw [szL_f (n := x.wt) (by omega)]; try omega), st9.bare⟩
set_option maxHeartbeats 2000000 in
theorem szTaskS_n (w : World) {v : Value} {xs : List Task} {fp : List Nat} (h : Sl w v xs fp) (l : Int) (hl : 0 ≤ l) (hl2 : l ≤ 1048576) :
    Calls Tryd.prog 27 #[v, I l] w fun e w' => e = .returned (I (szL l xs.length)) ∧ St w w' [] := by
  have hcap := h.len_le
  refine enter2 Tryd.func27 rfl Tryd.ntmps27 (by decide) ?_
  refine wp_seq ?_
  refine sx_region ?_
  refine sx rfl (stp_assign (v := I 0) rfl ?_)
  refine sx_nil ?_
  refine wp_seq ?_
  refine sx_region ?_
  refine sx rfl (stp_move (v := I l) rfl ?_)
  refine sx rfl (stp_move (v := v) rfl ?_)
  refine sx rfl (stp_len sl_TaskSL rfl h ?_)
  refine sx rfl (stp_sub rfl rfl (by (simp only [I64] at *; omega)) ?_)
  refine sx rfl (stp_assign (v := I (l - (xs.length : Int))) rfl ?_)
  refine sx_nil ?_
  refine wp_seq ?_
  refine wp_seq ?_
  refine sx_region ?_
  refine sx rfl (stp_move (v := I (l - (xs.length : Int))) rfl ?_)
  refine sx rfl (stp_lss rfl rfl ?_)
  refine sx_nil ?_
  refine sx_if rfl (fun h1 => ?_) (fun h1 => ?_)
  · skip
    have h1p := of_decide_eq_true h1
    refine wp_seq ?_
    refine sx_region ?_
    refine sx rfl (stp_assign (v := I (-1)) rfl ?_)
    refine sx_nil ?_
    refine wp_ret ?_; repeat (first | refine then_ret ?_ | refine blk_ret ?_)
    refine ret1 Tryd.results27 rfl ?_
    exact ⟨congrArg (fun z => Ending.returned (I z)) (szL_t (by omega)).symm, (St.start w).bare⟩
  · skip
    have h1p := of_decide_eq_false h1
    refine wp_skip ?_
    refine wp_seq ?_
    refine sx_region ?_
    refine sx rfl (stp_move (v := I (l - (xs.length : Int))) rfl ?_)
    refine sx rfl (stp_assign (v := I (l - (xs.length : Int))) rfl ?_)
    refine sx_nil ?_
    refine wp_ret ?_; repeat (first | refine then_ret ?_ | refine blk_ret ?_)
    refine ret1 Tryd.results27 rfl ?_
    exact ⟨congrArg (fun z => Ending.returned (I z)) (by rw [szL_f (by omega)]; try omega), (St.start w).bare⟩
set_option maxHeartbeats 2000000 in
theorem szRun_n (w : World) {x : Run} {cs : List Value} {fp : List Nat} (hc : Shape.C w cs x fp) (l : Int) (hl : 0 ≤ l) (hl2 : l ≤ 1048576) :
    Calls Tryd.prog 10 #[.agg cs.toArray, I l] w fun e w' => e = .returned (I (szL l x.wt)) ∧ St w w' [] := by
  have hwt : x.wt = x.plan.wt + x.tasks.length := rfl
  refine enter2 Tryd.func10 rfl Tryd.ntmps10 (by decide) ?_
  refine wp_seq ?_
  refine sx_region ?_
  refine sx rfl (stp_box_agg (cs := cs) rfl (St.start w) ?_); intro b1 W2 hb3 st4
  refine sx rfl (stp_assign (v := I 0) rfl ?_)
  refine sx_nil ?_
  refine wp_seq ?_
  refine sx_region ?_
  refine sx rfl (stp_fieldAddr fa_RunL_1 rfl ?_)
  have hk6 := hc
  obtain ⟨v6_0, v6_1, g6_0, g6_1, rfl, hok6, h6_0, h6_1, rfl⟩ := hk6
  refine sx rfl (stp_load_bxs (cs := [I x.plan.prio, I x.plan.most, I x.plan.wait, I x.plan.tasks, v6_0]) ld_PlanL rfl rfl (st4.get 0 rfl) rfl rfl ?_)
  refine sx rfl (stp_move (v := I l) rfl ?_)
  refine sx rfl (stp_call2 Tryd.func26 rfl rfl rfl ((szPlan_n W2 (show Shape.C _ [I x.plan.prio, I x.plan.most, I x.plan.wait, I x.plan.tasks, v6_0] x.plan _ from ⟨_, _, rfl, (by first | exact True.intro | (simp only [Edge.ok, Plan.ok, Entry.ok, Task.ok, Run.ok, Yard.ok, Reply.ok, Deed.ok, Note.ok, Wait.ok, File.ok, Disk.ok, Engine.ok, WorldD.ok, ActD.ok, Hand.ok, Span.ok, Crew.ok, View.ok, I64] at *; omega)), (h6_0.below st4.below), rfl⟩) l (by omega) (by omega)).mono ?_)); rintro _ W7 ⟨rfl, hk8⟩; refine ⟨_, rfl, ?_⟩
  have st9 := St.call st4 hk8
  refine sx rfl (stp_assign (v := I (szL l x.plan.wt)) rfl ?_)
  refine sx_nil ?_
  refine wp_seq ?_
  refine wp_seq ?_
  refine sx_region ?_
  refine sx rfl (stp_move (v := I (szL l x.plan.wt)) rfl ?_)
  refine sx rfl (stp_lss rfl rfl ?_)
  refine sx_nil ?_
  refine sx_if rfl (fun h11 => ?_) (fun h11 => ?_)
  · skip
    have h11p := of_decide_eq_true h11
    have h11q := szL_lt h11p (by omega)
    refine wp_seq ?_
    refine sx_region ?_
    refine sx rfl (stp_assign (v := I (-1)) rfl ?_)
    refine sx_nil ?_
    refine wp_ret ?_; repeat (first | refine then_ret ?_ | refine blk_ret ?_)
    refine ret1 Tryd.results10 rfl ?_
    exact ⟨congrArg (fun z => Ending.returned (I z)) (szL_t (by omega)).symm, st9.bare⟩
  · skip
    have h11p := of_decide_eq_false h11
    have h11q := szL_ge h11p (by omega)
    refine wp_skip ?_
    refine wp_seq ?_
    refine sx_region ?_
    refine sx rfl (stp_fieldAddr fa_RunL_3 rfl ?_)
    refine sx rfl (stp_load_bx ld_TaskSL rfl rfl (st9.get 0 rfl) (i := 7) rfl rfl ?_)
    refine sx rfl (stp_move (v := I (szL l x.plan.wt)) rfl ?_)
    refine sx rfl (stp_call2 Tryd.func27 rfl rfl rfl ((szTaskS_n W7 (h6_1.below st9.below) (szL l x.plan.wt) (by omega) (by omega)).mono ?_)); rintro _ W12 ⟨rfl, hk13⟩; refine ⟨_, rfl, ?_⟩
    have st14 := St.call st9 hk13
    refine sx rfl (stp_assign (v := I (szL (szL l x.plan.wt) x.tasks.length)) rfl ?_)
    refine sx_nil ?_
    refine wp_seq ?_
    refine wp_seq ?_
    refine sx_region ?_
    refine sx rfl (stp_move (v := I (szL (szL l x.plan.wt) x.tasks.length)) rfl ?_)
    refine sx rfl (stp_lss rfl rfl ?_)
    refine sx_nil ?_
    refine sx_if rfl (fun h16 => ?_) (fun h16 => ?_)
    · skip
      have h16p := of_decide_eq_true h16
      have h16q := szL_lt h16p (by omega)
      refine wp_seq ?_
      refine sx_region ?_
      refine sx rfl (stp_assign (v := I (-1)) rfl ?_)
      refine sx_nil ?_
      refine wp_ret ?_; repeat (first | refine then_ret ?_ | refine blk_ret ?_)
      refine ret1 Tryd.results10 rfl ?_
      exact ⟨congrArg (fun z => Ending.returned (I z)) (szL_t (by omega)).symm, st14.bare⟩
    · skip
      have h16p := of_decide_eq_false h16
      have h16q := szL_ge h16p (by omega)
      refine wp_skip ?_
      refine wp_seq ?_
      refine sx_region ?_
      refine sx rfl (stp_move (v := I (szL (szL l x.plan.wt) x.tasks.length)) rfl ?_)
      refine sx rfl (stp_assign (v := I (szL (szL l x.plan.wt) x.tasks.length)) rfl ?_)
      refine sx_nil ?_
      refine wp_ret ?_; repeat (first | refine then_ret ?_ | refine blk_ret ?_)
      refine ret1 Tryd.results10 rfl ?_
      exact ⟨congrArg (fun z => Ending.returned (I z)) (by rw [szL_f (n := x.wt) (by omega)]; try omega), st14.bare⟩
set_option maxHeartbeats 2000000 in
theorem szDeed_n (w : World) {x : Deed} {cs : List Value} {fp : List Nat} (hc : Shape.C w cs x fp) (l : Int) (hl : 0 ≤ l) (hl2 : l ≤ 1048576) :
    Calls Tryd.prog 15 #[.agg cs.toArray, I l] w fun e w' => e = .returned (I (szL l x.wt)) ∧ St w w' [] := by
  have hwt : x.wt = x.plan.wt := rfl
  refine enter2 Tryd.func15 rfl Tryd.ntmps15 (by decide) ?_
  refine wp_seq ?_
  refine sx_region ?_
  refine sx rfl (stp_box_agg (cs := cs) rfl (St.start w) ?_); intro b1 W2 hb3 st4
  refine sx rfl (stp_assign (v := I 0) rfl ?_)
  refine sx_nil ?_
  refine wp_seq ?_
  refine sx_region ?_
  refine sx rfl (stp_fieldAddr fa_DeedL_2 rfl ?_)
  have hk6 := hc
  obtain ⟨v6_0, g6_0, rfl, hok6, h6_0, rfl⟩ := hk6
  refine sx rfl (stp_load_bxs (cs := [I x.plan.prio, I x.plan.most, I x.plan.wait, I x.plan.tasks, v6_0]) ld_PlanL rfl rfl (st4.get 0 rfl) rfl rfl ?_)
  refine sx rfl (stp_move (v := I l) rfl ?_)
  refine sx rfl (stp_call2 Tryd.func26 rfl rfl rfl ((szPlan_n W2 (show Shape.C _ [I x.plan.prio, I x.plan.most, I x.plan.wait, I x.plan.tasks, v6_0] x.plan _ from ⟨_, _, rfl, (by first | exact True.intro | (simp only [Edge.ok, Plan.ok, Entry.ok, Task.ok, Run.ok, Yard.ok, Reply.ok, Deed.ok, Note.ok, Wait.ok, File.ok, Disk.ok, Engine.ok, WorldD.ok, ActD.ok, Hand.ok, Span.ok, Crew.ok, View.ok, I64] at *; omega)), (h6_0.below st4.below), rfl⟩) l (by omega) (by omega)).mono ?_)); rintro _ W7 ⟨rfl, hk8⟩; refine ⟨_, rfl, ?_⟩
  have st9 := St.call st4 hk8
  refine sx rfl (stp_assign (v := I (szL l x.plan.wt)) rfl ?_)
  refine sx_nil ?_
  refine wp_seq ?_
  refine wp_seq ?_
  refine sx_region ?_
  refine sx rfl (stp_move (v := I (szL l x.plan.wt)) rfl ?_)
  refine sx rfl (stp_lss rfl rfl ?_)
  refine sx_nil ?_
  refine sx_if rfl (fun h11 => ?_) (fun h11 => ?_)
  · skip
    have h11p := of_decide_eq_true h11
    have h11q := szL_lt h11p (by omega)
    refine wp_seq ?_
    refine sx_region ?_
    refine sx rfl (stp_assign (v := I (-1)) rfl ?_)
    refine sx_nil ?_
    refine wp_ret ?_; repeat (first | refine then_ret ?_ | refine blk_ret ?_)
    refine ret1 Tryd.results15 rfl ?_
    exact ⟨congrArg (fun z => Ending.returned (I z)) (szL_t (by omega)).symm, st9.bare⟩
  · skip
    have h11p := of_decide_eq_false h11
    have h11q := szL_ge h11p (by omega)
    refine wp_skip ?_
    refine wp_seq ?_
    refine sx_region ?_
    refine sx rfl (stp_move (v := I (szL l x.plan.wt)) rfl ?_)
    refine sx rfl (stp_assign (v := I (szL l x.plan.wt)) rfl ?_)
    refine sx_nil ?_
    refine wp_ret ?_; repeat (first | refine then_ret ?_ | refine blk_ret ?_)
    refine ret1 Tryd.results15 rfl ?_
    exact ⟨congrArg (fun z => Ending.returned (I z)) (by rw [szL_f (n := x.wt) (by omega)]; try omega), st9.bare⟩
end Go.Proofs.YtchnllpegfbleaaDoor
