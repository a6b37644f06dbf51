/-
  The laws' measures. (Printed by a program of this project's.)
-/
import Derived.Test.YtchnllpegfbleaaGreatSxStr
import Derived.Test.YtchnllpegfbleaaGreatKBase
namespace Go.Proofs.YtchnllpegfbleaaGreat
set_option linter.unusedSimpArgs false
set_option linter.unusedVariables false
set_option maxRecDepth 100000
open Go.RowKit

theorem szL_lt {l : Int} {n : Nat} (h : szL l n < 0) (hl : 0 ≤ l) : l < n := by
  unfold szL at h; split at h <;> omega
theorem szL_ge {l : Int} {n : Nat} (h : ¬ szL l n < 0) (hl : 0 ≤ l) : (n : Int) ≤ l ∧ szL l n = l - n := by
  unfold szL at *; split at h <;> simp_all <;> omega

set_option maxHeartbeats 2000000 in
theorem szEdgeS_n (w : World) {v : Value} {xs : List Edge} {fp : List Nat} (h : Sl w v xs fp) (l : Int) (hl : 0 ≤ l) (hl2 : l ≤ 1048576) :
    Calls Tryz.prog 218 #[v, I l] w fun e w' => e = .returned (I (szL l xs.length)) ∧ St w w' [] := by
  have hcap := h.len_le
  refine enter2 Tryz.func218 rfl Tryz.ntmps218 (by decide) ?_
  refine wp_seq ?_
  refine sx_region ?_
  refine sx rfl (stp_assign (v := I 0) rfl ?_)
  refine sx_nil ?_
  refine wp_seq ?_
  refine sx_region ?_
  refine sx rfl (stp_move (v := I l) rfl ?_)
  refine sx rfl (stp_move (v := v) rfl ?_)
  refine sx rfl (stp_len sl_EdgeSL rfl h ?_)
  refine sx rfl (stp_sub rfl rfl (by (simp only [I64] at *; omega)) ?_)
  refine sx rfl (stp_assign (v := I (l - (xs.length : Int))) rfl ?_)
  refine sx_nil ?_
  refine wp_seq ?_
  refine wp_seq ?_
  refine sx_region ?_
  refine sx rfl (stp_move (v := I (l - (xs.length : Int))) rfl ?_)
  refine sx rfl (stp_lss rfl rfl ?_)
  refine sx_nil ?_
  refine sx_if rfl (fun h1 => ?_) (fun h1 => ?_)
  · skip
    have h1p := of_decide_eq_true h1
    refine wp_seq ?_
    refine sx_region ?_
    refine sx rfl (stp_assign (v := I (-1)) rfl ?_)
    refine sx_nil ?_
    refine wp_ret ?_; repeat (first | refine then_ret ?_ | refine blk_ret ?_)
    refine ret1 Tryz.results218 rfl ?_
    exact ⟨congrArg (fun z => Ending.returned (I z)) (szL_t (by omega)).symm, (St.start w).bare⟩
  · skip
    have h1p := of_decide_eq_false h1
    refine wp_skip ?_
    refine wp_seq ?_
    refine sx_region ?_
    refine sx rfl (stp_move (v := I (l - (xs.length : Int))) rfl ?_)
    refine sx rfl (stp_assign (v := I (l - (xs.length : Int))) rfl ?_)
    refine sx_nil ?_
    refine wp_ret ?_; repeat (first | refine then_ret ?_ | refine blk_ret ?_)
    refine ret1 Tryz.results218 rfl ?_
    exact ⟨congrArg (fun z => Ending.returned (I z)) (by rw [szL_f (by omega)]; try omega), (St.start w).bare⟩
set_option maxHeartbeats 2000000 in
theorem szPlan_n (w : World) {x : Plan} {cs : List Value} {fp : List Nat} (hc : Shape.C w cs x fp) (l : Int) (hl : 0 ≤ l) (hl2 : l ≤ 1048576) :
    Calls Tryz.prog 166 #[.agg cs.toArray, I l] w fun e w' => e = .returned (I (szL l x.wt)) ∧ St w w' [] := by
  have hwt : x.wt = x.edges.length := rfl
  refine enter2 Tryz.func166 rfl Tryz.ntmps166 (by decide) ?_
  refine wp_seq ?_
  refine sx_region ?_
  refine sx rfl (stp_box_agg (cs := cs) rfl (St.start w) ?_); intro b1 W2 hb3 st4
  refine sx rfl (stp_assign (v := I 0) rfl ?_)
  refine sx_nil ?_
  refine wp_seq ?_
  refine sx_region ?_
  refine sx rfl (stp_fieldAddr fa_PlanL_4 rfl ?_)
  have hk6 := hc
  obtain ⟨v6_0, g6_0, rfl, hok6, h6_0, rfl⟩ := hk6
  refine sx rfl (stp_load_bx ld_EdgeSL rfl rfl (st4.get 0 rfl) (i := 4) rfl rfl ?_)
  refine sx rfl (stp_move (v := I l) rfl ?_)
  refine sx rfl (stp_call2 Tryz.func218 rfl rfl rfl ((szEdgeS_n W2 (h6_0.below st4.below) l (by omega) (by omega)).mono ?_)); rintro _ W7 ⟨rfl, hk8⟩; refine ⟨_, rfl, ?_⟩
  have st9 := St.call st4 hk8
  refine sx rfl (stp_assign (v := I (szL l x.edges.length)) rfl ?_)
  refine sx_nil ?_
  refine wp_seq ?_
  refine wp_seq ?_
  refine sx_region ?_
  refine sx rfl (stp_move (v := I (szL l x.edges.length)) rfl ?_)
  refine sx rfl (stp_lss rfl rfl ?_)
  refine sx_nil ?_
  refine sx_if rfl (fun h11 => ?_) (fun h11 => ?_)
  · skip
    have h11p := of_decide_eq_true h11
    have h11q := szL_lt h11p (by omega)
    refine wp_seq ?_
    refine sx_region ?_
    refine sx rfl (stp_assign (v := I (-1)) rfl ?_)
    refine sx_nil ?_
    refine wp_ret ?_; repeat (first | refine then_ret ?_ | refine blk_ret ?_)
    refine ret1 Tryz.results166 rfl ?_
    exact ⟨congrArg (fun z => Ending.returned (I z)) (szL_t (by omega)).symm, st9.bare⟩
  · skip
    have h11p := of_decide_eq_false h11
    have h11q := szL_ge h11p (by omega)
    refine wp_skip ?_
    refine wp_seq ?_
    refine sx_region ?_
    refine sx rfl (stp_move (v := I (szL l x.edges.length)) rfl ?_)
    refine sx rfl (stp_assign (v := I (szL l x.edges.length)) rfl ?_)
    refine sx_nil ?_
    refine wp_ret ?_; repeat (first | refine then_ret ?_ | refine blk_ret ?_)
    refine ret1 Tryz.results166 rfl ?_
    exact ⟨congrArg (fun z => Ending.returned (I z)) (by rw [szL_f (n := x.wt) (by omega)]; try omega), st9.bare⟩
set_option maxHeartbeats 2000000 in
theorem szEntryS_n (w : World) {v : Value} {xs : List Entry} {fp : List Nat} (h : Sl w v xs fp) (l : Int) (hl : 0 ≤ l) (hl2 : l ≤ 1048576) :
    Calls Tryz.prog 102 #[v, I l] w fun e w' => e = .returned (I (szL l xs.length)) ∧ St w w' [] := by
  have hcap := h.len_le
  refine enter2 Tryz.func102 rfl Tryz.ntmps102 (by decide) ?_
  refine wp_seq ?_
  refine sx_region ?_
  refine sx rfl (stp_assign (v := I 0) rfl ?_)
  refine sx_nil ?_
  refine wp_seq ?_
  refine sx_region ?_
  refine sx rfl (stp_move (v := I l) rfl ?_)
  refine sx rfl (stp_move (v := v) rfl ?_)
  refine sx rfl (stp_len sl_EntrySL rfl h ?_)
  refine sx rfl (stp_sub rfl rfl (by (simp only [I64] at *; omega)) ?_)
  refine sx rfl (stp_assign (v := I (l - (xs.length : Int))) rfl ?_)
  refine sx_nil ?_
  refine wp_seq ?_
  refine wp_seq ?_
  refine sx_region ?_
  refine sx rfl (stp_move (v := I (l - (xs.length : Int))) rfl ?_)
  refine sx rfl (stp_lss rfl rfl ?_)
  refine sx_nil ?_
  refine sx_if rfl (fun h1 => ?_) (fun h1 => ?_)
  · skip
    have h1p := of_decide_eq_true h1
    refine wp_seq ?_
    refine sx_region ?_
    refine sx rfl (stp_assign (v := I (-1)) rfl ?_)
    refine sx_nil ?_
    refine wp_ret ?_; repeat (first | refine then_ret ?_ | refine blk_ret ?_)
    refine ret1 Tryz.results102 rfl ?_
    exact ⟨congrArg (fun z => Ending.returned (I z)) (szL_t (by omega)).symm, (St.start w).bare⟩
  · skip
    have h1p := of_decide_eq_false h1
    refine wp_skip ?_
    refine wp_seq ?_
    refine sx_region ?_
    refine sx rfl (stp_move (v := I (l - (xs.length : Int))) rfl ?_)
    refine sx rfl (stp_assign (v := I (l - (xs.length : Int))) rfl ?_)
    refine sx_nil ?_
    refine wp_ret ?_; repeat (first | refine then_ret ?_ | refine blk_ret ?_)
    refine ret1 Tryz.results102 rfl ?_
    exact ⟨congrArg (fun z => Ending.returned (I z)) (by rw [szL_f (by omega)]; try omega), (St.start w).bare⟩
set_option maxHeartbeats 2000000 in
theorem szTaskS_n (w : World) {v : Value} {xs : List Task} {fp : List Nat} (h : Sl w v xs fp) (l : Int) (hl : 0 ≤ l) (hl2 : l ≤ 1048576) :
    Calls Tryz.prog 167 #[v, I l] w fun e w' => e = .returned (I (szL l xs.length)) ∧ St w w' [] := by
  have hcap := h.len_le
  refine enter2 Tryz.func167 rfl Tryz.ntmps167 (by decide) ?_
  refine wp_seq ?_
  refine sx_region ?_
  refine sx rfl (stp_assign (v := I 0) rfl ?_)
  refine sx_nil ?_
  refine wp_seq ?_
  refine sx_region ?_
  refine sx rfl (stp_move (v := I l) rfl ?_)
  refine sx rfl (stp_move (v := v) rfl ?_)
  refine sx rfl (stp_len sl_TaskSL rfl h ?_)
  refine sx rfl (stp_sub rfl rfl (by (simp only [I64] at *; omega)) ?_)
  refine sx rfl (stp_assign (v := I (l - (xs.length : Int))) rfl ?_)
  refine sx_nil ?_
  refine wp_seq ?_
  refine wp_seq ?_
  refine sx_region ?_
  refine sx rfl (stp_move (v := I (l - (xs.length : Int))) rfl ?_)
  refine sx rfl (stp_lss rfl rfl ?_)
  refine sx_nil ?_
  refine sx_if rfl (fun h1 => ?_) (fun h1 => ?_)
  · skip
    have h1p := of_decide_eq_true h1
    refine wp_seq ?_
    refine sx_region ?_
    refine sx rfl (stp_assign (v := I (-1)) rfl ?_)
    refine sx_nil ?_
    refine wp_ret ?_; repeat (first | refine then_ret ?_ | refine blk_ret ?_)
    refine ret1 Tryz.results167 rfl ?_
    exact ⟨congrArg (fun z => Ending.returned (I z)) (szL_t (by omega)).symm, (St.start w).bare⟩
  · skip
    have h1p := of_decide_eq_false h1
    refine wp_skip ?_
    refine wp_seq ?_
    refine sx_region ?_
    refine sx rfl (stp_move (v := I (l - (xs.length : Int))) rfl ?_)
    refine sx rfl (stp_assign (v := I (l - (xs.length : Int))) rfl ?_)
    refine sx_nil ?_
    refine wp_ret ?_; repeat (first | refine then_ret ?_ | refine blk_ret ?_)
    refine ret1 Tryz.results167 rfl ?_
    exact ⟨congrArg (fun z => Ending.returned (I z)) (by rw [szL_f (by omega)]; try omega), (St.start w).bare⟩
set_option maxHeartbeats 2000000 in
theorem szRun_n (w : World) {x : Run} {cs : List Value} {fp : List Nat} (hc : Shape.C w cs x fp) (l : Int) (hl : 0 ≤ l) (hl2 : l ≤ 1048576) :
    Calls Tryz.prog 103 #[.agg cs.toArray, I l] w fun e w' => e = .returned (I (szL l x.wt)) ∧ St w w' [] := by
  have hwt : x.wt = x.plan.wt + x.tasks.length := rfl
  refine enter2 Tryz.func103 rfl Tryz.ntmps103 (by decide) ?_
  refine wp_seq ?_
  refine sx_region ?_
  refine sx rfl (stp_box_agg (cs := cs) rfl (St.start w) ?_); intro b1 W2 hb3 st4
  refine sx rfl (stp_assign (v := I 0) rfl ?_)
  refine sx_nil ?_
  refine wp_seq ?_
  refine sx_region ?_
  refine sx rfl (stp_fieldAddr fa_RunL_1 rfl ?_)
  have hk6 := hc
  obtain ⟨v6_0, v6_1, g6_0, g6_1, rfl, hok6, h6_0, h6_1, rfl⟩ := hk6
  refine sx rfl (stp_load_bxs (cs := [I x.plan.prio, I x.plan.most, I x.plan.wait, I x.plan.tasks, v6_0]) ld_PlanL rfl rfl (st4.get 0 rfl) rfl rfl ?_)
  refine sx rfl (stp_move (v := I l) rfl ?_)
  refine sx rfl (stp_call2 Tryz.func166 rfl rfl rfl ((szPlan_n W2 (show Shape.C _ [I x.plan.prio, I x.plan.most, I x.plan.wait, I x.plan.tasks, v6_0] x.plan _ from ⟨_, _, rfl, (by first | exact True.intro | (simp only [Edge.ok, Plan.ok, Entry.ok, Task.ok, Run.ok, Yard.ok, Reply.ok, Deed.ok, Note.ok, Wait.ok, File.ok, Disk.ok, Engine.ok, WorldD.ok, ActD.ok, Hand.ok, Span.ok, Crew.ok, View.ok, I64] at *; omega)), (h6_0.below st4.below), rfl⟩) l (by omega) (by omega)).mono ?_)); rintro _ W7 ⟨rfl, hk8⟩; refine ⟨_, rfl, ?_⟩
  have st9 := St.call st4 hk8
  refine sx rfl (stp_assign (v := I (szL l x.plan.wt)) rfl ?_)
  refine sx_nil ?_
  refine wp_seq ?_
  refine wp_seq ?_
  refine sx_region ?_
  refine sx rfl (stp_move (v := I (szL l x.plan.wt)) rfl ?_)
  refine sx rfl (stp_lss rfl rfl ?_)
  refine sx_nil ?_
  refine sx_if rfl (fun h11 => ?_) (fun h11 => ?_)
  · skip
    have h11p := of_decide_eq_true h11
    have h11q := szL_lt h11p (by omega)
    refine wp_seq ?_
    refine sx_region ?_
    refine sx rfl (stp_assign (v := I (-1)) rfl ?_)
    refine sx_nil ?_
    refine wp_ret ?_; repeat (first | refine then_ret ?_ | refine blk_ret ?_)
    refine ret1 Tryz.results103 rfl ?_
    exact ⟨congrArg (fun z => Ending.returned (I z)) (szL_t (by omega)).symm, st9.bare⟩
  · skip
    have h11p := of_decide_eq_false h11
    have h11q := szL_ge h11p (by omega)
    refine wp_skip ?_
    refine wp_seq ?_
    refine sx_region ?_
    refine sx rfl (stp_fieldAddr fa_RunL_3 rfl ?_)
    refine sx rfl (stp_load_bx ld_TaskSL rfl rfl (st9.get 0 rfl) (i := 7) rfl rfl ?_)
    refine sx rfl (stp_move (v := I (szL l x.plan.wt)) rfl ?_)
    refine sx rfl (stp_call2 Tryz.func167 rfl rfl rfl ((szTaskS_n W7 (h6_1.below st9.below) (szL l x.plan.wt) (by omega) (by omega)).mono ?_)); rintro _ W12 ⟨rfl, hk13⟩; refine ⟨_, rfl, ?_⟩
    have st14 := St.call st9 hk13
    refine sx rfl (stp_assign (v := I (szL (szL l x.plan.wt) x.tasks.length)) rfl ?_)
    refine sx_nil ?_
    refine wp_seq ?_
    refine wp_seq ?_
    refine sx_region ?_
    refine sx rfl (stp_move (v := I (szL (szL l x.plan.wt) x.tasks.length)) rfl ?_)
    refine sx rfl (stp_lss rfl rfl ?_)
    refine sx_nil ?_
    refine sx_if rfl (fun h16 => ?_) (fun h16 => ?_)
    · skip
      have h16p := of_decide_eq_true h16
      have h16q := szL_lt h16p (by omega)
      refine wp_seq ?_
      refine sx_region ?_
      refine sx rfl (stp_assign (v := I (-1)) rfl ?_)
      refine sx_nil ?_
      refine wp_ret ?_; repeat (first | refine then_ret ?_ | refine blk_ret ?_)
      refine ret1 Tryz.results103 rfl ?_
      exact ⟨congrArg (fun z => Ending.returned (I z)) (szL_t (by omega)).symm, st14.bare⟩
    · skip
      have h16p := of_decide_eq_false h16
      have h16q := szL_ge h16p (by omega)
      refine wp_skip ?_
      refine wp_seq ?_
      refine sx_region ?_
      refine sx rfl (stp_move (v := I (szL (szL l x.plan.wt) x.tasks.length)) rfl ?_)
      refine sx rfl (stp_assign (v := I (szL (szL l x.plan.wt) x.tasks.length)) rfl ?_)
      refine sx_nil ?_
      refine wp_ret ?_; repeat (first | refine then_ret ?_ | refine blk_ret ?_)
      refine ret1 Tryz.results103 rfl ?_
      exact ⟨congrArg (fun z => Ending.returned (I z)) (by rw [szL_f (n := x.wt) (by omega)]; try omega), st14.bare⟩
set_option maxHeartbeats 2000000 in
theorem szRunS_n (w : World) {v : Value} {xs : List Run} {fp : List Nat} (h : Sl w v xs fp) (l : Int) (hl : 0 ≤ l) (hl2 : l ≤ 1048576) :
    Calls Tryz.prog 50 #[v, I l] w fun e w' => e = .returned (I (szL l (wtL (fun y : Run => y.wt) xs))) ∧ St w w' [] := by
  have hcap := h.len_le
  have hwt : wtL (fun y : Run => y.wt) xs = xs.length + (xs.map (fun y : Run => y.wt)).sum := rfl
  refine enter2 Tryz.func50 rfl Tryz.ntmps50 (by decide) ?_
  refine wp_seq ?_
  refine sx_region ?_
  refine sx rfl (stp_assign (v := I 0) rfl ?_)
  refine sx_nil ?_
  refine wp_seq ?_
  refine sx_region ?_
  refine sx rfl (stp_move (v := I l) rfl ?_)
  refine sx rfl (stp_move (v := v) rfl ?_)
  refine sx rfl (stp_len sl_RunSL rfl h ?_)
  refine sx rfl (stp_sub rfl rfl (by (simp only [I64] at *; omega)) ?_)
  refine sx rfl (stp_assign (v := I (l - (xs.length : Int))) rfl ?_)
  refine sx_nil ?_
  refine wp_seq ?_
  refine wp_seq ?_
  refine sx_region ?_
  refine sx rfl (stp_move (v := I (l - (xs.length : Int))) rfl ?_)
  refine sx rfl (stp_lss rfl rfl ?_)
  refine sx_nil ?_
  refine sx_if rfl (fun h1 => ?_) (fun h1 => ?_)
  · skip
    have h1p := of_decide_eq_true h1
    refine wp_seq ?_
    refine sx_region ?_
    refine sx rfl (stp_assign (v := I (-1)) rfl ?_)
    refine sx_nil ?_
    refine wp_ret ?_; repeat (first | refine then_ret ?_ | refine blk_ret ?_)
    refine ret1 Tryz.results50 rfl ?_
    exact ⟨congrArg (fun z => Ending.returned (I z)) (szL_t (by omega)).symm, (St.start w).bare⟩
  · skip
    have h1p := of_decide_eq_false h1
    refine wp_skip ?_
    refine wp_seq ?_
    refine wp_seq ?_
    refine sx_region ?_
    refine sx rfl (stp_assign (v := I 0) rfl ?_)
    refine sx_nil ?_
    refine wp_block ?_
    refine sx_loop (fun (m : Nat) (f : Nat → Value) (W : World) => ∃ (k : Nat), k ≤ xs.length ∧ 0 ≤ l - (xs.length : Int) - (((xs.take k).map (fun y : Run => y.wt)).sum : Nat) ∧ m = xs.length - k ∧ f 0 = v ∧ f 1 = I (l - (xs.length : Int) - (((xs.take k).map (fun y : Run => y.wt)).sum : Nat)) ∧ f 5 = I (k : Int) ∧ St w W ([])) (xs.length - 0) ?_ ?_
    · exact ⟨0, Nat.zero_le _, (by simp; omega), rfl, rfl, (Eq.trans (show _ = I (l - (xs.length : Int)) from rfl) (show I (l - (xs.length : Int)) = I (l - (xs.length : Int) - (((xs.take 0).map (fun y : Run => y.wt)).sum : Nat)) from congrArg I (by simp))), rfl, (St.start w)⟩
    intro m2 f3 W4 hJ5
    obtain ⟨k, hcd7_0, hcd7_1, rfl, hs7_0, hs7_1, hs7_5, st6⟩ := hJ5
    refine wp_seq ?_
    refine wp_seq ?_
    refine sx_region ?_
    refine sx rfl (stp_move (v := I (k : Int)) hs7_5 ?_)
    refine sx rfl (stp_move (v := v) hs7_0 ?_)
    refine sx rfl (stp_len sl_RunSL rfl h ?_)
    refine sx rfl (stp_lss rfl rfl ?_)
    refine sx_nil ?_
    refine sx_if rfl (fun h8 => ?_) (fun h8 => ?_)
    · skip
      have h8p := of_decide_eq_true h8
      refine wp_skip ?_
      refine wp_seq ?_
      refine wp_block ?_
      refine wp_seq ?_
      refine sx_region ?_
      refine sx rfl (stp_move (v := v) hs7_0 ?_)
      refine sx rfl (stp_move (v := I (k : Int)) hs7_5 ?_)
      have hi51fab : k < xs.length := (by omega)
      have hq_ := idx h (i := k) hi51fab
      obtain ⟨b9, o9, cs9, f9, hp9, hr9, hc9, hm9⟩ := hq_
      refine sx rfl (stp_indexAddr sl_RunSL rfl hp9 rfl rfl ?_)
      refine sx rfl (stp_load_rga ld_RunL rfl rfl hr9 st6.below (Shape.len hc9) ?_)
      refine sx rfl (stp_move (v := I (l - (xs.length : Int) - (((xs.take k).map (fun y : Run => y.wt)).sum : Nat))) hs7_1 ?_)
      have hstep : ((xs.take (k + 1)).map (fun y : Run => y.wt)).sum = ((xs.take k).map (fun y : Run => y.wt)).sum + xs[k].wt := wtL_take (fun y : Run => y.wt) xs k (by omega)
      have hle := wtL_take_le (fun y : Run => y.wt) xs (k + 1)
      refine sx rfl (stp_call2 Tryz.func103 rfl rfl rfl ((szRun_n W4 (C_below hc9 st6.below) (l - (xs.length : Int) - (((xs.take k).map (fun y : Run => y.wt)).sum : Nat)) (by omega) (by omega)).mono ?_)); rintro _ W10 ⟨rfl, hk11⟩; refine ⟨_, rfl, ?_⟩
      have st12 := St.call st6 hk11
      refine sx rfl (stp_assign (v := I (szL (l - (xs.length : Int) - (((xs.take k).map (fun y : Run => y.wt)).sum : Nat)) ((xs[k]'hi51fab)).wt)) rfl ?_)
      refine sx_nil ?_
      refine wp_seq ?_
      refine sx_region ?_
      refine sx rfl (stp_move (v := I (szL (l - (xs.length : Int) - (((xs.take k).map (fun y : Run => y.wt)).sum : Nat)) ((xs[k]'hi51fab)).wt)) rfl ?_)
      refine sx rfl (stp_lss rfl rfl ?_)
      refine sx_nil ?_
      refine sx_if rfl (fun h14 => ?_) (fun h14 => ?_)
      · skip
        have h14p := of_decide_eq_true h14
        have h14q := szL_lt h14p (by omega)
        refine wp_seq ?_
        refine sx_region ?_
        refine sx rfl (stp_assign (v := I (-1)) rfl ?_)
        refine sx_nil ?_
        refine wp_ret ?_; repeat (first | refine then_ret ?_ | refine blk_ret ?_)
        refine ret1 Tryz.results50 rfl ?_
        exact ⟨congrArg (fun z => Ending.returned (I z)) (szL_t (by omega)).symm, st12.bare⟩
      · skip
        have h14p := of_decide_eq_false h14
        have h14q := szL_ge h14p (by omega)
        refine wp_skip ?_
        refine sx_region ?_
        refine sx rfl (stp_move (v := I (k : Int)) hs7_5 ?_)
        refine sx rfl (stp_add rfl rfl (by (simp only [I64] at *; omega)) ?_)
        refine sx rfl (stp_assign (v := I ((k : Int) + 1)) rfl ?_)
        refine sx_nil ?_
        exact ⟨_, xs.length - (k + 1), (by omega), rfl, k + 1, (by omega), (by omega), rfl, hs7_0, (Eq.trans (show _ = I (szL (l - (xs.length : Int) - (((xs.take k).map (fun y : Run => y.wt)).sum : Nat)) ((xs[k]'hi51fab)).wt) from rfl) (show I (szL (l - (xs.length : Int) - (((xs.take k).map (fun y : Run => y.wt)).sum : Nat)) ((xs[k]'hi51fab)).wt) = I (l - (xs.length : Int) - (((xs.take (k + 1)).map (fun y : Run => y.wt)).sum : Nat)) from congrArg I (by omega))), rfl, st12⟩
    · skip
      have h8p := of_decide_eq_false h8
      refine wp_exit ?_
      refine wp_seq ?_
      refine sx_region ?_
      refine sx rfl (stp_move (v := I (l - (xs.length : Int) - (((xs.take k).map (fun y : Run => y.wt)).sum : Nat))) hs7_1 ?_)
      refine sx rfl (stp_assign (v := I (l - (xs.length : Int) - (((xs.take k).map (fun y : Run => y.wt)).sum : Nat))) rfl ?_)
      refine sx_nil ?_
      refine wp_ret ?_; repeat (first | refine then_ret ?_ | refine blk_ret ?_)
      refine ret1 Tryz.results50 rfl ?_
      obtain rfl : k = xs.length := by omega
      rw [List.take_length] at *
      exact ⟨congrArg (fun z => Ending.returned (I z)) (by rw [szL_f (by omega)]; try omega), st6.bare⟩
set_option maxHeartbeats 2000000 in
theorem szEntrySS_n (w : World) {v : Value} {xs : List (List Entry)} {fp : List Nat} (h : Sl w v xs fp) (l : Int) (hl : 0 ≤ l) (hl2 : l ≤ 1048576) :
    Calls Tryz.prog 49 #[v, I l] w fun e w' => e = .returned (I (szL l (wtL (fun y : List Entry => y.length) xs))) ∧ St w w' [] := by
  have hcap := h.len_le
  have hwt : wtL (fun y : List Entry => y.length) xs = xs.length + (xs.map (fun y : List Entry => y.length)).sum := rfl
  refine enter2 Tryz.func49 rfl Tryz.ntmps49 (by decide) ?_
  refine wp_seq ?_
  refine sx_region ?_
  refine sx rfl (stp_assign (v := I 0) rfl ?_)
  refine sx_nil ?_
  refine wp_seq ?_
  refine sx_region ?_
  refine sx rfl (stp_move (v := I l) rfl ?_)
  refine sx rfl (stp_move (v := v) rfl ?_)
  refine sx rfl (stp_len sl_EntrySSL rfl h ?_)
  refine sx rfl (stp_sub rfl rfl (by (simp only [I64] at *; omega)) ?_)
  refine sx rfl (stp_assign (v := I (l - (xs.length : Int))) rfl ?_)
  refine sx_nil ?_
  refine wp_seq ?_
  refine wp_seq ?_
  refine sx_region ?_
  refine sx rfl (stp_move (v := I (l - (xs.length : Int))) rfl ?_)
  refine sx rfl (stp_lss rfl rfl ?_)
  refine sx_nil ?_
  refine sx_if rfl (fun h1 => ?_) (fun h1 => ?_)
  · skip
    have h1p := of_decide_eq_true h1
    refine wp_seq ?_
    refine sx_region ?_
    refine sx rfl (stp_assign (v := I (-1)) rfl ?_)
    refine sx_nil ?_
    refine wp_ret ?_; repeat (first | refine then_ret ?_ | refine blk_ret ?_)
    refine ret1 Tryz.results49 rfl ?_
    exact ⟨congrArg (fun z => Ending.returned (I z)) (szL_t (by omega)).symm, (St.start w).bare⟩
  · skip
    have h1p := of_decide_eq_false h1
    refine wp_skip ?_
    refine wp_seq ?_
    refine wp_seq ?_
    refine sx_region ?_
    refine sx rfl (stp_assign (v := I 0) rfl ?_)
    refine sx_nil ?_
    refine wp_block ?_
    refine sx_loop (fun (m : Nat) (f : Nat → Value) (W : World) => ∃ (k : Nat), k ≤ xs.length ∧ 0 ≤ l - (xs.length : Int) - (((xs.take k).map (fun y : List Entry => y.length)).sum : Nat) ∧ m = xs.length - k ∧ f 0 = v ∧ f 1 = I (l - (xs.length : Int) - (((xs.take k).map (fun y : List Entry => y.length)).sum : Nat)) ∧ f 5 = I (k : Int) ∧ St w W ([])) (xs.length - 0) ?_ ?_
    · exact ⟨0, Nat.zero_le _, (by simp; omega), rfl, rfl, (Eq.trans (show _ = I (l - (xs.length : Int)) from rfl) (show I (l - (xs.length : Int)) = I (l - (xs.length : Int) - (((xs.take 0).map (fun y : List Entry => y.length)).sum : Nat)) from congrArg I (by simp))), rfl, (St.start w)⟩
    intro m2 f3 W4 hJ5
    obtain ⟨k, hcd7_0, hcd7_1, rfl, hs7_0, hs7_1, hs7_5, st6⟩ := hJ5
    refine wp_seq ?_
    refine wp_seq ?_
    refine sx_region ?_
    refine sx rfl (stp_move (v := I (k : Int)) hs7_5 ?_)
    refine sx rfl (stp_move (v := v) hs7_0 ?_)
    refine sx rfl (stp_len sl_EntrySSL rfl h ?_)
    refine sx rfl (stp_lss rfl rfl ?_)
    refine sx_nil ?_
    refine sx_if rfl (fun h8 => ?_) (fun h8 => ?_)
    · skip
      have h8p := of_decide_eq_true h8
      refine wp_skip ?_
      refine wp_seq ?_
      refine wp_block ?_
      refine wp_seq ?_
      refine sx_region ?_
      refine sx rfl (stp_move (v := v) hs7_0 ?_)
      refine sx rfl (stp_move (v := I (k : Int)) hs7_5 ?_)
      have hi51fab : k < xs.length := (by omega)
      have hq_ := idx h (i := k) hi51fab
      obtain ⟨b9, o9, cs9, f9, hp9, hr9, hc9, hm9⟩ := hq_
      have hk9 := hc9
      obtain ⟨v10, rfl, h11⟩ := hk9
      refine sx rfl (stp_indexAddr sl_EntrySSL rfl hp9 rfl rfl ?_)
      refine sx rfl (stp_load_rg ld_EntrySL rfl rfl hr9 st6.below (i := 0) rfl rfl ?_)
      refine sx rfl (stp_move (v := I (l - (xs.length : Int) - (((xs.take k).map (fun y : List Entry => y.length)).sum : Nat))) hs7_1 ?_)
      have hstep : ((xs.take (k + 1)).map (fun y : List Entry => y.length)).sum = ((xs.take k).map (fun y : List Entry => y.length)).sum + xs[k].length := wtL_take (fun y : List Entry => y.length) xs k (by omega)
      have hle := wtL_take_le (fun y : List Entry => y.length) xs (k + 1)
      refine sx rfl (stp_call2 Tryz.func102 rfl rfl rfl ((szEntryS_n W4 (h11.below st6.below) (l - (xs.length : Int) - (((xs.take k).map (fun y : List Entry => y.length)).sum : Nat)) (by omega) (by omega)).mono ?_)); rintro _ W12 ⟨rfl, hk13⟩; refine ⟨_, rfl, ?_⟩
      have st14 := St.call st6 hk13
      refine sx rfl (stp_assign (v := I (szL (l - (xs.length : Int) - (((xs.take k).map (fun y : List Entry => y.length)).sum : Nat)) ((xs[k]'hi51fab)).length)) rfl ?_)
      refine sx_nil ?_
      refine wp_seq ?_
      refine sx_region ?_
      refine sx rfl (stp_move (v := I (szL (l - (xs.length : Int) - (((xs.take k).map (fun y : List Entry => y.length)).sum : Nat)) ((xs[k]'hi51fab)).length)) rfl ?_)
      refine sx rfl (stp_lss rfl rfl ?_)
      refine sx_nil ?_
      refine sx_if rfl (fun h16 => ?_) (fun h16 => ?_)
      · skip
        have h16p := of_decide_eq_true h16
        have h16q := szL_lt h16p (by omega)
        refine wp_seq ?_
        refine sx_region ?_
        refine sx rfl (stp_assign (v := I (-1)) rfl ?_)
        refine sx_nil ?_
        refine wp_ret ?_; repeat (first | refine then_ret ?_ | refine blk_ret ?_)
        refine ret1 Tryz.results49 rfl ?_
        exact ⟨congrArg (fun z => Ending.returned (I z)) (szL_t (by omega)).symm, st14.bare⟩
      · skip
        have h16p := of_decide_eq_false h16
        have h16q := szL_ge h16p (by omega)
        refine wp_skip ?_
        refine sx_region ?_
        refine sx rfl (stp_move (v := I (k : Int)) hs7_5 ?_)
        refine sx rfl (stp_add rfl rfl (by (simp only [I64] at *; omega)) ?_)
        refine sx rfl (stp_assign (v := I ((k : Int) + 1)) rfl ?_)
        refine sx_nil ?_
        exact ⟨_, xs.length - (k + 1), (by omega), rfl, k + 1, (by omega), (by omega), rfl, hs7_0, (Eq.trans (show _ = I (szL (l - (xs.length : Int) - (((xs.take k).map (fun y : List Entry => y.length)).sum : Nat)) ((xs[k]'hi51fab)).length) from rfl) (show I (szL (l - (xs.length : Int) - (((xs.take k).map (fun y : List Entry => y.length)).sum : Nat)) ((xs[k]'hi51fab)).length) = I (l - (xs.length : Int) - (((xs.take (k + 1)).map (fun y : List Entry => y.length)).sum : Nat)) from congrArg I (by omega))), rfl, st14⟩
    · skip
      have h8p := of_decide_eq_false h8
      refine wp_exit ?_
      refine wp_seq ?_
      refine sx_region ?_
      refine sx rfl (stp_move (v := I (l - (xs.length : Int) - (((xs.take k).map (fun y : List Entry => y.length)).sum : Nat))) hs7_1 ?_)
      refine sx rfl (stp_assign (v := I (l - (xs.length : Int) - (((xs.take k).map (fun y : List Entry => y.length)).sum : Nat))) rfl ?_)
      refine sx_nil ?_
      refine wp_ret ?_; repeat (first | refine then_ret ?_ | refine blk_ret ?_)
      refine ret1 Tryz.results49 rfl ?_
      obtain rfl : k = xs.length := by omega
      rw [List.take_length] at *
      exact ⟨congrArg (fun z => Ending.returned (I z)) (by rw [szL_f (by omega)]; try omega), st6.bare⟩
set_option maxHeartbeats 2000000 in
theorem szYard_n (w : World) {x : Yard} {cs : List Value} {fp : List Nat} (hc : Shape.C w cs x fp) (l : Int) (hl : 0 ≤ l) (hl2 : l ≤ 1048576) :
    Calls Tryz.prog 15 #[.agg cs.toArray, I l] w fun e w' => e = .returned (I (szL l x.wt)) ∧ St w w' [] := by
  have hwt : x.wt = (wtL (fun y : List Entry => y.length) x.shelf) + (wtL (fun y : Run => y.wt) x.runs) := rfl
  refine enter2 Tryz.func15 rfl Tryz.ntmps15 (by decide) ?_
  refine wp_seq ?_
  refine sx_region ?_
  refine sx rfl (stp_box_agg (cs := cs) rfl (St.start w) ?_); intro b1 W2 hb3 st4
  refine sx rfl (stp_assign (v := I 0) rfl ?_)
  refine sx_nil ?_
  refine wp_seq ?_
  refine sx_region ?_
  refine sx rfl (stp_fieldAddr fa_YardL_2 rfl ?_)
  have hk6 := hc
  obtain ⟨v6_0, v6_1, g6_0, g6_1, rfl, hok6, h6_0, h6_1, rfl⟩ := hk6
  refine sx rfl (stp_load_bx ld_EntrySSL rfl rfl (st4.get 0 rfl) (i := 2) rfl rfl ?_)
  refine sx rfl (stp_move (v := I l) rfl ?_)
  refine sx rfl (stp_call2 Tryz.func49 rfl rfl rfl ((szEntrySS_n W2 (h6_0.below st4.below) l (by omega) (by omega)).mono ?_)); rintro _ W7 ⟨rfl, hk8⟩; refine ⟨_, rfl, ?_⟩
  have st9 := St.call st4 hk8
  refine sx rfl (stp_assign (v := I (szL l (wtL (fun y : List Entry => y.length) x.shelf))) rfl ?_)
  refine sx_nil ?_
  refine wp_seq ?_
  refine wp_seq ?_
  refine sx_region ?_
  refine sx rfl (stp_move (v := I (szL l (wtL (fun y : List Entry => y.length) x.shelf))) rfl ?_)
  refine sx rfl (stp_lss rfl rfl ?_)
  refine sx_nil ?_
  refine sx_if rfl (fun h11 => ?_) (fun h11 => ?_)
  · skip
    have h11p := of_decide_eq_true h11
    have h11q := szL_lt h11p (by omega)
    refine wp_seq ?_
    refine sx_region ?_
    refine sx rfl (stp_assign (v := I (-1)) rfl ?_)
    refine sx_nil ?_
    refine wp_ret ?_; repeat (first | refine then_ret ?_ | refine blk_ret ?_)
    refine ret1 Tryz.results15 rfl ?_
    exact ⟨congrArg (fun z => Ending.returned (I z)) (szL_t (by omega)).symm, st9.bare⟩
  · skip
    have h11p := of_decide_eq_false h11
    have h11q := szL_ge h11p (by omega)
    refine wp_skip ?_
    refine wp_seq ?_
    refine sx_region ?_
    refine sx rfl (stp_fieldAddr fa_YardL_3 rfl ?_)
    refine sx rfl (stp_load_bx ld_RunSL rfl rfl (st9.get 0 rfl) (i := 3) rfl rfl ?_)
    refine sx rfl (stp_move (v := I (szL l (wtL (fun y : List Entry => y.length) x.shelf))) rfl ?_)
    refine sx rfl (stp_call2 Tryz.func50 rfl rfl rfl ((szRunS_n W7 (h6_1.below st9.below) (szL l (wtL (fun y : List Entry => y.length) x.shelf)) (by omega) (by omega)).mono ?_)); rintro _ W12 ⟨rfl, hk13⟩; refine ⟨_, rfl, ?_⟩
    have st14 := St.call st9 hk13
    refine sx rfl (stp_assign (v := I (szL (szL l (wtL (fun y : List Entry => y.length) x.shelf)) (wtL (fun y : Run => y.wt) x.runs))) rfl ?_)
    refine sx_nil ?_
    refine wp_seq ?_
    refine wp_seq ?_
    refine sx_region ?_
    refine sx rfl (stp_move (v := I (szL (szL l (wtL (fun y : List Entry => y.length) x.shelf)) (wtL (fun y : Run => y.wt) x.runs))) rfl ?_)
    refine sx rfl (stp_lss rfl rfl ?_)
    refine sx_nil ?_
    refine sx_if rfl (fun h16 => ?_) (fun h16 => ?_)
    · skip
      have h16p := of_decide_eq_true h16
      have h16q := szL_lt h16p (by omega)
      refine wp_seq ?_
      refine sx_region ?_
      refine sx rfl (stp_assign (v := I (-1)) rfl ?_)
      refine sx_nil ?_
      refine wp_ret ?_; repeat (first | refine then_ret ?_ | refine blk_ret ?_)
      refine ret1 Tryz.results15 rfl ?_
      exact ⟨congrArg (fun z => Ending.returned (I z)) (szL_t (by omega)).symm, st14.bare⟩
    · skip
      have h16p := of_decide_eq_false h16
      have h16q := szL_ge h16p (by omega)
      refine wp_skip ?_
      refine wp_seq ?_
      refine sx_region ?_
      refine sx rfl (stp_move (v := I (szL (szL l (wtL (fun y : List Entry => y.length) x.shelf)) (wtL (fun y : Run => y.wt) x.runs))) rfl ?_)
      refine sx rfl (stp_assign (v := I (szL (szL l (wtL (fun y : List Entry => y.length) x.shelf)) (wtL (fun y : Run => y.wt) x.runs))) rfl ?_)
      refine sx_nil ?_
      refine wp_ret ?_; repeat (first | refine then_ret ?_ | refine blk_ret ?_)
      refine ret1 Tryz.results15 rfl ?_
      exact ⟨congrArg (fun z => Ending.returned (I z)) (by rw [szL_f (n := x.wt) (by omega)]; try omega), st14.bare⟩
set_option maxHeartbeats 2000000 in
theorem szReplyS_n (w : World) {v : Value} {xs : List Reply} {fp : List Nat} (h : Sl w v xs fp) (l : Int) (hl : 0 ≤ l) (hl2 : l ≤ 1048576) :
    Calls Tryz.prog 41 #[v, I l] w fun e w' => e = .returned (I (szL l xs.length)) ∧ St w w' [] := by
  have hcap := h.len_le
  refine enter2 Tryz.func41 rfl Tryz.ntmps41 (by decide) ?_
  refine wp_seq ?_
  refine sx_region ?_
  refine sx rfl (stp_assign (v := I 0) rfl ?_)
  refine sx_nil ?_
  refine wp_seq ?_
  refine sx_region ?_
  refine sx rfl (stp_move (v := I l) rfl ?_)
  refine sx rfl (stp_move (v := v) rfl ?_)
  refine sx rfl (stp_len sl_ReplySL rfl h ?_)
  refine sx rfl (stp_sub rfl rfl (by (simp only [I64] at *; omega)) ?_)
  refine sx rfl (stp_assign (v := I (l - (xs.length : Int))) rfl ?_)
  refine sx_nil ?_
  refine wp_seq ?_
  refine wp_seq ?_
  refine sx_region ?_
  refine sx rfl (stp_move (v := I (l - (xs.length : Int))) rfl ?_)
  refine sx rfl (stp_lss rfl rfl ?_)
  refine sx_nil ?_
  refine sx_if rfl (fun h1 => ?_) (fun h1 => ?_)
  · skip
    have h1p := of_decide_eq_true h1
    refine wp_seq ?_
    refine sx_region ?_
    refine sx rfl (stp_assign (v := I (-1)) rfl ?_)
    refine sx_nil ?_
    refine wp_ret ?_; repeat (first | refine then_ret ?_ | refine blk_ret ?_)
    refine ret1 Tryz.results41 rfl ?_
    exact ⟨congrArg (fun z => Ending.returned (I z)) (szL_t (by omega)).symm, (St.start w).bare⟩
  · skip
    have h1p := of_decide_eq_false h1
    refine wp_skip ?_
    refine wp_seq ?_
    refine sx_region ?_
    refine sx rfl (stp_move (v := I (l - (xs.length : Int))) rfl ?_)
    refine sx rfl (stp_assign (v := I (l - (xs.length : Int))) rfl ?_)
    refine sx_nil ?_
    refine wp_ret ?_; repeat (first | refine then_ret ?_ | refine blk_ret ?_)
    refine ret1 Tryz.results41 rfl ?_
    exact ⟨congrArg (fun z => Ending.returned (I z)) (by rw [szL_f (by omega)]; try omega), (St.start w).bare⟩
set_option maxHeartbeats 2000000 in
theorem szDeed_n (w : World) {x : Deed} {cs : List Value} {fp : List Nat} (hc : Shape.C w cs x fp) (l : Int) (hl : 0 ≤ l) (hl2 : l ≤ 1048576) :
    Calls Tryz.prog 135 #[.agg cs.toArray, I l] w fun e w' => e = .returned (I (szL l x.wt)) ∧ St w w' [] := by
  have hwt : x.wt = x.plan.wt := rfl
  refine enter2 Tryz.func135 rfl Tryz.ntmps135 (by decide) ?_
  refine wp_seq ?_
  refine sx_region ?_
  refine sx rfl (stp_box_agg (cs := cs) rfl (St.start w) ?_); intro b1 W2 hb3 st4
  refine sx rfl (stp_assign (v := I 0) rfl ?_)
  refine sx_nil ?_
  refine wp_seq ?_
  refine sx_region ?_
  refine sx rfl (stp_fieldAddr fa_DeedL_2 rfl ?_)
  have hk6 := hc
  obtain ⟨v6_0, g6_0, rfl, hok6, h6_0, rfl⟩ := hk6
  refine sx rfl (stp_load_bxs (cs := [I x.plan.prio, I x.plan.most, I x.plan.wait, I x.plan.tasks, v6_0]) ld_PlanL rfl rfl (st4.get 0 rfl) rfl rfl ?_)
  refine sx rfl (stp_move (v := I l) rfl ?_)
  refine sx rfl (stp_call2 Tryz.func166 rfl rfl rfl ((szPlan_n W2 (show Shape.C _ [I x.plan.prio, I x.plan.most, I x.plan.wait, I x.plan.tasks, v6_0] x.plan _ from ⟨_, _, rfl, (by first | exact True.intro | (simp only [Edge.ok, Plan.ok, Entry.ok, Task.ok, Run.ok, Yard.ok, Reply.ok, Deed.ok, Note.ok, Wait.ok, File.ok, Disk.ok, Engine.ok, WorldD.ok, ActD.ok, Hand.ok, Span.ok, Crew.ok, View.ok, I64] at *; omega)), (h6_0.below st4.below), rfl⟩) l (by omega) (by omega)).mono ?_)); rintro _ W7 ⟨rfl, hk8⟩; refine ⟨_, rfl, ?_⟩
  have st9 := St.call st4 hk8
  refine sx rfl (stp_assign (v := I (szL l x.plan.wt)) rfl ?_)
  refine sx_nil ?_
  refine wp_seq ?_
  refine wp_seq ?_
  refine sx_region ?_
  refine sx rfl (stp_move (v := I (szL l x.plan.wt)) rfl ?_)
  refine sx rfl (stp_lss rfl rfl ?_)
  refine sx_nil ?_
  refine sx_if rfl (fun h11 => ?_) (fun h11 => ?_)
  · skip
    have h11p := of_decide_eq_true h11
    have h11q := szL_lt h11p (by omega)
    refine wp_seq ?_
    refine sx_region ?_
    refine sx rfl (stp_assign (v := I (-1)) rfl ?_)
    refine sx_nil ?_
    refine wp_ret ?_; repeat (first | refine then_ret ?_ | refine blk_ret ?_)
    refine ret1 Tryz.results135 rfl ?_
    exact ⟨congrArg (fun z => Ending.returned (I z)) (szL_t (by omega)).symm, st9.bare⟩
  · skip
    have h11p := of_decide_eq_false h11
    have h11q := szL_ge h11p (by omega)
    refine wp_skip ?_
    refine wp_seq ?_
    refine sx_region ?_
    refine sx rfl (stp_move (v := I (szL l x.plan.wt)) rfl ?_)
    refine sx rfl (stp_assign (v := I (szL l x.plan.wt)) rfl ?_)
    refine sx_nil ?_
    refine wp_ret ?_; repeat (first | refine then_ret ?_ | refine blk_ret ?_)
    refine ret1 Tryz.results135 rfl ?_
    exact ⟨congrArg (fun z => Ending.returned (I z)) (by rw [szL_f (n := x.wt) (by omega)]; try omega), st9.bare⟩
set_option maxHeartbeats 2000000 in
theorem szSpan_n (w : World) {x : Span} {cs : List Value} {fp : List Nat} (hc : Shape.C w cs x fp) (l : Int) (hl : 0 ≤ l) (hl2 : l ≤ 1048576) :
    Calls Tryz.prog 70 #[.agg cs.toArray, I l] w fun e w' => e = .returned (I (szL l x.wt)) ∧ St w w' [] := by
  have hwt : x.wt = x.deed.wt := rfl
  refine enter2 Tryz.func70 rfl Tryz.ntmps70 (by decide) ?_
  refine wp_seq ?_
  refine sx_region ?_
  refine sx rfl (stp_box_agg (cs := cs) rfl (St.start w) ?_); intro b1 W2 hb3 st4
  refine sx rfl (stp_assign (v := I 0) rfl ?_)
  refine sx_nil ?_
  refine wp_seq ?_
  refine sx_region ?_
  refine sx rfl (stp_fieldAddr fa_SpanL_0 rfl ?_)
  have hk6 := hc
  obtain ⟨v6_0, g6_0, rfl, hok6, h6_0, rfl⟩ := hk6
  refine sx rfl (stp_load_bxs (cs := [I x.deed.kind, I x.deed.run, I x.deed.plan.prio, I x.deed.plan.most, I x.deed.plan.wait, I x.deed.plan.tasks, v6_0, I x.deed.task, I x.deed.try_, I x.deed.worker, I x.deed.draw]) ld_DeedL rfl rfl (st4.get 0 rfl) rfl rfl ?_)
  refine sx rfl (stp_move (v := I l) rfl ?_)
  refine sx rfl (stp_call2 Tryz.func135 rfl rfl rfl ((szDeed_n W2 (show Shape.C _ [I x.deed.kind, I x.deed.run, I x.deed.plan.prio, I x.deed.plan.most, I x.deed.plan.wait, I x.deed.plan.tasks, v6_0, I x.deed.task, I x.deed.try_, I x.deed.worker, I x.deed.draw] x.deed _ from ⟨_, _, rfl, (by first | exact True.intro | (simp only [Edge.ok, Plan.ok, Entry.ok, Task.ok, Run.ok, Yard.ok, Reply.ok, Deed.ok, Note.ok, Wait.ok, File.ok, Disk.ok, Engine.ok, WorldD.ok, ActD.ok, Hand.ok, Span.ok, Crew.ok, View.ok, I64] at *; omega)), (h6_0.below st4.below), rfl⟩) l (by omega) (by omega)).mono ?_)); rintro _ W7 ⟨rfl, hk8⟩; refine ⟨_, rfl, ?_⟩
  have st9 := St.call st4 hk8
  refine sx rfl (stp_assign (v := I (szL l x.deed.wt)) rfl ?_)
  refine sx_nil ?_
  refine wp_seq ?_
  refine wp_seq ?_
  refine sx_region ?_
  refine sx rfl (stp_move (v := I (szL l x.deed.wt)) rfl ?_)
  refine sx rfl (stp_lss rfl rfl ?_)
  refine sx_nil ?_
  refine sx_if rfl (fun h11 => ?_) (fun h11 => ?_)
  · skip
    have h11p := of_decide_eq_true h11
    have h11q := szL_lt h11p (by omega)
    refine wp_seq ?_
    refine sx_region ?_
    refine sx rfl (stp_assign (v := I (-1)) rfl ?_)
    refine sx_nil ?_
    refine wp_ret ?_; repeat (first | refine then_ret ?_ | refine blk_ret ?_)
    refine ret1 Tryz.results70 rfl ?_
    exact ⟨congrArg (fun z => Ending.returned (I z)) (szL_t (by omega)).symm, st9.bare⟩
  · skip
    have h11p := of_decide_eq_false h11
    have h11q := szL_ge h11p (by omega)
    refine wp_skip ?_
    refine wp_seq ?_
    refine sx_region ?_
    refine sx rfl (stp_move (v := I (szL l x.deed.wt)) rfl ?_)
    refine sx rfl (stp_assign (v := I (szL l x.deed.wt)) rfl ?_)
    refine sx_nil ?_
    refine wp_ret ?_; repeat (first | refine then_ret ?_ | refine blk_ret ?_)
    refine ret1 Tryz.results70 rfl ?_
    exact ⟨congrArg (fun z => Ending.returned (I z)) (by rw [szL_f (n := x.wt) (by omega)]; try omega), st9.bare⟩
set_option maxHeartbeats 2000000 in
theorem szSpanS_n (w : World) {v : Value} {xs : List Span} {fp : List Nat} (h : Sl w v xs fp) (l : Int) (hl : 0 ≤ l) (hl2 : l ≤ 1048576) :
    Calls Tryz.prog 32 #[v, I l] w fun e w' => e = .returned (I (szL l (wtL (fun y : Span => y.wt) xs))) ∧ St w w' [] := by
  have hcap := h.len_le
  have hwt : wtL (fun y : Span => y.wt) xs = xs.length + (xs.map (fun y : Span => y.wt)).sum := rfl
  refine enter2 Tryz.func32 rfl Tryz.ntmps32 (by decide) ?_
  refine wp_seq ?_
  refine sx_region ?_
  refine sx rfl (stp_assign (v := I 0) rfl ?_)
  refine sx_nil ?_
  refine wp_seq ?_
  refine sx_region ?_
  refine sx rfl (stp_move (v := I l) rfl ?_)
  refine sx rfl (stp_move (v := v) rfl ?_)
  refine sx rfl (stp_len sl_SpanSL rfl h ?_)
  refine sx rfl (stp_sub rfl rfl (by (simp only [I64] at *; omega)) ?_)
  refine sx rfl (stp_assign (v := I (l - (xs.length : Int))) rfl ?_)
  refine sx_nil ?_
  refine wp_seq ?_
  refine wp_seq ?_
  refine sx_region ?_
  refine sx rfl (stp_move (v := I (l - (xs.length : Int))) rfl ?_)
  refine sx rfl (stp_lss rfl rfl ?_)
  refine sx_nil ?_
  refine sx_if rfl (fun h1 => ?_) (fun h1 => ?_)
  · skip
    have h1p := of_decide_eq_true h1
    refine wp_seq ?_
    refine sx_region ?_
    refine sx rfl (stp_assign (v := I (-1)) rfl ?_)
    refine sx_nil ?_
    refine wp_ret ?_; repeat (first | refine then_ret ?_ | refine blk_ret ?_)
    refine ret1 Tryz.results32 rfl ?_
    exact ⟨congrArg (fun z => Ending.returned (I z)) (szL_t (by omega)).symm, (St.start w).bare⟩
  · skip
    have h1p := of_decide_eq_false h1
    refine wp_skip ?_
    refine wp_seq ?_
    refine wp_seq ?_
    refine sx_region ?_
    refine sx rfl (stp_assign (v := I 0) rfl ?_)
    refine sx_nil ?_
    refine wp_block ?_
    refine sx_loop (fun (m : Nat) (f : Nat → Value) (W : World) => ∃ (k : Nat), k ≤ xs.length ∧ 0 ≤ l - (xs.length : Int) - (((xs.take k).map (fun y : Span => y.wt)).sum : Nat) ∧ m = xs.length - k ∧ f 0 = v ∧ f 1 = I (l - (xs.length : Int) - (((xs.take k).map (fun y : Span => y.wt)).sum : Nat)) ∧ f 5 = I (k : Int) ∧ St w W ([])) (xs.length - 0) ?_ ?_
    · exact ⟨0, Nat.zero_le _, (by simp; omega), rfl, rfl, (Eq.trans (show _ = I (l - (xs.length : Int)) from rfl) (show I (l - (xs.length : Int)) = I (l - (xs.length : Int) - (((xs.take 0).map (fun y : Span => y.wt)).sum : Nat)) from congrArg I (by simp))), rfl, (St.start w)⟩
    intro m2 f3 W4 hJ5
    obtain ⟨k, hcd7_0, hcd7_1, rfl, hs7_0, hs7_1, hs7_5, st6⟩ := hJ5
    refine wp_seq ?_
    refine wp_seq ?_
    refine sx_region ?_
    refine sx rfl (stp_move (v := I (k : Int)) hs7_5 ?_)
    refine sx rfl (stp_move (v := v) hs7_0 ?_)
    refine sx rfl (stp_len sl_SpanSL rfl h ?_)
    refine sx rfl (stp_lss rfl rfl ?_)
    refine sx_nil ?_
    refine sx_if rfl (fun h8 => ?_) (fun h8 => ?_)
    · skip
      have h8p := of_decide_eq_true h8
      refine wp_skip ?_
      refine wp_seq ?_
      refine wp_block ?_
      refine wp_seq ?_
      refine sx_region ?_
      refine sx rfl (stp_move (v := v) hs7_0 ?_)
      refine sx rfl (stp_move (v := I (k : Int)) hs7_5 ?_)
      have hi51fab : k < xs.length := (by omega)
      have hq_ := idx h (i := k) hi51fab
      obtain ⟨b9, o9, cs9, f9, hp9, hr9, hc9, hm9⟩ := hq_
      refine sx rfl (stp_indexAddr sl_SpanSL rfl hp9 rfl rfl ?_)
      refine sx rfl (stp_load_rga ld_SpanL rfl rfl hr9 st6.below (Shape.len hc9) ?_)
      refine sx rfl (stp_move (v := I (l - (xs.length : Int) - (((xs.take k).map (fun y : Span => y.wt)).sum : Nat))) hs7_1 ?_)
      have hstep : ((xs.take (k + 1)).map (fun y : Span => y.wt)).sum = ((xs.take k).map (fun y : Span => y.wt)).sum + xs[k].wt := wtL_take (fun y : Span => y.wt) xs k (by omega)
      have hle := wtL_take_le (fun y : Span => y.wt) xs (k + 1)
      refine sx rfl (stp_call2 Tryz.func70 rfl rfl rfl ((szSpan_n W4 (C_below hc9 st6.below) (l - (xs.length : Int) - (((xs.take k).map (fun y : Span => y.wt)).sum : Nat)) (by omega) (by omega)).mono ?_)); rintro _ W10 ⟨rfl, hk11⟩; refine ⟨_, rfl, ?_⟩
      have st12 := St.call st6 hk11
      refine sx rfl (stp_assign (v := I (szL (l - (xs.length : Int) - (((xs.take k).map (fun y : Span => y.wt)).sum : Nat)) ((xs[k]'hi51fab)).wt)) rfl ?_)
      refine sx_nil ?_
      refine wp_seq ?_
      refine sx_region ?_
      refine sx rfl (stp_move (v := I (szL (l - (xs.length : Int) - (((xs.take k).map (fun y : Span => y.wt)).sum : Nat)) ((xs[k]'hi51fab)).wt)) rfl ?_)
      refine sx rfl (stp_lss rfl rfl ?_)
      refine sx_nil ?_
      refine sx_if rfl (fun h14 => ?_) (fun h14 => ?_)
      · skip
        have h14p := of_decide_eq_true h14
        have h14q := szL_lt h14p (by omega)
        refine wp_seq ?_
        refine sx_region ?_
        refine sx rfl (stp_assign (v := I (-1)) rfl ?_)
        refine sx_nil ?_
        refine wp_ret ?_; repeat (first | refine then_ret ?_ | refine blk_ret ?_)
        refine ret1 Tryz.results32 rfl ?_
        exact ⟨congrArg (fun z => Ending.returned (I z)) (szL_t (by omega)).symm, st12.bare⟩
      · skip
        have h14p := of_decide_eq_false h14
        have h14q := szL_ge h14p (by omega)
        refine wp_skip ?_
        refine sx_region ?_
        refine sx rfl (stp_move (v := I (k : Int)) hs7_5 ?_)
        refine sx rfl (stp_add rfl rfl (by (simp only [I64] at *; omega)) ?_)
        refine sx rfl (stp_assign (v := I ((k : Int) + 1)) rfl ?_)
        refine sx_nil ?_
        exact ⟨_, xs.length - (k + 1), (by omega), rfl, k + 1, (by omega), (by omega), rfl, hs7_0, (Eq.trans (show _ = I (szL (l - (xs.length : Int) - (((xs.take k).map (fun y : Span => y.wt)).sum : Nat)) ((xs[k]'hi51fab)).wt) from rfl) (show I (szL (l - (xs.length : Int) - (((xs.take k).map (fun y : Span => y.wt)).sum : Nat)) ((xs[k]'hi51fab)).wt) = I (l - (xs.length : Int) - (((xs.take (k + 1)).map (fun y : Span => y.wt)).sum : Nat)) from congrArg I (by omega))), rfl, st12⟩
    · skip
      have h8p := of_decide_eq_false h8
      refine wp_exit ?_
      refine wp_seq ?_
      refine sx_region ?_
      refine sx rfl (stp_move (v := I (l - (xs.length : Int) - (((xs.take k).map (fun y : Span => y.wt)).sum : Nat))) hs7_1 ?_)
      refine sx rfl (stp_assign (v := I (l - (xs.length : Int) - (((xs.take k).map (fun y : Span => y.wt)).sum : Nat))) rfl ?_)
      refine sx_nil ?_
      refine wp_ret ?_; repeat (first | refine then_ret ?_ | refine blk_ret ?_)
      refine ret1 Tryz.results32 rfl ?_
      obtain rfl : k = xs.length := by omega
      rw [List.take_length] at *
      exact ⟨congrArg (fun z => Ending.returned (I z)) (by rw [szL_f (by omega)]; try omega), st6.bare⟩
set_option maxHeartbeats 2000000 in
theorem szCrew_n (w : World) {x : Crew} {cs : List Value} {fp : List Nat} (hc : Shape.C w cs x fp) (l : Int) (hl : 0 ≤ l) (hl2 : l ≤ 1048576) :
    Calls Tryz.prog 10 #[.agg cs.toArray, I l] w fun e w' => e = .returned (I (szL l x.wt)) ∧ St w w' [] := by
  have hwt : x.wt = x.yard.wt + x.holds.length := rfl
  refine enter2 Tryz.func10 rfl Tryz.ntmps10 (by decide) ?_
  refine wp_seq ?_
  refine sx_region ?_
  refine sx rfl (stp_box_agg (cs := cs) rfl (St.start w) ?_); intro b1 W2 hb3 st4
  refine sx rfl (stp_assign (v := I 0) rfl ?_)
  refine sx_nil ?_
  refine wp_seq ?_
  refine sx_region ?_
  refine sx rfl (stp_fieldAddr fa_CrewL_0 rfl ?_)
  have hk6 := hc
  obtain ⟨v6_0, v6_1, v6_2, g6_0, g6_1, g6_2, rfl, hok6, h6_0, h6_1, h6_2, rfl⟩ := hk6
  refine sx rfl (stp_load_bxs (cs := [I x.yard.now, I x.yard.seq, v6_0, v6_1]) ld_YardL rfl rfl (st4.get 0 rfl) rfl rfl ?_)
  refine sx rfl (stp_move (v := I l) rfl ?_)
  refine sx rfl (stp_call2 Tryz.func15 rfl rfl rfl ((szYard_n W2 (show Shape.C _ [I x.yard.now, I x.yard.seq, v6_0, v6_1] x.yard _ from ⟨_, _, _, _, rfl, (by first | exact True.intro | (simp only [Edge.ok, Plan.ok, Entry.ok, Task.ok, Run.ok, Yard.ok, Reply.ok, Deed.ok, Note.ok, Wait.ok, File.ok, Disk.ok, Engine.ok, WorldD.ok, ActD.ok, Hand.ok, Span.ok, Crew.ok, View.ok, I64] at *; omega)), (h6_0.below st4.below), (h6_1.below st4.below), rfl⟩) l (by omega) (by omega)).mono ?_)); rintro _ W7 ⟨rfl, hk8⟩; refine ⟨_, rfl, ?_⟩
  have st9 := St.call st4 hk8
  refine sx rfl (stp_assign (v := I (szL l x.yard.wt)) rfl ?_)
  refine sx_nil ?_
  refine wp_seq ?_
  refine wp_seq ?_
  refine sx_region ?_
  refine sx rfl (stp_move (v := I (szL l x.yard.wt)) rfl ?_)
  refine sx rfl (stp_lss rfl rfl ?_)
  refine sx_nil ?_
  refine sx_if rfl (fun h11 => ?_) (fun h11 => ?_)
  · skip
    have h11p := of_decide_eq_true h11
    have h11q := szL_lt h11p (by omega)
    refine wp_seq ?_
    refine sx_region ?_
    refine sx rfl (stp_assign (v := I (-1)) rfl ?_)
    refine sx_nil ?_
    refine wp_ret ?_; repeat (first | refine then_ret ?_ | refine blk_ret ?_)
    refine ret1 Tryz.results10 rfl ?_
    exact ⟨congrArg (fun z => Ending.returned (I z)) (szL_t (by omega)).symm, st9.bare⟩
  · skip
    have h11p := of_decide_eq_false h11
    have h11q := szL_ge h11p (by omega)
    refine wp_skip ?_
    refine wp_seq ?_
    refine sx_region ?_
    refine sx rfl (stp_fieldAddr fa_CrewL_1 rfl ?_)
    refine sx rfl (stp_load_bx ld_ReplySL rfl rfl (st9.get 0 rfl) (i := 4) rfl rfl ?_)
    refine sx rfl (stp_move (v := I (szL l x.yard.wt)) rfl ?_)
    refine sx rfl (stp_call2 Tryz.func41 rfl rfl rfl ((szReplyS_n W7 (h6_2.below st9.below) (szL l x.yard.wt) (by omega) (by omega)).mono ?_)); rintro _ W12 ⟨rfl, hk13⟩; refine ⟨_, rfl, ?_⟩
    have st14 := St.call st9 hk13
    refine sx rfl (stp_assign (v := I (szL (szL l x.yard.wt) x.holds.length)) rfl ?_)
    refine sx_nil ?_
    refine wp_seq ?_
    refine wp_seq ?_
    refine sx_region ?_
    refine sx rfl (stp_move (v := I (szL (szL l x.yard.wt) x.holds.length)) rfl ?_)
    refine sx rfl (stp_lss rfl rfl ?_)
    refine sx_nil ?_
    refine sx_if rfl (fun h16 => ?_) (fun h16 => ?_)
    · skip
      have h16p := of_decide_eq_true h16
      have h16q := szL_lt h16p (by omega)
      refine wp_seq ?_
      refine sx_region ?_
      refine sx rfl (stp_assign (v := I (-1)) rfl ?_)
      refine sx_nil ?_
      refine wp_ret ?_; repeat (first | refine then_ret ?_ | refine blk_ret ?_)
      refine ret1 Tryz.results10 rfl ?_
      exact ⟨congrArg (fun z => Ending.returned (I z)) (szL_t (by omega)).symm, st14.bare⟩
    · skip
      have h16p := of_decide_eq_false h16
      have h16q := szL_ge h16p (by omega)
      refine wp_skip ?_
      refine wp_seq ?_
      refine sx_region ?_
      refine sx rfl (stp_move (v := I (szL (szL l x.yard.wt) x.holds.length)) rfl ?_)
      refine sx rfl (stp_assign (v := I (szL (szL l x.yard.wt) x.holds.length)) rfl ?_)
      refine sx_nil ?_
      refine wp_ret ?_; repeat (first | refine then_ret ?_ | refine blk_ret ?_)
      refine ret1 Tryz.results10 rfl ?_
      exact ⟨congrArg (fun z => Ending.returned (I z)) (by rw [szL_f (n := x.wt) (by omega)]; try omega), st14.bare⟩
end Go.Proofs.YtchnllpegfbleaaGreat
