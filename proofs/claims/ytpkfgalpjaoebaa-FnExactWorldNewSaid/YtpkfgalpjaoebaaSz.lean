/-
  The laws' measures. (Printed by a program of this project's.)
-/
import Derived.Test.YtpkfgalpjaoebaaSxStr
import Derived.Test.YtpkfgalpjaoebaaKBase
namespace Go.Proofs.Ytpkfgalpjaoebaa
set_option linter.unusedSimpArgs false
set_option linter.unusedVariables false
set_option maxRecDepth 100000
open Go.RowKit

theorem szL_lt {l : Int} {n : Nat} (h : szL l n < 0) (hl : 0 ≤ l) : l < n := by
  unfold szL at h; split at h <;> omega
theorem szL_ge {l : Int} {n : Nat} (h : ¬ szL l n < 0) (hl : 0 ≤ l) : (n : Int) ≤ l ∧ szL l n = l - n := by
  unfold szL at *; split at h <;> simp_all <;> omega

set_option maxHeartbeats 2000000 in
theorem szEdgeS_n (w : World) {v : Value} {xs : List Edge} {fp : List Nat} (h : Sl w v xs fp) (l : Int) (hl : 0 ≤ l) (hl2 : l ≤ 1048576) :
    Calls Try.prog 93 #[v, I l] w fun e w' => e = .returned (I (szL l xs.length)) ∧ St w w' [] := by
  have hcap := h.len_le
  refine enter2 Try.func93 rfl Try.ntmps93 (by decide) ?_
  refine wp_seq ?_
  refine sx_region ?_
  refine sx rfl (stp_assign (v := I 0) rfl ?_)
  refine sx_nil ?_
  refine wp_seq ?_
  refine sx_region ?_
  refine sx rfl (stp_move (v := I l) rfl ?_)
  refine sx rfl (stp_move (v := v) rfl ?_)
  refine sx rfl (stp_len sl_EdgeSL rfl h ?_)
  refine sx rfl (stp_sub rfl rfl (by (simp only [I64] at *; omega)) ?_)
  refine sx rfl (stp_assign (v := I (l - (xs.length : Int))) rfl ?_)
  refine sx_nil ?_
  refine wp_seq ?_
  refine wp_seq ?_
  refine sx_region ?_
  refine sx rfl (stp_move (v := I (l - (xs.length : Int))) rfl ?_)
  refine sx rfl (stp_lss rfl rfl ?_)
  refine sx_nil ?_
  refine sx_if rfl (fun h1 => ?_) (fun h1 => ?_)
  · skip
    have h1p := of_decide_eq_true h1
    refine wp_seq ?_
    refine sx_region ?_
    refine sx rfl (stp_assign (v := I (-1)) rfl ?_)
    refine sx_nil ?_
    refine wp_ret ?_; repeat (first | refine then_ret ?_ | refine blk_ret ?_)
    refine ret1 Try.results93 rfl ?_
    exact ⟨congrArg (fun z => Ending.returned (I z)) (szL_t (by omega)).symm, (St.start w).bare⟩
  · skip
    have h1p := of_decide_eq_false h1
    refine wp_skip ?_
    refine wp_seq ?_
    refine sx_region ?_
    refine sx rfl (stp_move (v := I (l - (xs.length : Int))) rfl ?_)
    refine sx rfl (stp_assign (v := I (l - (xs.length : Int))) rfl ?_)
    refine sx_nil ?_
    refine wp_ret ?_; repeat (first | refine then_ret ?_ | refine blk_ret ?_)
    refine ret1 Try.results93 rfl ?_
    exact ⟨congrArg (fun z => Ending.returned (I z)) (by rw [szL_f (by omega)]; try omega), (St.start w).bare⟩
set_option maxHeartbeats 2000000 in
theorem szPlan_n (w : World) {x : Plan} {cs : List Value} {fp : List Nat} (hc : Shape.C w cs x fp) (l : Int) (hl : 0 ≤ l) (hl2 : l ≤ 1048576) :
    Calls Try.prog 77 #[.agg cs.toArray, I l] w fun e w' => e = .returned (I (szL l x.wt)) ∧ St w w' [] := by
  have hwt : x.wt = x.edges.length := rfl
  refine enter2 Try.func77 rfl Try.ntmps77 (by decide) ?_
  refine wp_seq ?_
  refine sx_region ?_
  refine sx rfl (stp_box_agg (cs := cs) rfl (St.start w) ?_); intro b1 W2 hb3 st4
  refine sx rfl (stp_assign (v := I 0) rfl ?_)
  refine sx_nil ?_
  refine wp_seq ?_
  refine sx_region ?_
  refine sx rfl (stp_fieldAddr fa_PlanL_4 rfl ?_)
  have hk6 := hc
  obtain ⟨v6_0, g6_0, rfl, hok6, h6_0, rfl⟩ := hk6
  refine sx rfl (stp_load_bx ld_EdgeSL rfl rfl (st4.get 0 rfl) (i := 4) rfl rfl ?_)
  refine sx rfl (stp_move (v := I l) rfl ?_)
  refine sx rfl (stp_call2 Try.func93 rfl rfl rfl ((szEdgeS_n W2 (h6_0.below st4.below) l (by omega) (by omega)).mono ?_)); rintro _ W7 ⟨rfl, hk8⟩; refine ⟨_, rfl, ?_⟩
  have st9 := St.call st4 hk8
  refine sx rfl (stp_assign (v := I (szL l x.edges.length)) rfl ?_)
  refine sx_nil ?_
  refine wp_seq ?_
  refine wp_seq ?_
  refine sx_region ?_
  refine sx rfl (stp_move (v := I (szL l x.edges.length)) rfl ?_)
  refine sx rfl (stp_lss rfl rfl ?_)
  refine sx_nil ?_
  refine sx_if rfl (fun h11 => ?_) (fun h11 => ?_)
  · skip
    have h11p := of_decide_eq_true h11
    have h11q := szL_lt h11p (by omega)
    refine wp_seq ?_
    refine sx_region ?_
    refine sx rfl (stp_assign (v := I (-1)) rfl ?_)
    refine sx_nil ?_
    refine wp_ret ?_; repeat (first | refine then_ret ?_ | refine blk_ret ?_)
    refine ret1 Try.results77 rfl ?_
    exact ⟨congrArg (fun z => Ending.returned (I z)) (szL_t (by omega)).symm, st9.bare⟩
  · skip
    have h11p := of_decide_eq_false h11
    have h11q := szL_ge h11p (by omega)
    refine wp_skip ?_
    refine wp_seq ?_
    refine sx_region ?_
    refine sx rfl (stp_move (v := I (szL l x.edges.length)) rfl ?_)
    refine sx rfl (stp_assign (v := I (szL l x.edges.length)) rfl ?_)
    refine sx_nil ?_
    refine wp_ret ?_; repeat (first | refine then_ret ?_ | refine blk_ret ?_)
    refine ret1 Try.results77 rfl ?_
    exact ⟨congrArg (fun z => Ending.returned (I z)) (by rw [szL_f (n := x.wt) (by omega)]; try omega), st9.bare⟩
set_option maxHeartbeats 2000000 in
theorem szEntryS_n (w : World) {v : Value} {xs : List Entry} {fp : List Nat} (h : Sl w v xs fp) (l : Int) (hl : 0 ≤ l) (hl2 : l ≤ 1048576) :
    Calls Try.prog 53 #[v, I l] w fun e w' => e = .returned (I (szL l xs.length)) ∧ St w w' [] := by
  have hcap := h.len_le
  refine enter2 Try.func53 rfl Try.ntmps53 (by decide) ?_
  refine wp_seq ?_
  refine sx_region ?_
  refine sx rfl (stp_assign (v := I 0) rfl ?_)
  refine sx_nil ?_
  refine wp_seq ?_
  refine sx_region ?_
  refine sx rfl (stp_move (v := I l) rfl ?_)
  refine sx rfl (stp_move (v := v) rfl ?_)
  refine sx rfl (stp_len sl_EntrySL rfl h ?_)
  refine sx rfl (stp_sub rfl rfl (by (simp only [I64] at *; omega)) ?_)
  refine sx rfl (stp_assign (v := I (l - (xs.length : Int))) rfl ?_)
  refine sx_nil ?_
  refine wp_seq ?_
  refine wp_seq ?_
  refine sx_region ?_
  refine sx rfl (stp_move (v := I (l - (xs.length : Int))) rfl ?_)
  refine sx rfl (stp_lss rfl rfl ?_)
  refine sx_nil ?_
  refine sx_if rfl (fun h1 => ?_) (fun h1 => ?_)
  · skip
    have h1p := of_decide_eq_true h1
    refine wp_seq ?_
    refine sx_region ?_
    refine sx rfl (stp_assign (v := I (-1)) rfl ?_)
    refine sx_nil ?_
    refine wp_ret ?_; repeat (first | refine then_ret ?_ | refine blk_ret ?_)
    refine ret1 Try.results53 rfl ?_
    exact ⟨congrArg (fun z => Ending.returned (I z)) (szL_t (by omega)).symm, (St.start w).bare⟩
  · skip
    have h1p := of_decide_eq_false h1
    refine wp_skip ?_
    refine wp_seq ?_
    refine sx_region ?_
    refine sx rfl (stp_move (v := I (l - (xs.length : Int))) rfl ?_)
    refine sx rfl (stp_assign (v := I (l - (xs.length : Int))) rfl ?_)
    refine sx_nil ?_
    refine wp_ret ?_; repeat (first | refine then_ret ?_ | refine blk_ret ?_)
    refine ret1 Try.results53 rfl ?_
    exact ⟨congrArg (fun z => Ending.returned (I z)) (by rw [szL_f (by omega)]; try omega), (St.start w).bare⟩
set_option maxHeartbeats 2000000 in
theorem szTaskS_n (w : World) {v : Value} {xs : List Task} {fp : List Nat} (h : Sl w v xs fp) (l : Int) (hl : 0 ≤ l) (hl2 : l ≤ 1048576) :
    Calls Try.prog 78 #[v, I l] w fun e w' => e = .returned (I (szL l xs.length)) ∧ St w w' [] := by
  have hcap := h.len_le
  refine enter2 Try.func78 rfl Try.ntmps78 (by decide) ?_
  refine wp_seq ?_
  refine sx_region ?_
  refine sx rfl (stp_assign (v := I 0) rfl ?_)
  refine sx_nil ?_
  refine wp_seq ?_
  refine sx_region ?_
  refine sx rfl (stp_move (v := I l) rfl ?_)
  refine sx rfl (stp_move (v := v) rfl ?_)
  refine sx rfl (stp_len sl_TaskSL rfl h ?_)
  refine sx rfl (stp_sub rfl rfl (by (simp only [I64] at *; omega)) ?_)
  refine sx rfl (stp_assign (v := I (l - (xs.length : Int))) rfl ?_)
  refine sx_nil ?_
  refine wp_seq ?_
  refine wp_seq ?_
  refine sx_region ?_
  refine sx rfl (stp_move (v := I (l - (xs.length : Int))) rfl ?_)
  refine sx rfl (stp_lss rfl rfl ?_)
  refine sx_nil ?_
  refine sx_if rfl (fun h1 => ?_) (fun h1 => ?_)
  · skip
    have h1p := of_decide_eq_true h1
    refine wp_seq ?_
    refine sx_region ?_
    refine sx rfl (stp_assign (v := I (-1)) rfl ?_)
    refine sx_nil ?_
    refine wp_ret ?_; repeat (first | refine then_ret ?_ | refine blk_ret ?_)
    refine ret1 Try.results78 rfl ?_
    exact ⟨congrArg (fun z => Ending.returned (I z)) (szL_t (by omega)).symm, (St.start w).bare⟩
  · skip
    have h1p := of_decide_eq_false h1
    refine wp_skip ?_
    refine wp_seq ?_
    refine sx_region ?_
    refine sx rfl (stp_move (v := I (l - (xs.length : Int))) rfl ?_)
    refine sx rfl (stp_assign (v := I (l - (xs.length : Int))) rfl ?_)
    refine sx_nil ?_
    refine wp_ret ?_; repeat (first | refine then_ret ?_ | refine blk_ret ?_)
    refine ret1 Try.results78 rfl ?_
    exact ⟨congrArg (fun z => Ending.returned (I z)) (by rw [szL_f (by omega)]; try omega), (St.start w).bare⟩
set_option maxHeartbeats 2000000 in
theorem szRun_n (w : World) {x : Run} {cs : List Value} {fp : List Nat} (hc : Shape.C w cs x fp) (l : Int) (hl : 0 ≤ l) (hl2 : l ≤ 1048576) :
    Calls Try.prog 54 #[.agg cs.toArray, I l] w fun e w' => e = .returned (I (szL l x.wt)) ∧ St w w' [] := by
  have hwt : x.wt = x.plan.wt + x.tasks.length := rfl
  refine enter2 Try.func54 rfl Try.ntmps54 (by decide) ?_
  refine wp_seq ?_
  refine sx_region ?_
  refine sx rfl (stp_box_agg (cs := cs) rfl (St.start w) ?_); intro b1 W2 hb3 st4
  refine sx rfl (stp_assign (v := I 0) rfl ?_)
  refine sx_nil ?_
  refine wp_seq ?_
  refine sx_region ?_
  refine sx rfl (stp_fieldAddr fa_RunL_1 rfl ?_)
  have hk6 := hc
  obtain ⟨v6_0, v6_1, g6_0, g6_1, rfl, hok6, h6_0, h6_1, rfl⟩ := hk6
  refine sx rfl (stp_load_bxs (cs := [I x.plan.prio, I x.plan.most, I x.plan.wait, I x.plan.tasks, v6_0]) ld_PlanL rfl rfl (st4.get 0 rfl) rfl rfl ?_)
  refine sx rfl (stp_move (v := I l) rfl ?_)
  refine sx rfl (stp_call2 Try.func77 rfl rfl rfl ((szPlan_n W2 (show Shape.C _ [I x.plan.prio, I x.plan.most, I x.plan.wait, I x.plan.tasks, v6_0] x.plan _ from ⟨_, _, rfl, (by first | exact True.intro | (simp only [Edge.ok, Plan.ok, Entry.ok, Task.ok, Run.ok, Yard.ok, Reply.ok, Deed.ok, Note.ok, Wait.ok, File.ok, Disk.ok, Engine.ok, WorldD.ok, ActD.ok, Hand.ok, Span.ok, Crew.ok, View.ok, I64] at *; omega)), (h6_0.below st4.below), rfl⟩) l (by omega) (by omega)).mono ?_)); rintro _ W7 ⟨rfl, hk8⟩; refine ⟨_, rfl, ?_⟩
  have st9 := St.call st4 hk8
  refine sx rfl (stp_assign (v := I (szL l x.plan.wt)) rfl ?_)
  refine sx_nil ?_
  refine wp_seq ?_
  refine wp_seq ?_
  refine sx_region ?_
  refine sx rfl (stp_move (v := I (szL l x.plan.wt)) rfl ?_)
  refine sx rfl (stp_lss rfl rfl ?_)
  refine sx_nil ?_
  refine sx_if rfl (fun h11 => ?_) (fun h11 => ?_)
  · skip
    have h11p := of_decide_eq_true h11
    have h11q := szL_lt h11p (by omega)
    refine wp_seq ?_
    refine sx_region ?_
    refine sx rfl (stp_assign (v := I (-1)) rfl ?_)
    refine sx_nil ?_
    refine wp_ret ?_; repeat (first | refine then_ret ?_ | refine blk_ret ?_)
    refine ret1 Try.results54 rfl ?_
    exact ⟨congrArg (fun z => Ending.returned (I z)) (szL_t (by omega)).symm, st9.bare⟩
  · skip
    have h11p := of_decide_eq_false h11
    have h11q := szL_ge h11p (by omega)
    refine wp_skip ?_
    refine wp_seq ?_
    refine sx_region ?_
    refine sx rfl (stp_fieldAddr fa_RunL_3 rfl ?_)
    refine sx rfl (stp_load_bx ld_TaskSL rfl rfl (st9.get 0 rfl) (i := 7) rfl rfl ?_)
    refine sx rfl (stp_move (v := I (szL l x.plan.wt)) rfl ?_)
    refine sx rfl (stp_call2 Try.func78 rfl rfl rfl ((szTaskS_n W7 (h6_1.below st9.below) (szL l x.plan.wt) (by omega) (by omega)).mono ?_)); rintro _ W12 ⟨rfl, hk13⟩; refine ⟨_, rfl, ?_⟩
    have st14 := St.call st9 hk13
    refine sx rfl (stp_assign (v := I (szL (szL l x.plan.wt) x.tasks.length)) rfl ?_)
    refine sx_nil ?_
    refine wp_seq ?_
    refine wp_seq ?_
    refine sx_region ?_
    refine sx rfl (stp_move (v := I (szL (szL l x.plan.wt) x.tasks.length)) rfl ?_)
    refine sx rfl (stp_lss rfl rfl ?_)
    refine sx_nil ?_
    refine sx_if rfl (fun h16 => ?_) (fun h16 => ?_)
    · skip
      have h16p := of_decide_eq_true h16
      have h16q := szL_lt h16p (by omega)
      refine wp_seq ?_
      refine sx_region ?_
      refine sx rfl (stp_assign (v := I (-1)) rfl ?_)
      refine sx_nil ?_
      refine wp_ret ?_; repeat (first | refine then_ret ?_ | refine blk_ret ?_)
      refine ret1 Try.results54 rfl ?_
      exact ⟨congrArg (fun z => Ending.returned (I z)) (szL_t (by omega)).symm, st14.bare⟩
    · skip
      have h16p := of_decide_eq_false h16
      have h16q := szL_ge h16p (by omega)
      refine wp_skip ?_
      refine wp_seq ?_
      refine sx_region ?_
      refine sx rfl (stp_move (v := I (szL (szL l x.plan.wt) x.tasks.length)) rfl ?_)
      refine sx rfl (stp_assign (v := I (szL (szL l x.plan.wt) x.tasks.length)) rfl ?_)
      refine sx_nil ?_
      refine wp_ret ?_; repeat (first | refine then_ret ?_ | refine blk_ret ?_)
      refine ret1 Try.results54 rfl ?_
      exact ⟨congrArg (fun z => Ending.returned (I z)) (by rw [szL_f (n := x.wt) (by omega)]; try omega), st14.bare⟩
set_option maxHeartbeats 2000000 in
theorem szRunS_n (w : World) {v : Value} {xs : List Run} {fp : List Nat} (h : Sl w v xs fp) (l : Int) (hl : 0 ≤ l) (hl2 : l ≤ 1048576) :
    Calls Try.prog 26 #[v, I l] w fun e w' => e = .returned (I (szL l (wtL (fun y : Run => y.wt) xs))) ∧ St w w' [] := by
  have hcap := h.len_le
  have hwt : wtL (fun y : Run => y.wt) xs = xs.length + (xs.map (fun y : Run => y.wt)).sum := rfl
  refine enter2 Try.func26 rfl Try.ntmps26 (by decide) ?_
  refine wp_seq ?_
  refine sx_region ?_
  refine sx rfl (stp_assign (v := I 0) rfl ?_)
  refine sx_nil ?_
  refine wp_seq ?_
  refine sx_region ?_
  refine sx rfl (stp_move (v := I l) rfl ?_)
  refine sx rfl (stp_move (v := v) rfl ?_)
  refine sx rfl (stp_len sl_RunSL rfl h ?_)
  refine sx rfl (stp_sub rfl rfl (by (simp only [I64] at *; omega)) ?_)
  refine sx rfl (stp_assign (v := I (l - (xs.length : Int))) rfl ?_)
  refine sx_nil ?_
  refine wp_seq ?_
  refine wp_seq ?_
  refine sx_region ?_
  refine sx rfl (stp_move (v := I (l - (xs.length : Int))) rfl ?_)
  refine sx rfl (stp_lss rfl rfl ?_)
  refine sx_nil ?_
  refine sx_if rfl (fun h1 => ?_) (fun h1 => ?_)
  · skip
    have h1p := of_decide_eq_true h1
    refine wp_seq ?_
    refine sx_region ?_
    refine sx rfl (stp_assign (v := I (-1)) rfl ?_)
    refine sx_nil ?_
    refine wp_ret ?_; repeat (first | refine then_ret ?_ | refine blk_ret ?_)
    refine ret1 Try.results26 rfl ?_
    exact ⟨congrArg (fun z => Ending.returned (I z)) (szL_t (by omega)).symm, (St.start w).bare⟩
  · skip
    have h1p := of_decide_eq_false h1
    refine wp_skip ?_
    refine wp_seq ?_
    refine wp_seq ?_
    refine sx_region ?_
    refine sx rfl (stp_assign (v := I 0) rfl ?_)
    refine sx_nil ?_
    refine wp_block ?_
    refine sx_loop (fun (m : Nat) (f : Nat → Value) (W : World) => ∃ (k : Nat), k ≤ xs.length ∧ 0 ≤ l - (xs.length : Int) - (((xs.take k).map (fun y : Run => y.wt)).sum : Nat) ∧ m = xs.length - k ∧ f 0 = v ∧ f 1 = I (l - (xs.length : Int) - (((xs.take k).map (fun y : Run => y.wt)).sum : Nat)) ∧ f 5 = I (k : Int) ∧ St w W ([])) (xs.length - 0) ?_ ?_
    · exact ⟨0, Nat.zero_le _, (by simp; omega), rfl, rfl, (Eq.trans (show _ = I (l - (xs.length : Int)) from rfl) (show I (l - (xs.length : Int)) = I (l - (xs.length : Int) - (((xs.take 0).map (fun y : Run => y.wt)).sum : Nat)) from congrArg I (by simp))), rfl, (St.start w)⟩
    intro m2 f3 W4 hJ5
    obtain ⟨k, hcd7_0, hcd7_1, rfl, hs7_0, hs7_1, hs7_5, st6⟩ := hJ5
    refine wp_seq ?_
    refine wp_seq ?_
    refine sx_region ?_
    refine sx rfl (stp_move (v := I (k : Int)) hs7_5 ?_)
    refine sx rfl (stp_move (v := v) hs7_0 ?_)
    refine sx rfl (stp_len sl_RunSL rfl h ?_)
    refine sx rfl (stp_lss rfl rfl ?_)
    refine sx_nil ?_
    refine sx_if rfl (fun h8 => ?_) (fun h8 => ?_)
    · skip
      have h8p := of_decide_eq_true h8
      refine wp_skip ?_
      refine wp_seq ?_
      refine wp_block ?_
      refine wp_seq ?_
      refine sx_region ?_
      refine sx rfl (stp_move (v := v) hs7_0 ?_)
      refine sx rfl (stp_move (v := I (k : Int)) hs7_5 ?_)
      have hi51fab : k < xs.length := (by omega)
      have hq_ := idx h (i := k) hi51fab
      obtain ⟨b9, o9, cs9, f9, hp9, hr9, hc9, hm9⟩ := hq_
      refine sx rfl (stp_indexAddr sl_RunSL rfl hp9 rfl rfl ?_)
      refine sx rfl (stp_load_rga ld_RunL rfl rfl hr9 st6.below (Shape.len hc9) ?_)
      refine sx rfl (stp_move (v := I (l - (xs.length : Int) - (((xs.take k).map (fun y : Run => y.wt)).sum : Nat))) hs7_1 ?_)
      have hstep : ((xs.take (k + 1)).map (fun y : Run => y.wt)).sum = ((xs.take k).map (fun y : Run => y.wt)).sum + xs[k].wt := wtL_take (fun y : Run => y.wt) xs k (by omega)
      have hle := wtL_take_le (fun y : Run => y.wt) xs (k + 1)
      refine sx rfl (stp_call2 Try.func54 rfl rfl rfl ((szRun_n W4 (C_below hc9 st6.below) (l - (xs.length : Int) - (((xs.take k).map (fun y : Run => y.wt)).sum : Nat)) (by omega) (by omega)).mono ?_)); rintro _ W10 ⟨rfl, hk11⟩; refine ⟨_, rfl, ?_⟩
      have st12 := St.call st6 hk11
      refine sx rfl (stp_assign (v := I (szL (l - (xs.length : Int) - (((xs.take k).map (fun y : Run => y.wt)).sum : Nat)) ((xs[k]'hi51fab)).wt)) rfl ?_)
      refine sx_nil ?_
      refine wp_seq ?_
      refine sx_region ?_
      refine sx rfl (stp_move (v := I (szL (l - (xs.length : Int) - (((xs.take k).map (fun y : Run => y.wt)).sum : Nat)) ((xs[k]'hi51fab)).wt)) rfl ?_)
      refine sx rfl (stp_lss rfl rfl ?_)
      refine sx_nil ?_
      refine sx_if rfl (fun h14 => ?_) (fun h14 => ?_)
      · skip
        have h14p := of_decide_eq_true h14
        have h14q := szL_lt h14p (by omega)
        refine wp_seq ?_
        refine sx_region ?_
        refine sx rfl (stp_assign (v := I (-1)) rfl ?_)
        refine sx_nil ?_
        refine wp_ret ?_; repeat (first | refine then_ret ?_ | refine blk_ret ?_)
        refine ret1 Try.results26 rfl ?_
        exact ⟨congrArg (fun z => Ending.returned (I z)) (szL_t (by omega)).symm, st12.bare⟩
      · skip
        have h14p := of_decide_eq_false h14
        have h14q := szL_ge h14p (by omega)
        refine wp_skip ?_
        refine sx_region ?_
        refine sx rfl (stp_move (v := I (k : Int)) hs7_5 ?_)
        refine sx rfl (stp_add rfl rfl (by (simp only [I64] at *; omega)) ?_)
        refine sx rfl (stp_assign (v := I ((k : Int) + 1)) rfl ?_)
        refine sx_nil ?_
        exact ⟨_, xs.length - (k + 1), (by omega), rfl, k + 1, (by omega), (by omega), rfl, hs7_0, (Eq.trans (show _ = I (szL (l - (xs.length : Int) - (((xs.take k).map (fun y : Run => y.wt)).sum : Nat)) ((xs[k]'hi51fab)).wt) from rfl) (show I (szL (l - (xs.length : Int) - (((xs.take k).map (fun y : Run => y.wt)).sum : Nat)) ((xs[k]'hi51fab)).wt) = I (l - (xs.length : Int) - (((xs.take (k + 1)).map (fun y : Run => y.wt)).sum : Nat)) from congrArg I (by omega))), rfl, st12⟩
    · skip
      have h8p := of_decide_eq_false h8
      refine wp_exit ?_
      refine wp_seq ?_
      refine sx_region ?_
      refine sx rfl (stp_move (v := I (l - (xs.length : Int) - (((xs.take k).map (fun y : Run => y.wt)).sum : Nat))) hs7_1 ?_)
      refine sx rfl (stp_assign (v := I (l - (xs.length : Int) - (((xs.take k).map (fun y : Run => y.wt)).sum : Nat))) rfl ?_)
      refine sx_nil ?_
      refine wp_ret ?_; repeat (first | refine then_ret ?_ | refine blk_ret ?_)
      refine ret1 Try.results26 rfl ?_
      obtain rfl : k = xs.length := by omega
      rw [List.take_length] at *
      exact ⟨congrArg (fun z => Ending.returned (I z)) (by rw [szL_f (by omega)]; try omega), st6.bare⟩
set_option maxHeartbeats 2000000 in
theorem szEntrySS_n (w : World) {v : Value} {xs : List (List Entry)} {fp : List Nat} (h : Sl w v xs fp) (l : Int) (hl : 0 ≤ l) (hl2 : l ≤ 1048576) :
    Calls Try.prog 25 #[v, I l] w fun e w' => e = .returned (I (szL l (wtL (fun y : List Entry => y.length) xs))) ∧ St w w' [] := by
  have hcap := h.len_le
  have hwt : wtL (fun y : List Entry => y.length) xs = xs.length + (xs.map (fun y : List Entry => y.length)).sum := rfl
  refine enter2 Try.func25 rfl Try.ntmps25 (by decide) ?_
  refine wp_seq ?_
  refine sx_region ?_
  refine sx rfl (stp_assign (v := I 0) rfl ?_)
  refine sx_nil ?_
  refine wp_seq ?_
  refine sx_region ?_
  refine sx rfl (stp_move (v := I l) rfl ?_)
  refine sx rfl (stp_move (v := v) rfl ?_)
  refine sx rfl (stp_len sl_EntrySSL rfl h ?_)
  refine sx rfl (stp_sub rfl rfl (by (simp only [I64] at *; omega)) ?_)
  refine sx rfl (stp_assign (v := I (l - (xs.length : Int))) rfl ?_)
  refine sx_nil ?_
  refine wp_seq ?_
  refine wp_seq ?_
  refine sx_region ?_
  refine sx rfl (stp_move (v := I (l - (xs.length : Int))) rfl ?_)
  refine sx rfl (stp_lss rfl rfl ?_)
  refine sx_nil ?_
  refine sx_if rfl (fun h1 => ?_) (fun h1 => ?_)
  · skip
    have h1p := of_decide_eq_true h1
    refine wp_seq ?_
    refine sx_region ?_
    refine sx rfl (stp_assign (v := I (-1)) rfl ?_)
    refine sx_nil ?_
    refine wp_ret ?_; repeat (first | refine then_ret ?_ | refine blk_ret ?_)
    refine ret1 Try.results25 rfl ?_
    exact ⟨congrArg (fun z => Ending.returned (I z)) (szL_t (by omega)).symm, (St.start w).bare⟩
  · skip
    have h1p := of_decide_eq_false h1
    refine wp_skip ?_
    refine wp_seq ?_
    refine wp_seq ?_
    refine sx_region ?_
    refine sx rfl (stp_assign (v := I 0) rfl ?_)
    refine sx_nil ?_
    refine wp_block ?_
    refine sx_loop (fun (m : Nat) (f : Nat → Value) (W : World) => ∃ (k : Nat), k ≤ xs.length ∧ 0 ≤ l - (xs.length : Int) - (((xs.take k).map (fun y : List Entry => y.length)).sum : Nat) ∧ m = xs.length - k ∧ f 0 = v ∧ f 1 = I (l - (xs.length : Int) - (((xs.take k).map (fun y : List Entry => y.length)).sum : Nat)) ∧ f 5 = I (k : Int) ∧ St w W ([])) (xs.length - 0) ?_ ?_
    · exact ⟨0, Nat.zero_le _, (by simp; omega), rfl, rfl, (Eq.trans (show _ = I (l - (xs.length : Int)) from rfl) (show I (l - (xs.length : Int)) = I (l - (xs.length : Int) - (((xs.take 0).map (fun y : List Entry => y.length)).sum : Nat)) from congrArg I (by simp))), rfl, (St.start w)⟩
    intro m2 f3 W4 hJ5
    obtain ⟨k, hcd7_0, hcd7_1, rfl, hs7_0, hs7_1, hs7_5, st6⟩ := hJ5
    refine wp_seq ?_
    refine wp_seq ?_
    refine sx_region ?_
    refine sx rfl (stp_move (v := I (k : Int)) hs7_5 ?_)
    refine sx rfl (stp_move (v := v) hs7_0 ?_)
    refine sx rfl (stp_len sl_EntrySSL rfl h ?_)
    refine sx rfl (stp_lss rfl rfl ?_)
    refine sx_nil ?_
    refine sx_if rfl (fun h8 => ?_) (fun h8 => ?_)
    · skip
      have h8p := of_decide_eq_true h8
      refine wp_skip ?_
      refine wp_seq ?_
      refine wp_block ?_
      refine wp_seq ?_
      refine sx_region ?_
      refine sx rfl (stp_move (v := v) hs7_0 ?_)
      refine sx rfl (stp_move (v := I (k : Int)) hs7_5 ?_)
      have hi51fab : k < xs.length := (by omega)
      have hq_ := idx h (i := k) hi51fab
      obtain ⟨b9, o9, cs9, f9, hp9, hr9, hc9, hm9⟩ := hq_
      have hk9 := hc9
      obtain ⟨v10, rfl, h11⟩ := hk9
      refine sx rfl (stp_indexAddr sl_EntrySSL rfl hp9 rfl rfl ?_)
      refine sx rfl (stp_load_rg ld_EntrySL rfl rfl hr9 st6.below (i := 0) rfl rfl ?_)
      refine sx rfl (stp_move (v := I (l - (xs.length : Int) - (((xs.take k).map (fun y : List Entry => y.length)).sum : Nat))) hs7_1 ?_)
      have hstep : ((xs.take (k + 1)).map (fun y : List Entry => y.length)).sum = ((xs.take k).map (fun y : List Entry => y.length)).sum + xs[k].length := wtL_take (fun y : List Entry => y.length) xs k (by omega)
      have hle := wtL_take_le (fun y : List Entry => y.length) xs (k + 1)
      refine sx rfl (stp_call2 Try.func53 rfl rfl rfl ((szEntryS_n W4 (h11.below st6.below) (l - (xs.length : Int) - (((xs.take k).map (fun y : List Entry => y.length)).sum : Nat)) (by omega) (by omega)).mono ?_)); rintro _ W12 ⟨rfl, hk13⟩; refine ⟨_, rfl, ?_⟩
      have st14 := St.call st6 hk13
      refine sx rfl (stp_assign (v := I (szL (l - (xs.length : Int) - (((xs.take k).map (fun y : List Entry => y.length)).sum : Nat)) ((xs[k]'hi51fab)).length)) rfl ?_)
      refine sx_nil ?_
      refine wp_seq ?_
      refine sx_region ?_
      refine sx rfl (stp_move (v := I (szL (l - (xs.length : Int) - (((xs.take k).map (fun y : List Entry => y.length)).sum : Nat)) ((xs[k]'hi51fab)).length)) rfl ?_)
      refine sx rfl (stp_lss rfl rfl ?_)
      refine sx_nil ?_
      refine sx_if rfl (fun h16 => ?_) (fun h16 => ?_)
      · skip
        have h16p := of_decide_eq_true h16
        have h16q := szL_lt h16p (by omega)
        refine wp_seq ?_
        refine sx_region ?_
        refine sx rfl (stp_assign (v := I (-1)) rfl ?_)
        refine sx_nil ?_
        refine wp_ret ?_; repeat (first | refine then_ret ?_ | refine blk_ret ?_)
        refine ret1 Try.results25 rfl ?_
        exact ⟨congrArg (fun z => Ending.returned (I z)) (szL_t (by omega)).symm, st14.bare⟩
      · skip
        have h16p := of_decide_eq_false h16
        have h16q := szL_ge h16p (by omega)
        refine wp_skip ?_
        refine sx_region ?_
        refine sx rfl (stp_move (v := I (k : Int)) hs7_5 ?_)
        refine sx rfl (stp_add rfl rfl (by (simp only [I64] at *; omega)) ?_)
        refine sx rfl (stp_assign (v := I ((k : Int) + 1)) rfl ?_)
        refine sx_nil ?_
        exact ⟨_, xs.length - (k + 1), (by omega), rfl, k + 1, (by omega), (by omega), rfl, hs7_0, (Eq.trans (show _ = I (szL (l - (xs.length : Int) - (((xs.take k).map (fun y : List Entry => y.length)).sum : Nat)) ((xs[k]'hi51fab)).length) from rfl) (show I (szL (l - (xs.length : Int) - (((xs.take k).map (fun y : List Entry => y.length)).sum : Nat)) ((xs[k]'hi51fab)).length) = I (l - (xs.length : Int) - (((xs.take (k + 1)).map (fun y : List Entry => y.length)).sum : Nat)) from congrArg I (by omega))), rfl, st14⟩
    · skip
      have h8p := of_decide_eq_false h8
      refine wp_exit ?_
      refine wp_seq ?_
      refine sx_region ?_
      refine sx rfl (stp_move (v := I (l - (xs.length : Int) - (((xs.take k).map (fun y : List Entry => y.length)).sum : Nat))) hs7_1 ?_)
      refine sx rfl (stp_assign (v := I (l - (xs.length : Int) - (((xs.take k).map (fun y : List Entry => y.length)).sum : Nat))) rfl ?_)
      refine sx_nil ?_
      refine wp_ret ?_; repeat (first | refine then_ret ?_ | refine blk_ret ?_)
      refine ret1 Try.results25 rfl ?_
      obtain rfl : k = xs.length := by omega
      rw [List.take_length] at *
      exact ⟨congrArg (fun z => Ending.returned (I z)) (by rw [szL_f (by omega)]; try omega), st6.bare⟩
set_option maxHeartbeats 2000000 in
theorem szYard_n (w : World) {x : Yard} {cs : List Value} {fp : List Nat} (hc : Shape.C w cs x fp) (l : Int) (hl : 0 ≤ l) (hl2 : l ≤ 1048576) :
    Calls Try.prog 6 #[.agg cs.toArray, I l] w fun e w' => e = .returned (I (szL l x.wt)) ∧ St w w' [] := by
  have hwt : x.wt = (wtL (fun y : List Entry => y.length) x.shelf) + (wtL (fun y : Run => y.wt) x.runs) := rfl
  refine enter2 Try.func6 rfl Try.ntmps6 (by decide) ?_
  refine wp_seq ?_
  refine sx_region ?_
  refine sx rfl (stp_box_agg (cs := cs) rfl (St.start w) ?_); intro b1 W2 hb3 st4
  refine sx rfl (stp_assign (v := I 0) rfl ?_)
  refine sx_nil ?_
  refine wp_seq ?_
  refine sx_region ?_
  refine sx rfl (stp_fieldAddr fa_YardL_2 rfl ?_)
  have hk6 := hc
  obtain ⟨v6_0, v6_1, g6_0, g6_1, rfl, hok6, h6_0, h6_1, rfl⟩ := hk6
  refine sx rfl (stp_load_bx ld_EntrySSL rfl rfl (st4.get 0 rfl) (i := 2) rfl rfl ?_)
  refine sx rfl (stp_move (v := I l) rfl ?_)
  refine sx rfl (stp_call2 Try.func25 rfl rfl rfl ((szEntrySS_n W2 (h6_0.below st4.below) l (by omega) (by omega)).mono ?_)); rintro _ W7 ⟨rfl, hk8⟩; refine ⟨_, rfl, ?_⟩
  have st9 := St.call st4 hk8
  refine sx rfl (stp_assign (v := I (szL l (wtL (fun y : List Entry => y.length) x.shelf))) rfl ?_)
  refine sx_nil ?_
  refine wp_seq ?_
  refine wp_seq ?_
  refine sx_region ?_
  refine sx rfl (stp_move (v := I (szL l (wtL (fun y : List Entry => y.length) x.shelf))) rfl ?_)
  refine sx rfl (stp_lss rfl rfl ?_)
  refine sx_nil ?_
  refine sx_if rfl (fun h11 => ?_) (fun h11 => ?_)
  · skip
    have h11p := of_decide_eq_true h11
    have h11q := szL_lt h11p (by omega)
    refine wp_seq ?_
    refine sx_region ?_
    refine sx rfl (stp_assign (v := I (-1)) rfl ?_)
    refine sx_nil ?_
    refine wp_ret ?_; repeat (first | refine then_ret ?_ | refine blk_ret ?_)
    refine ret1 Try.results6 rfl ?_
    exact ⟨congrArg (fun z => Ending.returned (I z)) (szL_t (by omega)).symm, st9.bare⟩
  · skip
    have h11p := of_decide_eq_false h11
    have h11q := szL_ge h11p (by omega)
    refine wp_skip ?_
    refine wp_seq ?_
    refine sx_region ?_
    refine sx rfl (stp_fieldAddr fa_YardL_3 rfl ?_)
    refine sx rfl (stp_load_bx ld_RunSL rfl rfl (st9.get 0 rfl) (i := 3) rfl rfl ?_)
    refine sx rfl (stp_move (v := I (szL l (wtL (fun y : List Entry => y.length) x.shelf))) rfl ?_)
    refine sx rfl (stp_call2 Try.func26 rfl rfl rfl ((szRunS_n W7 (h6_1.below st9.below) (szL l (wtL (fun y : List Entry => y.length) x.shelf)) (by omega) (by omega)).mono ?_)); rintro _ W12 ⟨rfl, hk13⟩; refine ⟨_, rfl, ?_⟩
    have st14 := St.call st9 hk13
    refine sx rfl (stp_assign (v := I (szL (szL l (wtL (fun y : List Entry => y.length) x.shelf)) (wtL (fun y : Run => y.wt) x.runs))) rfl ?_)
    refine sx_nil ?_
    refine wp_seq ?_
    refine wp_seq ?_
    refine sx_region ?_
    refine sx rfl (stp_move (v := I (szL (szL l (wtL (fun y : List Entry => y.length) x.shelf)) (wtL (fun y : Run => y.wt) x.runs))) rfl ?_)
    refine sx rfl (stp_lss rfl rfl ?_)
    refine sx_nil ?_
    refine sx_if rfl (fun h16 => ?_) (fun h16 => ?_)
    · skip
      have h16p := of_decide_eq_true h16
      have h16q := szL_lt h16p (by omega)
      refine wp_seq ?_
      refine sx_region ?_
      refine sx rfl (stp_assign (v := I (-1)) rfl ?_)
      refine sx_nil ?_
      refine wp_ret ?_; repeat (first | refine then_ret ?_ | refine blk_ret ?_)
      refine ret1 Try.results6 rfl ?_
      exact ⟨congrArg (fun z => Ending.returned (I z)) (szL_t (by omega)).symm, st14.bare⟩
    · skip
      have h16p := of_decide_eq_false h16
      have h16q := szL_ge h16p (by omega)
      refine wp_skip ?_
      refine wp_seq ?_
      refine sx_region ?_
      refine sx rfl (stp_move (v := I (szL (szL l (wtL (fun y : List Entry => y.length) x.shelf)) (wtL (fun y : Run => y.wt) x.runs))) rfl ?_)
      refine sx rfl (stp_assign (v := I (szL (szL l (wtL (fun y : List Entry => y.length) x.shelf)) (wtL (fun y : Run => y.wt) x.runs))) rfl ?_)
      refine sx_nil ?_
      refine wp_ret ?_; repeat (first | refine then_ret ?_ | refine blk_ret ?_)
      refine ret1 Try.results6 rfl ?_
      exact ⟨congrArg (fun z => Ending.returned (I z)) (by rw [szL_f (n := x.wt) (by omega)]; try omega), st14.bare⟩
set_option maxHeartbeats 2000000 in
theorem szWaitS_n (w : World) {v : Value} {xs : List Wait} {fp : List Nat} (h : Sl w v xs fp) (l : Int) (hl : 0 ≤ l) (hl2 : l ≤ 1048576) :
    Calls Try.prog 36 #[v, I l] w fun e w' => e = .returned (I (szL l xs.length)) ∧ St w w' [] := by
  have hcap := h.len_le
  refine enter2 Try.func36 rfl Try.ntmps36 (by decide) ?_
  refine wp_seq ?_
  refine sx_region ?_
  refine sx rfl (stp_assign (v := I 0) rfl ?_)
  refine sx_nil ?_
  refine wp_seq ?_
  refine sx_region ?_
  refine sx rfl (stp_move (v := I l) rfl ?_)
  refine sx rfl (stp_move (v := v) rfl ?_)
  refine sx rfl (stp_len sl_WaitSL rfl h ?_)
  refine sx rfl (stp_sub rfl rfl (by (simp only [I64] at *; omega)) ?_)
  refine sx rfl (stp_assign (v := I (l - (xs.length : Int))) rfl ?_)
  refine sx_nil ?_
  refine wp_seq ?_
  refine wp_seq ?_
  refine sx_region ?_
  refine sx rfl (stp_move (v := I (l - (xs.length : Int))) rfl ?_)
  refine sx rfl (stp_lss rfl rfl ?_)
  refine sx_nil ?_
  refine sx_if rfl (fun h1 => ?_) (fun h1 => ?_)
  · skip
    have h1p := of_decide_eq_true h1
    refine wp_seq ?_
    refine sx_region ?_
    refine sx rfl (stp_assign (v := I (-1)) rfl ?_)
    refine sx_nil ?_
    refine wp_ret ?_; repeat (first | refine then_ret ?_ | refine blk_ret ?_)
    refine ret1 Try.results36 rfl ?_
    exact ⟨congrArg (fun z => Ending.returned (I z)) (szL_t (by omega)).symm, (St.start w).bare⟩
  · skip
    have h1p := of_decide_eq_false h1
    refine wp_skip ?_
    refine wp_seq ?_
    refine sx_region ?_
    refine sx rfl (stp_move (v := I (l - (xs.length : Int))) rfl ?_)
    refine sx rfl (stp_assign (v := I (l - (xs.length : Int))) rfl ?_)
    refine sx_nil ?_
    refine wp_ret ?_; repeat (first | refine then_ret ?_ | refine blk_ret ?_)
    refine ret1 Try.results36 rfl ?_
    exact ⟨congrArg (fun z => Ending.returned (I z)) (by rw [szL_f (by omega)]; try omega), (St.start w).bare⟩
set_option maxHeartbeats 2000000 in
theorem szFile_n (w : World) {x : File} {cs : List Value} {fp : List Nat} (hc : Shape.C w cs x fp) (l : Int) (hl : 0 ≤ l) (hl2 : l ≤ 1048576) :
    Calls Try.prog 85 #[.agg cs.toArray, I l] w fun e w' => e = .returned (I (szL l x.wt)) ∧ St w w' [] := by
  have hwt : x.wt = x.name.size + x.data.size := rfl
  refine enter2 Try.func85 rfl Try.ntmps85 (by decide) ?_
  refine wp_seq ?_
  refine sx_region ?_
  refine sx rfl (stp_box_agg (cs := cs) rfl (St.start w) ?_); intro b1 W2 hb3 st4
  refine sx rfl (stp_assign (v := I 0) rfl ?_)
  refine sx_nil ?_
  refine wp_seq ?_
  refine sx_region ?_
  refine sx rfl (stp_move (v := I l) rfl ?_)
  refine sx rfl (stp_fieldAddr fa_FileL_0 rfl ?_)
  have hk6 := hc
  obtain ⟨he6, rfl, hok6⟩ := hk6
  have he6 : _ = [.string x.name, .string x.data, I x.safe] := he6
  subst he6
  refine sx rfl (stp_load_bx ld_string rfl rfl (st4.get 0 rfl) (i := 0) rfl rfl ?_)
  refine sx rfl (stp_slen Try.underlying9 rfl ?_)
  refine sx rfl (stp_sub rfl rfl (by (simp only [File.ok, maxLen, I64] at *; omega)) ?_)
  refine sx rfl (stp_assign (v := I (l - (x.name.size : Int))) rfl ?_)
  refine sx_nil ?_
  refine wp_seq ?_
  refine wp_seq ?_
  refine sx_region ?_
  refine sx rfl (stp_move (v := I (l - (x.name.size : Int))) rfl ?_)
  refine sx rfl (stp_lss rfl rfl ?_)
  refine sx_nil ?_
  refine sx_if rfl (fun h7 => ?_) (fun h7 => ?_)
  · skip
    have h7p := of_decide_eq_true h7
    refine wp_seq ?_
    refine sx_region ?_
    refine sx rfl (stp_assign (v := I (-1)) rfl ?_)
    refine sx_nil ?_
    refine wp_ret ?_; repeat (first | refine then_ret ?_ | refine blk_ret ?_)
    refine ret1 Try.results85 rfl ?_
    exact ⟨congrArg (fun z => Ending.returned (I z)) (szL_t (by omega)).symm, st4.bare⟩
  · skip
    have h7p := of_decide_eq_false h7
    refine wp_skip ?_
    refine wp_seq ?_
    refine sx_region ?_
    refine sx rfl (stp_move (v := I (l - (x.name.size : Int))) rfl ?_)
    refine sx rfl (stp_fieldAddr fa_FileL_1 rfl ?_)
    refine sx rfl (stp_load_bx ld_string rfl rfl (st4.get 0 rfl) (i := 1) rfl rfl ?_)
    refine sx rfl (stp_slen Try.underlying9 rfl ?_)
    refine sx rfl (stp_sub rfl rfl (by (simp only [File.ok, maxLen, I64] at *; omega)) ?_)
    refine sx rfl (stp_assign (v := I ((l - (x.name.size : Int)) - (x.data.size : Int))) rfl ?_)
    refine sx_nil ?_
    refine wp_seq ?_
    refine wp_seq ?_
    refine sx_region ?_
    refine sx rfl (stp_move (v := I ((l - (x.name.size : Int)) - (x.data.size : Int))) rfl ?_)
    refine sx rfl (stp_lss rfl rfl ?_)
    refine sx_nil ?_
    refine sx_if rfl (fun h8 => ?_) (fun h8 => ?_)
    · skip
      have h8p := of_decide_eq_true h8
      refine wp_seq ?_
      refine sx_region ?_
      refine sx rfl (stp_assign (v := I (-1)) rfl ?_)
      refine sx_nil ?_
      refine wp_ret ?_; repeat (first | refine then_ret ?_ | refine blk_ret ?_)
      refine ret1 Try.results85 rfl ?_
      exact ⟨congrArg (fun z => Ending.returned (I z)) (szL_t (by omega)).symm, st4.bare⟩
    · skip
      have h8p := of_decide_eq_false h8
      refine wp_skip ?_
      refine wp_seq ?_
      refine sx_region ?_
      refine sx rfl (stp_move (v := I ((l - (x.name.size : Int)) - (x.data.size : Int))) rfl ?_)
      refine sx rfl (stp_assign (v := I ((l - (x.name.size : Int)) - (x.data.size : Int))) rfl ?_)
      refine sx_nil ?_
      refine wp_ret ?_; repeat (first | refine then_ret ?_ | refine blk_ret ?_)
      refine ret1 Try.results85 rfl ?_
      exact ⟨congrArg (fun z => Ending.returned (I z)) (by rw [szL_f (n := x.wt) (by omega)]; try omega), st4.bare⟩
set_option maxHeartbeats 2000000 in
theorem szFileS_n (w : World) {v : Value} {xs : List File} {fp : List Nat} (h : Sl w v xs fp) (l : Int) (hl : 0 ≤ l) (hl2 : l ≤ 1048576) :
    Calls Try.prog 62 #[v, I l] w fun e w' => e = .returned (I (szL l (wtL (fun y : File => y.wt) xs))) ∧ St w w' [] := by
  have hcap := h.len_le
  have hwt : wtL (fun y : File => y.wt) xs = xs.length + (xs.map (fun y : File => y.wt)).sum := rfl
  refine enter2 Try.func62 rfl Try.ntmps62 (by decide) ?_
  refine wp_seq ?_
  refine sx_region ?_
  refine sx rfl (stp_assign (v := I 0) rfl ?_)
  refine sx_nil ?_
  refine wp_seq ?_
  refine sx_region ?_
  refine sx rfl (stp_move (v := I l) rfl ?_)
  refine sx rfl (stp_move (v := v) rfl ?_)
  refine sx rfl (stp_len sl_FileSL rfl h ?_)
  refine sx rfl (stp_sub rfl rfl (by (simp only [I64] at *; omega)) ?_)
  refine sx rfl (stp_assign (v := I (l - (xs.length : Int))) rfl ?_)
  refine sx_nil ?_
  refine wp_seq ?_
  refine wp_seq ?_
  refine sx_region ?_
  refine sx rfl (stp_move (v := I (l - (xs.length : Int))) rfl ?_)
  refine sx rfl (stp_lss rfl rfl ?_)
  refine sx_nil ?_
  refine sx_if rfl (fun h1 => ?_) (fun h1 => ?_)
  · skip
    have h1p := of_decide_eq_true h1
    refine wp_seq ?_
    refine sx_region ?_
    refine sx rfl (stp_assign (v := I (-1)) rfl ?_)
    refine sx_nil ?_
    refine wp_ret ?_; repeat (first | refine then_ret ?_ | refine blk_ret ?_)
    refine ret1 Try.results62 rfl ?_
    exact ⟨congrArg (fun z => Ending.returned (I z)) (szL_t (by omega)).symm, (St.start w).bare⟩
  · skip
    have h1p := of_decide_eq_false h1
    refine wp_skip ?_
    refine wp_seq ?_
    refine wp_seq ?_
    refine sx_region ?_
    refine sx rfl (stp_assign (v := I 0) rfl ?_)
    refine sx_nil ?_
    refine wp_block ?_
    refine sx_loop (fun (m : Nat) (f : Nat → Value) (W : World) => ∃ (k : Nat), k ≤ xs.length ∧ 0 ≤ l - (xs.length : Int) - (((xs.take k).map (fun y : File => y.wt)).sum : Nat) ∧ m = xs.length - k ∧ f 0 = v ∧ f 1 = I (l - (xs.length : Int) - (((xs.take k).map (fun y : File => y.wt)).sum : Nat)) ∧ f 5 = I (k : Int) ∧ St w W ([])) (xs.length - 0) ?_ ?_
    · exact ⟨0, Nat.zero_le _, (by simp; omega), rfl, rfl, (Eq.trans (show _ = I (l - (xs.length : Int)) from rfl) (show I (l - (xs.length : Int)) = I (l - (xs.length : Int) - (((xs.take 0).map (fun y : File => y.wt)).sum : Nat)) from congrArg I (by simp))), rfl, (St.start w)⟩
    intro m2 f3 W4 hJ5
    obtain ⟨k, hcd7_0, hcd7_1, rfl, hs7_0, hs7_1, hs7_5, st6⟩ := hJ5
    refine wp_seq ?_
    refine wp_seq ?_
    refine sx_region ?_
    refine sx rfl (stp_move (v := I (k : Int)) hs7_5 ?_)
    refine sx rfl (stp_move (v := v) hs7_0 ?_)
    refine sx rfl (stp_len sl_FileSL rfl h ?_)
    refine sx rfl (stp_lss rfl rfl ?_)
    refine sx_nil ?_
    refine sx_if rfl (fun h8 => ?_) (fun h8 => ?_)
    · skip
      have h8p := of_decide_eq_true h8
      refine wp_skip ?_
      refine wp_seq ?_
      refine wp_block ?_
      refine wp_seq ?_
      refine sx_region ?_
      refine sx rfl (stp_move (v := v) hs7_0 ?_)
      refine sx rfl (stp_move (v := I (k : Int)) hs7_5 ?_)
      have hi51fab : k < xs.length := (by omega)
      have hq_ := idx h (i := k) hi51fab
      obtain ⟨b9, o9, cs9, f9, hp9, hr9, hc9, hm9⟩ := hq_
      refine sx rfl (stp_indexAddr sl_FileSL rfl hp9 rfl rfl ?_)
      refine sx rfl (stp_load_rga ld_FileL rfl rfl hr9 st6.below (Shape.len hc9) ?_)
      refine sx rfl (stp_move (v := I (l - (xs.length : Int) - (((xs.take k).map (fun y : File => y.wt)).sum : Nat))) hs7_1 ?_)
      have hstep : ((xs.take (k + 1)).map (fun y : File => y.wt)).sum = ((xs.take k).map (fun y : File => y.wt)).sum + xs[k].wt := wtL_take (fun y : File => y.wt) xs k (by omega)
      have hle := wtL_take_le (fun y : File => y.wt) xs (k + 1)
      refine sx rfl (stp_call2 Try.func85 rfl rfl rfl ((szFile_n W4 hc9 (l - (xs.length : Int) - (((xs.take k).map (fun y : File => y.wt)).sum : Nat)) (by omega) (by omega)).mono ?_)); rintro _ W10 ⟨rfl, hk11⟩; refine ⟨_, rfl, ?_⟩
      have st12 := St.call st6 hk11
      refine sx rfl (stp_assign (v := I (szL (l - (xs.length : Int) - (((xs.take k).map (fun y : File => y.wt)).sum : Nat)) ((xs[k]'hi51fab)).wt)) rfl ?_)
      refine sx_nil ?_
      refine wp_seq ?_
      refine sx_region ?_
      refine sx rfl (stp_move (v := I (szL (l - (xs.length : Int) - (((xs.take k).map (fun y : File => y.wt)).sum : Nat)) ((xs[k]'hi51fab)).wt)) rfl ?_)
      refine sx rfl (stp_lss rfl rfl ?_)
      refine sx_nil ?_
      refine sx_if rfl (fun h14 => ?_) (fun h14 => ?_)
      · skip
        have h14p := of_decide_eq_true h14
        have h14q := szL_lt h14p (by omega)
        refine wp_seq ?_
        refine sx_region ?_
        refine sx rfl (stp_assign (v := I (-1)) rfl ?_)
        refine sx_nil ?_
        refine wp_ret ?_; repeat (first | refine then_ret ?_ | refine blk_ret ?_)
        refine ret1 Try.results62 rfl ?_
        exact ⟨congrArg (fun z => Ending.returned (I z)) (szL_t (by omega)).symm, st12.bare⟩
      · skip
        have h14p := of_decide_eq_false h14
        have h14q := szL_ge h14p (by omega)
        refine wp_skip ?_
        refine sx_region ?_
        refine sx rfl (stp_move (v := I (k : Int)) hs7_5 ?_)
        refine sx rfl (stp_add rfl rfl (by (simp only [I64] at *; omega)) ?_)
        refine sx rfl (stp_assign (v := I ((k : Int) + 1)) rfl ?_)
        refine sx_nil ?_
        exact ⟨_, xs.length - (k + 1), (by omega), rfl, k + 1, (by omega), (by omega), rfl, hs7_0, (Eq.trans (show _ = I (szL (l - (xs.length : Int) - (((xs.take k).map (fun y : File => y.wt)).sum : Nat)) ((xs[k]'hi51fab)).wt) from rfl) (show I (szL (l - (xs.length : Int) - (((xs.take k).map (fun y : File => y.wt)).sum : Nat)) ((xs[k]'hi51fab)).wt) = I (l - (xs.length : Int) - (((xs.take (k + 1)).map (fun y : File => y.wt)).sum : Nat)) from congrArg I (by omega))), rfl, st12⟩
    · skip
      have h8p := of_decide_eq_false h8
      refine wp_exit ?_
      refine wp_seq ?_
      refine sx_region ?_
      refine sx rfl (stp_move (v := I (l - (xs.length : Int) - (((xs.take k).map (fun y : File => y.wt)).sum : Nat))) hs7_1 ?_)
      refine sx rfl (stp_assign (v := I (l - (xs.length : Int) - (((xs.take k).map (fun y : File => y.wt)).sum : Nat))) rfl ?_)
      refine sx_nil ?_
      refine wp_ret ?_; repeat (first | refine then_ret ?_ | refine blk_ret ?_)
      refine ret1 Try.results62 rfl ?_
      obtain rfl : k = xs.length := by omega
      rw [List.take_length] at *
      exact ⟨congrArg (fun z => Ending.returned (I z)) (by rw [szL_f (by omega)]; try omega), st6.bare⟩
set_option maxHeartbeats 2000000 in
theorem szDisk_n (w : World) {x : Disk} {cs : List Value} {fp : List Nat} (hc : Shape.C w cs x fp) (l : Int) (hl : 0 ≤ l) (hl2 : l ≤ 1048576) :
    Calls Try.prog 35 #[.agg cs.toArray, I l] w fun e w' => e = .returned (I (szL l x.wt)) ∧ St w w' [] := by
  have hwt : x.wt = (wtL (fun y : File => y.wt) x.files) := rfl
  refine enter2 Try.func35 rfl Try.ntmps35 (by decide) ?_
  refine wp_seq ?_
  refine sx_region ?_
  refine sx rfl (stp_box_agg (cs := cs) rfl (St.start w) ?_); intro b1 W2 hb3 st4
  refine sx rfl (stp_assign (v := I 0) rfl ?_)
  refine sx_nil ?_
  refine wp_seq ?_
  refine sx_region ?_
  refine sx rfl (stp_fieldAddr fa_DiskL_0 rfl ?_)
  have hk6 := hc
  obtain ⟨v6_0, g6_0, rfl, hok6, h6_0, rfl⟩ := hk6
  refine sx rfl (stp_load_bx ld_FileSL rfl rfl (st4.get 0 rfl) (i := 0) rfl rfl ?_)
  refine sx rfl (stp_move (v := I l) rfl ?_)
  refine sx rfl (stp_call2 Try.func62 rfl rfl rfl ((szFileS_n W2 (h6_0.below st4.below) l (by omega) (by omega)).mono ?_)); rintro _ W7 ⟨rfl, hk8⟩; refine ⟨_, rfl, ?_⟩
  have st9 := St.call st4 hk8
  refine sx rfl (stp_assign (v := I (szL l (wtL (fun y : File => y.wt) x.files))) rfl ?_)
  refine sx_nil ?_
  refine wp_seq ?_
  refine wp_seq ?_
  refine sx_region ?_
  refine sx rfl (stp_move (v := I (szL l (wtL (fun y : File => y.wt) x.files))) rfl ?_)
  refine sx rfl (stp_lss rfl rfl ?_)
  refine sx_nil ?_
  refine sx_if rfl (fun h11 => ?_) (fun h11 => ?_)
  · skip
    have h11p := of_decide_eq_true h11
    have h11q := szL_lt h11p (by omega)
    refine wp_seq ?_
    refine sx_region ?_
    refine sx rfl (stp_assign (v := I (-1)) rfl ?_)
    refine sx_nil ?_
    refine wp_ret ?_; repeat (first | refine then_ret ?_ | refine blk_ret ?_)
    refine ret1 Try.results35 rfl ?_
    exact ⟨congrArg (fun z => Ending.returned (I z)) (szL_t (by omega)).symm, st9.bare⟩
  · skip
    have h11p := of_decide_eq_false h11
    have h11q := szL_ge h11p (by omega)
    refine wp_skip ?_
    refine wp_seq ?_
    refine sx_region ?_
    refine sx rfl (stp_move (v := I (szL l (wtL (fun y : File => y.wt) x.files))) rfl ?_)
    refine sx rfl (stp_assign (v := I (szL l (wtL (fun y : File => y.wt) x.files))) rfl ?_)
    refine sx_nil ?_
    refine wp_ret ?_; repeat (first | refine then_ret ?_ | refine blk_ret ?_)
    refine ret1 Try.results35 rfl ?_
    exact ⟨congrArg (fun z => Ending.returned (I z)) (by rw [szL_f (n := x.wt) (by omega)]; try omega), st9.bare⟩
set_option maxHeartbeats 2000000 in
theorem szEngine_n (w : World) {x : Engine} {cs : List Value} {fp : List Nat} (hc : Shape.C w cs x fp) (l : Int) (hl : 0 ≤ l) (hl2 : l ≤ 1048576) :
    Calls Try.prog 15 #[.agg cs.toArray, I l] w fun e w' => e = .returned (I (szL l x.wt)) ∧ St w w' [] := by
  have hwt : x.wt = x.yard.wt + x.disk.wt + x.waits.length := rfl
  refine enter2 Try.func15 rfl Try.ntmps15 (by decide) ?_
  refine wp_seq ?_
  refine sx_region ?_
  refine sx rfl (stp_box_agg (cs := cs) rfl (St.start w) ?_); intro b1 W2 hb3 st4
  refine sx rfl (stp_assign (v := I 0) rfl ?_)
  refine sx_nil ?_
  refine wp_seq ?_
  refine sx_region ?_
  refine sx rfl (stp_fieldAddr fa_EngineL_0 rfl ?_)
  have hk6 := hc
  obtain ⟨v6_0, v6_1, v6_2, v6_3, g6_0, g6_1, g6_2, g6_3, rfl, hok6, h6_0, h6_1, h6_2, h6_3, rfl⟩ := hk6
  refine sx rfl (stp_load_bxs (cs := [I x.yard.now, I x.yard.seq, v6_0, v6_1]) ld_YardL rfl rfl (st4.get 0 rfl) rfl rfl ?_)
  refine sx rfl (stp_move (v := I l) rfl ?_)
  refine sx rfl (stp_call2 Try.func6 rfl rfl rfl ((szYard_n W2 (show Shape.C _ [I x.yard.now, I x.yard.seq, v6_0, v6_1] x.yard _ from ⟨_, _, _, _, rfl, (by first | exact True.intro | (simp only [Edge.ok, Plan.ok, Entry.ok, Task.ok, Run.ok, Yard.ok, Reply.ok, Deed.ok, Note.ok, Wait.ok, File.ok, Disk.ok, Engine.ok, WorldD.ok, ActD.ok, Hand.ok, Span.ok, Crew.ok, View.ok, I64] at *; omega)), (h6_0.below st4.below), (h6_1.below st4.below), rfl⟩) l (by omega) (by omega)).mono ?_)); rintro _ W7 ⟨rfl, hk8⟩; refine ⟨_, rfl, ?_⟩
  have st9 := St.call st4 hk8
  refine sx rfl (stp_assign (v := I (szL l x.yard.wt)) rfl ?_)
  refine sx_nil ?_
  refine wp_seq ?_
  refine wp_seq ?_
  refine sx_region ?_
  refine sx rfl (stp_move (v := I (szL l x.yard.wt)) rfl ?_)
  refine sx rfl (stp_lss rfl rfl ?_)
  refine sx_nil ?_
  refine sx_if rfl (fun h11 => ?_) (fun h11 => ?_)
  · skip
    have h11p := of_decide_eq_true h11
    have h11q := szL_lt h11p (by omega)
    refine wp_seq ?_
    refine sx_region ?_
    refine sx rfl (stp_assign (v := I (-1)) rfl ?_)
    refine sx_nil ?_
    refine wp_ret ?_; repeat (first | refine then_ret ?_ | refine blk_ret ?_)
    refine ret1 Try.results15 rfl ?_
    exact ⟨congrArg (fun z => Ending.returned (I z)) (szL_t (by omega)).symm, st9.bare⟩
  · skip
    have h11p := of_decide_eq_false h11
    have h11q := szL_ge h11p (by omega)
    refine wp_skip ?_
    refine wp_seq ?_
    refine sx_region ?_
    refine sx rfl (stp_fieldAddr fa_EngineL_1 rfl ?_)
    refine sx rfl (stp_load_bxs (cs := [v6_2]) ld_DiskL rfl rfl (st9.get 0 rfl) rfl rfl ?_)
    refine sx rfl (stp_move (v := I (szL l x.yard.wt)) rfl ?_)
    refine sx rfl (stp_call2 Try.func35 rfl rfl rfl ((szDisk_n W7 (show Shape.C _ [v6_2] x.disk _ from ⟨_, _, rfl, (by first | exact True.intro | (simp only [Edge.ok, Plan.ok, Entry.ok, Task.ok, Run.ok, Yard.ok, Reply.ok, Deed.ok, Note.ok, Wait.ok, File.ok, Disk.ok, Engine.ok, WorldD.ok, ActD.ok, Hand.ok, Span.ok, Crew.ok, View.ok, I64] at *; omega)), (h6_2.below st9.below), rfl⟩) (szL l x.yard.wt) (by omega) (by omega)).mono ?_)); rintro _ W12 ⟨rfl, hk13⟩; refine ⟨_, rfl, ?_⟩
    have st14 := St.call st9 hk13
    refine sx rfl (stp_assign (v := I (szL (szL l x.yard.wt) x.disk.wt)) rfl ?_)
    refine sx_nil ?_
    refine wp_seq ?_
    refine wp_seq ?_
    refine sx_region ?_
    refine sx rfl (stp_move (v := I (szL (szL l x.yard.wt) x.disk.wt)) rfl ?_)
    refine sx rfl (stp_lss rfl rfl ?_)
    refine sx_nil ?_
    refine sx_if rfl (fun h16 => ?_) (fun h16 => ?_)
    · skip
      have h16p := of_decide_eq_true h16
      have h16q := szL_lt h16p (by omega)
      refine wp_seq ?_
      refine sx_region ?_
      refine sx rfl (stp_assign (v := I (-1)) rfl ?_)
      refine sx_nil ?_
      refine wp_ret ?_; repeat (first | refine then_ret ?_ | refine blk_ret ?_)
      refine ret1 Try.results15 rfl ?_
      exact ⟨congrArg (fun z => Ending.returned (I z)) (szL_t (by omega)).symm, st14.bare⟩
    · skip
      have h16p := of_decide_eq_false h16
      have h16q := szL_ge h16p (by omega)
      refine wp_skip ?_
      refine wp_seq ?_
      refine sx_region ?_
      refine sx rfl (stp_fieldAddr fa_EngineL_4 rfl ?_)
      refine sx rfl (stp_load_bx ld_WaitSL rfl rfl (st14.get 0 rfl) (i := 7) rfl rfl ?_)
      refine sx rfl (stp_move (v := I (szL (szL l x.yard.wt) x.disk.wt)) rfl ?_)
      refine sx rfl (stp_call2 Try.func36 rfl rfl rfl ((szWaitS_n W12 (h6_3.below st14.below) (szL (szL l x.yard.wt) x.disk.wt) (by omega) (by omega)).mono ?_)); rintro _ W17 ⟨rfl, hk18⟩; refine ⟨_, rfl, ?_⟩
      have st19 := St.call st14 hk18
      refine sx rfl (stp_assign (v := I (szL (szL (szL l x.yard.wt) x.disk.wt) x.waits.length)) rfl ?_)
      refine sx_nil ?_
      refine wp_seq ?_
      refine wp_seq ?_
      refine sx_region ?_
      refine sx rfl (stp_move (v := I (szL (szL (szL l x.yard.wt) x.disk.wt) x.waits.length)) rfl ?_)
      refine sx rfl (stp_lss rfl rfl ?_)
      refine sx_nil ?_
      refine sx_if rfl (fun h21 => ?_) (fun h21 => ?_)
      · skip
        have h21p := of_decide_eq_true h21
        have h21q := szL_lt h21p (by omega)
        refine wp_seq ?_
        refine sx_region ?_
        refine sx rfl (stp_assign (v := I (-1)) rfl ?_)
        refine sx_nil ?_
        refine wp_ret ?_; repeat (first | refine then_ret ?_ | refine blk_ret ?_)
        refine ret1 Try.results15 rfl ?_
        exact ⟨congrArg (fun z => Ending.returned (I z)) (szL_t (by omega)).symm, st19.bare⟩
      · skip
        have h21p := of_decide_eq_false h21
        have h21q := szL_ge h21p (by omega)
        refine wp_skip ?_
        refine wp_seq ?_
        refine sx_region ?_
        refine sx rfl (stp_move (v := I (szL (szL (szL l x.yard.wt) x.disk.wt) x.waits.length)) rfl ?_)
        refine sx rfl (stp_assign (v := I (szL (szL (szL l x.yard.wt) x.disk.wt) x.waits.length)) rfl ?_)
        refine sx_nil ?_
        refine wp_ret ?_; repeat (first | refine then_ret ?_ | refine blk_ret ?_)
        refine ret1 Try.results15 rfl ?_
        exact ⟨congrArg (fun z => Ending.returned (I z)) (by rw [szL_f (n := x.wt) (by omega)]; try omega), st19.bare⟩
end Go.Proofs.Ytpkfgalpjaoebaa
