/-
  The laws' measures. (Printed by a program of this project's.)
-/
import Derived.Test.YtchnllpegfbleaaSxStr
import Derived.Test.YtchnllpegfbleaaKBase
namespace Go.Proofs.Ytchnllpegfbleaa
set_option linter.unusedSimpArgs false
set_option linter.unusedVariables false
set_option maxRecDepth 100000
open Go.RowKit

theorem szL_lt {l : Int} {n : Nat} (h : szL l n < 0) (hl : 0 ≤ l) : l < n := by
  unfold szL at h; split at h <;> omega
theorem szL_ge {l : Int} {n : Nat} (h : ¬ szL l n < 0) (hl : 0 ≤ l) : (n : Int) ≤ l ∧ szL l n = l - n := by
  unfold szL at *; split at h <;> simp_all <;> omega

set_option maxHeartbeats 2000000 in
theorem szEdgeS_n (w : World) {v : Value} {xs : List Edge} {fp : List Nat} (h : Sl w v xs fp) (l : Int) (hl : 0 ≤ l) (hl2 : l ≤ 1048576) :
    Calls Try.prog 32 #[v, I l] w fun e w' => e = .returned (I (szL l xs.length)) ∧ St w w' [] := by
  have hcap := h.len_le
  refine enter2 Try.func32 rfl Try.ntmps32 (by decide) ?_
  refine wp_seq ?_
  refine sx_region ?_
  refine sx rfl (stp_assign (v := I 0) rfl ?_)
  refine sx_nil ?_
  refine wp_seq ?_
  refine sx_region ?_
  refine sx rfl (stp_move (v := I l) rfl ?_)
  refine sx rfl (stp_move (v := v) rfl ?_)
  refine sx rfl (stp_len sl_EdgeSL rfl h ?_)
  refine sx rfl (stp_sub rfl rfl (by (simp only [I64] at *; omega)) ?_)
  refine sx rfl (stp_assign (v := I (l - (xs.length : Int))) rfl ?_)
  refine sx_nil ?_
  refine wp_seq ?_
  refine wp_seq ?_
  refine sx_region ?_
  refine sx rfl (stp_move (v := I (l - (xs.length : Int))) rfl ?_)
  refine sx rfl (stp_lss rfl rfl ?_)
  refine sx_nil ?_
  refine sx_if rfl (fun h1 => ?_) (fun h1 => ?_)
  · skip
    have h1p := of_decide_eq_true h1
    refine wp_seq ?_
    refine sx_region ?_
    refine sx rfl (stp_assign (v := I (-1)) rfl ?_)
    refine sx_nil ?_
    refine wp_ret ?_; repeat (first | refine then_ret ?_ | refine blk_ret ?_)
    refine ret1 Try.results32 rfl ?_
    exact ⟨congrArg (fun z => Ending.returned (I z)) (szL_t (by omega)).symm, (St.start w).bare⟩
  · skip
    have h1p := of_decide_eq_false h1
    refine wp_skip ?_
    refine wp_seq ?_
    refine sx_region ?_
    refine sx rfl (stp_move (v := I (l - (xs.length : Int))) rfl ?_)
    refine sx rfl (stp_assign (v := I (l - (xs.length : Int))) rfl ?_)
    refine sx_nil ?_
    refine wp_ret ?_; repeat (first | refine then_ret ?_ | refine blk_ret ?_)
    refine ret1 Try.results32 rfl ?_
    exact ⟨congrArg (fun z => Ending.returned (I z)) (by rw [szL_f (by omega)]; try omega), (St.start w).bare⟩
set_option maxHeartbeats 2000000 in
theorem szPlan_n (w : World) {x : Plan} {cs : List Value} {fp : List Nat} (hc : Shape.C w cs x fp) (l : Int) (hl : 0 ≤ l) (hl2 : l ≤ 1048576) :
    Calls Try.prog 27 #[.agg cs.toArray, I l] w fun e w' => e = .returned (I (szL l x.wt)) ∧ St w w' [] := by
  have hwt : x.wt = x.edges.length := rfl
  refine enter2 Try.func27 rfl Try.ntmps27 (by decide) ?_
  refine wp_seq ?_
  refine sx_region ?_
  refine sx rfl (stp_box_agg (cs := cs) rfl (St.start w) ?_); intro b1 W2 hb3 st4
  refine sx rfl (stp_assign (v := I 0) rfl ?_)
  refine sx_nil ?_
  refine wp_seq ?_
  refine sx_region ?_
  refine sx rfl (stp_fieldAddr fa_PlanL_4 rfl ?_)
  have hk6 := hc
  obtain ⟨v6_0, g6_0, rfl, hok6, h6_0, rfl⟩ := hk6
  refine sx rfl (stp_load_bx ld_EdgeSL rfl rfl (st4.get 0 rfl) (i := 4) rfl rfl ?_)
  refine sx rfl (stp_move (v := I l) rfl ?_)
  refine sx rfl (stp_call2 Try.func32 rfl rfl rfl ((szEdgeS_n W2 (h6_0.below st4.below) l (by omega) (by omega)).mono ?_)); rintro _ W7 ⟨rfl, hk8⟩; refine ⟨_, rfl, ?_⟩
  have st9 := St.call st4 hk8
  refine sx rfl (stp_assign (v := I (szL l x.edges.length)) rfl ?_)
  refine sx_nil ?_
  refine wp_seq ?_
  refine wp_seq ?_
  refine sx_region ?_
  refine sx rfl (stp_move (v := I (szL l x.edges.length)) rfl ?_)
  refine sx rfl (stp_lss rfl rfl ?_)
  refine sx_nil ?_
  refine sx_if rfl (fun h11 => ?_) (fun h11 => ?_)
  · skip
    have h11p := of_decide_eq_true h11
    have h11q := szL_lt h11p (by omega)
    refine wp_seq ?_
    refine sx_region ?_
    refine sx rfl (stp_assign (v := I (-1)) rfl ?_)
    refine sx_nil ?_
    refine wp_ret ?_; repeat (first | refine then_ret ?_ | refine blk_ret ?_)
    refine ret1 Try.results27 rfl ?_
    exact ⟨congrArg (fun z => Ending.returned (I z)) (szL_t (by omega)).symm, st9.bare⟩
  · skip
    have h11p := of_decide_eq_false h11
    have h11q := szL_ge h11p (by omega)
    refine wp_skip ?_
    refine wp_seq ?_
    refine sx_region ?_
    refine sx rfl (stp_move (v := I (szL l x.edges.length)) rfl ?_)
    refine sx rfl (stp_assign (v := I (szL l x.edges.length)) rfl ?_)
    refine sx_nil ?_
    refine wp_ret ?_; repeat (first | refine then_ret ?_ | refine blk_ret ?_)
    refine ret1 Try.results27 rfl ?_
    exact ⟨congrArg (fun z => Ending.returned (I z)) (by rw [szL_f (n := x.wt) (by omega)]; try omega), st9.bare⟩
set_option maxHeartbeats 2000000 in
theorem szReplyS_n (w : World) {v : Value} {xs : List Reply} {fp : List Nat} (h : Sl w v xs fp) (l : Int) (hl : 0 ≤ l) (hl2 : l ≤ 1048576) :
    Calls Try.prog 5 #[v, I l] w fun e w' => e = .returned (I (szL l xs.length)) ∧ St w w' [] := by
  have hcap := h.len_le
  refine enter2 Try.func5 rfl Try.ntmps5 (by decide) ?_
  refine wp_seq ?_
  refine sx_region ?_
  refine sx rfl (stp_assign (v := I 0) rfl ?_)
  refine sx_nil ?_
  refine wp_seq ?_
  refine sx_region ?_
  refine sx rfl (stp_move (v := I l) rfl ?_)
  refine sx rfl (stp_move (v := v) rfl ?_)
  refine sx rfl (stp_len sl_ReplySL rfl h ?_)
  refine sx rfl (stp_sub rfl rfl (by (simp only [I64] at *; omega)) ?_)
  refine sx rfl (stp_assign (v := I (l - (xs.length : Int))) rfl ?_)
  refine sx_nil ?_
  refine wp_seq ?_
  refine wp_seq ?_
  refine sx_region ?_
  refine sx rfl (stp_move (v := I (l - (xs.length : Int))) rfl ?_)
  refine sx rfl (stp_lss rfl rfl ?_)
  refine sx_nil ?_
  refine sx_if rfl (fun h1 => ?_) (fun h1 => ?_)
  · skip
    have h1p := of_decide_eq_true h1
    refine wp_seq ?_
    refine sx_region ?_
    refine sx rfl (stp_assign (v := I (-1)) rfl ?_)
    refine sx_nil ?_
    refine wp_ret ?_; repeat (first | refine then_ret ?_ | refine blk_ret ?_)
    refine ret1 Try.results5 rfl ?_
    exact ⟨congrArg (fun z => Ending.returned (I z)) (szL_t (by omega)).symm, (St.start w).bare⟩
  · skip
    have h1p := of_decide_eq_false h1
    refine wp_skip ?_
    refine wp_seq ?_
    refine sx_region ?_
    refine sx rfl (stp_move (v := I (l - (xs.length : Int))) rfl ?_)
    refine sx rfl (stp_assign (v := I (l - (xs.length : Int))) rfl ?_)
    refine sx_nil ?_
    refine wp_ret ?_; repeat (first | refine then_ret ?_ | refine blk_ret ?_)
    refine ret1 Try.results5 rfl ?_
    exact ⟨congrArg (fun z => Ending.returned (I z)) (by rw [szL_f (by omega)]; try omega), (St.start w).bare⟩
set_option maxHeartbeats 2000000 in
theorem szDeed_n (w : World) {x : Deed} {cs : List Value} {fp : List Nat} (hc : Shape.C w cs x fp) (l : Int) (hl : 0 ≤ l) (hl2 : l ≤ 1048576) :
    Calls Try.prog 17 #[.agg cs.toArray, I l] w fun e w' => e = .returned (I (szL l x.wt)) ∧ St w w' [] := by
  have hwt : x.wt = x.plan.wt := rfl
  refine enter2 Try.func17 rfl Try.ntmps17 (by decide) ?_
  refine wp_seq ?_
  refine sx_region ?_
  refine sx rfl (stp_box_agg (cs := cs) rfl (St.start w) ?_); intro b1 W2 hb3 st4
  refine sx rfl (stp_assign (v := I 0) rfl ?_)
  refine sx_nil ?_
  refine wp_seq ?_
  refine sx_region ?_
  refine sx rfl (stp_fieldAddr fa_DeedL_2 rfl ?_)
  have hk6 := hc
  obtain ⟨v6_0, g6_0, rfl, hok6, h6_0, rfl⟩ := hk6
  refine sx rfl (stp_load_bxs (cs := [I x.plan.prio, I x.plan.most, I x.plan.wait, I x.plan.tasks, v6_0]) ld_PlanL rfl rfl (st4.get 0 rfl) rfl rfl ?_)
  refine sx rfl (stp_move (v := I l) rfl ?_)
  refine sx rfl (stp_call2 Try.func27 rfl rfl rfl ((szPlan_n W2 (show Shape.C _ [I x.plan.prio, I x.plan.most, I x.plan.wait, I x.plan.tasks, v6_0] x.plan _ from ⟨_, _, rfl, (by first | exact True.intro | (simp only [Edge.ok, Plan.ok, Entry.ok, Task.ok, Run.ok, Yard.ok, Reply.ok, Deed.ok, Note.ok, Wait.ok, File.ok, Disk.ok, Engine.ok, WorldD.ok, ActD.ok, Hand.ok, Span.ok, Crew.ok, View.ok, I64] at *; omega)), (h6_0.below st4.below), rfl⟩) l (by omega) (by omega)).mono ?_)); rintro _ W7 ⟨rfl, hk8⟩; refine ⟨_, rfl, ?_⟩
  have st9 := St.call st4 hk8
  refine sx rfl (stp_assign (v := I (szL l x.plan.wt)) rfl ?_)
  refine sx_nil ?_
  refine wp_seq ?_
  refine wp_seq ?_
  refine sx_region ?_
  refine sx rfl (stp_move (v := I (szL l x.plan.wt)) rfl ?_)
  refine sx rfl (stp_lss rfl rfl ?_)
  refine sx_nil ?_
  refine sx_if rfl (fun h11 => ?_) (fun h11 => ?_)
  · skip
    have h11p := of_decide_eq_true h11
    have h11q := szL_lt h11p (by omega)
    refine wp_seq ?_
    refine sx_region ?_
    refine sx rfl (stp_assign (v := I (-1)) rfl ?_)
    refine sx_nil ?_
    refine wp_ret ?_; repeat (first | refine then_ret ?_ | refine blk_ret ?_)
    refine ret1 Try.results17 rfl ?_
    exact ⟨congrArg (fun z => Ending.returned (I z)) (szL_t (by omega)).symm, st9.bare⟩
  · skip
    have h11p := of_decide_eq_false h11
    have h11q := szL_ge h11p (by omega)
    refine wp_skip ?_
    refine wp_seq ?_
    refine sx_region ?_
    refine sx rfl (stp_move (v := I (szL l x.plan.wt)) rfl ?_)
    refine sx rfl (stp_assign (v := I (szL l x.plan.wt)) rfl ?_)
    refine sx_nil ?_
    refine wp_ret ?_; repeat (first | refine then_ret ?_ | refine blk_ret ?_)
    refine ret1 Try.results17 rfl ?_
    exact ⟨congrArg (fun z => Ending.returned (I z)) (by rw [szL_f (n := x.wt) (by omega)]; try omega), st9.bare⟩
set_option maxHeartbeats 2000000 in
theorem szDeedS_n (w : World) {v : Value} {xs : List Deed} {fp : List Nat} (h : Sl w v xs fp) (l : Int) (hl : 0 ≤ l) (hl2 : l ≤ 1048576) :
    Calls Try.prog 4 #[v, I l] w fun e w' => e = .returned (I (szL l (wtL (fun y : Deed => y.wt) xs))) ∧ St w w' [] := by
  have hcap := h.len_le
  have hwt : wtL (fun y : Deed => y.wt) xs = xs.length + (xs.map (fun y : Deed => y.wt)).sum := rfl
  refine enter2 Try.func4 rfl Try.ntmps4 (by decide) ?_
  refine wp_seq ?_
  refine sx_region ?_
  refine sx rfl (stp_assign (v := I 0) rfl ?_)
  refine sx_nil ?_
  refine wp_seq ?_
  refine sx_region ?_
  refine sx rfl (stp_move (v := I l) rfl ?_)
  refine sx rfl (stp_move (v := v) rfl ?_)
  refine sx rfl (stp_len sl_DeedSL rfl h ?_)
  refine sx rfl (stp_sub rfl rfl (by (simp only [I64] at *; omega)) ?_)
  refine sx rfl (stp_assign (v := I (l - (xs.length : Int))) rfl ?_)
  refine sx_nil ?_
  refine wp_seq ?_
  refine wp_seq ?_
  refine sx_region ?_
  refine sx rfl (stp_move (v := I (l - (xs.length : Int))) rfl ?_)
  refine sx rfl (stp_lss rfl rfl ?_)
  refine sx_nil ?_
  refine sx_if rfl (fun h1 => ?_) (fun h1 => ?_)
  · skip
    have h1p := of_decide_eq_true h1
    refine wp_seq ?_
    refine sx_region ?_
    refine sx rfl (stp_assign (v := I (-1)) rfl ?_)
    refine sx_nil ?_
    refine wp_ret ?_; repeat (first | refine then_ret ?_ | refine blk_ret ?_)
    refine ret1 Try.results4 rfl ?_
    exact ⟨congrArg (fun z => Ending.returned (I z)) (szL_t (by omega)).symm, (St.start w).bare⟩
  · skip
    have h1p := of_decide_eq_false h1
    refine wp_skip ?_
    refine wp_seq ?_
    refine wp_seq ?_
    refine sx_region ?_
    refine sx rfl (stp_assign (v := I 0) rfl ?_)
    refine sx_nil ?_
    refine wp_block ?_
    refine sx_loop (fun (m : Nat) (f : Nat → Value) (W : World) => ∃ (k : Nat), k ≤ xs.length ∧ 0 ≤ l - (xs.length : Int) - (((xs.take k).map (fun y : Deed => y.wt)).sum : Nat) ∧ m = xs.length - k ∧ f 0 = v ∧ f 1 = I (l - (xs.length : Int) - (((xs.take k).map (fun y : Deed => y.wt)).sum : Nat)) ∧ f 5 = I (k : Int) ∧ St w W ([])) (xs.length - 0) ?_ ?_
    · exact ⟨0, Nat.zero_le _, (by simp; omega), rfl, rfl, (Eq.trans (show _ = I (l - (xs.length : Int)) from rfl) (show I (l - (xs.length : Int)) = I (l - (xs.length : Int) - (((xs.take 0).map (fun y : Deed => y.wt)).sum : Nat)) from congrArg I (by simp))), rfl, (St.start w)⟩
    intro m2 f3 W4 hJ5
    obtain ⟨k, hcd7_0, hcd7_1, rfl, hs7_0, hs7_1, hs7_5, st6⟩ := hJ5
    refine wp_seq ?_
    refine wp_seq ?_
    refine sx_region ?_
    refine sx rfl (stp_move (v := I (k : Int)) hs7_5 ?_)
    refine sx rfl (stp_move (v := v) hs7_0 ?_)
    refine sx rfl (stp_len sl_DeedSL rfl h ?_)
    refine sx rfl (stp_lss rfl rfl ?_)
    refine sx_nil ?_
    refine sx_if rfl (fun h8 => ?_) (fun h8 => ?_)
    · skip
      have h8p := of_decide_eq_true h8
      refine wp_skip ?_
      refine wp_seq ?_
      refine wp_block ?_
      refine wp_seq ?_
      refine sx_region ?_
      refine sx rfl (stp_move (v := v) hs7_0 ?_)
      refine sx rfl (stp_move (v := I (k : Int)) hs7_5 ?_)
      have hi51fab : k < xs.length := (by omega)
      have hq_ := idx h (i := k) hi51fab
      obtain ⟨b9, o9, cs9, f9, hp9, hr9, hc9, hm9⟩ := hq_
      refine sx rfl (stp_indexAddr sl_DeedSL rfl hp9 rfl rfl ?_)
      refine sx rfl (stp_load_rga ld_DeedL rfl rfl hr9 st6.below (Shape.len hc9) ?_)
      refine sx rfl (stp_move (v := I (l - (xs.length : Int) - (((xs.take k).map (fun y : Deed => y.wt)).sum : Nat))) hs7_1 ?_)
      have hstep : ((xs.take (k + 1)).map (fun y : Deed => y.wt)).sum = ((xs.take k).map (fun y : Deed => y.wt)).sum + xs[k].wt := wtL_take (fun y : Deed => y.wt) xs k (by omega)
      have hle := wtL_take_le (fun y : Deed => y.wt) xs (k + 1)
      refine sx rfl (stp_call2 Try.func17 rfl rfl rfl ((szDeed_n W4 (C_below hc9 st6.below) (l - (xs.length : Int) - (((xs.take k).map (fun y : Deed => y.wt)).sum : Nat)) (by omega) (by omega)).mono ?_)); rintro _ W10 ⟨rfl, hk11⟩; refine ⟨_, rfl, ?_⟩
      have st12 := St.call st6 hk11
      refine sx rfl (stp_assign (v := I (szL (l - (xs.length : Int) - (((xs.take k).map (fun y : Deed => y.wt)).sum : Nat)) ((xs[k]'hi51fab)).wt)) rfl ?_)
      refine sx_nil ?_
      refine wp_seq ?_
      refine sx_region ?_
      refine sx rfl (stp_move (v := I (szL (l - (xs.length : Int) - (((xs.take k).map (fun y : Deed => y.wt)).sum : Nat)) ((xs[k]'hi51fab)).wt)) rfl ?_)
      refine sx rfl (stp_lss rfl rfl ?_)
      refine sx_nil ?_
      refine sx_if rfl (fun h14 => ?_) (fun h14 => ?_)
      · skip
        have h14p := of_decide_eq_true h14
        have h14q := szL_lt h14p (by omega)
        refine wp_seq ?_
        refine sx_region ?_
        refine sx rfl (stp_assign (v := I (-1)) rfl ?_)
        refine sx_nil ?_
        refine wp_ret ?_; repeat (first | refine then_ret ?_ | refine blk_ret ?_)
        refine ret1 Try.results4 rfl ?_
        exact ⟨congrArg (fun z => Ending.returned (I z)) (szL_t (by omega)).symm, st12.bare⟩
      · skip
        have h14p := of_decide_eq_false h14
        have h14q := szL_ge h14p (by omega)
        refine wp_skip ?_
        refine sx_region ?_
        refine sx rfl (stp_move (v := I (k : Int)) hs7_5 ?_)
        refine sx rfl (stp_add rfl rfl (by (simp only [I64] at *; omega)) ?_)
        refine sx rfl (stp_assign (v := I ((k : Int) + 1)) rfl ?_)
        refine sx_nil ?_
        exact ⟨_, xs.length - (k + 1), (by omega), rfl, k + 1, (by omega), (by omega), rfl, hs7_0, (Eq.trans (show _ = I (szL (l - (xs.length : Int) - (((xs.take k).map (fun y : Deed => y.wt)).sum : Nat)) ((xs[k]'hi51fab)).wt) from rfl) (show I (szL (l - (xs.length : Int) - (((xs.take k).map (fun y : Deed => y.wt)).sum : Nat)) ((xs[k]'hi51fab)).wt) = I (l - (xs.length : Int) - (((xs.take (k + 1)).map (fun y : Deed => y.wt)).sum : Nat)) from congrArg I (by omega))), rfl, st12⟩
    · skip
      have h8p := of_decide_eq_false h8
      refine wp_exit ?_
      refine wp_seq ?_
      refine sx_region ?_
      refine sx rfl (stp_move (v := I (l - (xs.length : Int) - (((xs.take k).map (fun y : Deed => y.wt)).sum : Nat))) hs7_1 ?_)
      refine sx rfl (stp_assign (v := I (l - (xs.length : Int) - (((xs.take k).map (fun y : Deed => y.wt)).sum : Nat))) rfl ?_)
      refine sx_nil ?_
      refine wp_ret ?_; repeat (first | refine then_ret ?_ | refine blk_ret ?_)
      refine ret1 Try.results4 rfl ?_
      obtain rfl : k = xs.length := by omega
      rw [List.take_length] at *
      exact ⟨congrArg (fun z => Ending.returned (I z)) (by rw [szL_f (by omega)]; try omega), st6.bare⟩
end Go.Proofs.Ytchnllpegfbleaa
