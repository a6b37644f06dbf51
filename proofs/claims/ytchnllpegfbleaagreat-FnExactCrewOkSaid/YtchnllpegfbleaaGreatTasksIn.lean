/-
  TasksIn, of the program and of the reference. (Printed by a program of this project's.)
-/
import Derived.Test.YtchnllpegfbleaaGreatTab
namespace Go.Proofs.YtchnllpegfbleaaGreat
set_option linter.unusedSimpArgs false
set_option linter.unusedVariables false
set_option maxRecDepth 100000
open Go.RowKit


/-- The places of the tasks with a state, of the first k. -/
def tasksTo (ts : List Task) (s : Int) (k : Nat) : List Int := (List.range k).filterMap (fun i : Nat => if (ts[i]?).map Task.state = some s then some (i : Int) else none)
def tasksIn (ts : List Task) (s : Int) : List Int := tasksTo ts s ts.length
theorem tasksTo_len (ts : List Task) (s : Int) (k : Nat) : (tasksTo ts s k).length ≤ k := by
  unfold tasksTo
  have := List.length_filterMap_le (fun i : Nat => if (ts[i]?).map Task.state = some s then some (i : Int) else none) (List.range k)
  rwa [List.length_range] at this
theorem tasksTo_t {ts : List Task} {s : Int} {k : Nat} (h : k < ts.length) (hs : ts[k].state = s) : tasksTo ts s (k + 1) = tasksTo ts s k ++ [(k : Int)] := by
  unfold tasksTo
  rw [List.range_succ, List.filterMap_append]
  simp [h, hs]
theorem tasksTo_f {ts : List Task} {s : Int} {k : Nat} (h : k < ts.length) (hs : ¬ ts[k].state = s) : tasksTo ts s (k + 1) = tasksTo ts s k := by
  unfold tasksTo
  rw [List.range_succ, List.filterMap_append]
  simp [h, hs]
set_option maxHeartbeats 2000000 in
theorem TasksInI (w : World) {r : Run} {cs : List Value} {fp : List Nat} (hc : Shape.C w cs r fp) (s : Int) (hl : r.tasks.length ≤ 1048576) :
    Calls Tryz.prog 162 #[.agg cs.toArray, I s] w fun e w' => ∃ v fp', e = .returned v ∧ St w w' [Res.own v (tasksIn r.tasks s) fp'] := by
  have hk1 := hc
  obtain ⟨v1_0, v1_1, g1_0, g1_1, rfl, hok1, h1_0, h1_1, rfl⟩ := hk1
  refine enter2 Tryz.func162 rfl Tryz.ntmps162 (by decide) ?_
  refine wp_seq ?_
  refine sx_region ?_
  refine sx rfl (stp_box_agg (cs := [I r.id, I r.plan.prio, I r.plan.most, I r.plan.wait, I r.plan.tasks, v1_0, I r.state, v1_1]) rfl (St.start w) ?_); intro b2 W3 hb4 st5
  refine sx rfl (stp_assign (v := .slice none 0 0) rfl ?_)
  refine sx_nil ?_
  refine wp_seq ?_
  refine sx_region ?_
  refine sx rfl (stp_assign (v := .slice none 0 0) rfl ?_)
  refine sx_nil ?_
  refine wp_seq ?_
  refine wp_seq ?_
  refine sx_region ?_
  refine sx rfl (stp_fieldAddr fa_Run_3 rfl ?_)
  refine sx rfl (stp_load_bx ld_TaskS rfl rfl (st5.get 0 rfl) (i := 7) rfl rfl ?_)
  refine sx rfl (stp_len sl_TaskS rfl h1_1 ?_)
  refine sx rfl (stp_move (v := I 0) rfl ?_)
  refine sx_nil ?_
  refine wp_block ?_
  have st8 := st5.row_nil (α := Int) 3
  refine sx_loop (fun (m : Nat) (f : Nat → Value) (W : World) => ∃ (k : Nat) (v7 : Value), k ≤ r.tasks.length ∧ m = r.tasks.length - k ∧ f 1 = I s ∧ f 5 = v7 ∧ f 9 = v1_1 ∧ f 10 = I (r.tasks.length : Int) ∧ f 11 = I (k : Int) ∧ St w W ([Res.row (α := Int) 3 v7 (tasksTo r.tasks s k) [], Res.bx b2 [I r.id, I r.plan.prio, I r.plan.most, I r.plan.wait, I r.plan.tasks, v1_0, I r.state, v1_1] 123])) (r.tasks.length - 0) ?_ ?_
  · exact ⟨0, (.slice none 0 0), (by first | omega | simp), rfl, rfl, rfl, rfl, rfl, rfl, st8⟩
  intro m10 f11 W12 hJ13
  obtain ⟨k, v7, hcd15_0, rfl, hs15_1, hs15_5, hs15_9, hs15_10, hs15_11, st14⟩ := hJ13
  have hlen := tasksTo_len r.tasks s k
  refine wp_seq ?_
  refine sx_region ?_
  refine sx rfl (stp_lss hs15_11 hs15_10 ?_)
  refine sx_nil ?_
  refine wp_seq ?_
  refine sx_if rfl (fun h16 => ?_) (fun h16 => ?_)
  · skip
    have h16p := of_decide_eq_true h16
    refine wp_skip ?_
    refine wp_seq ?_
    refine wp_block ?_
    refine wp_seq ?_
    refine sx_region ?_
    refine sx rfl (stp_move (v := I (k : Int)) hs15_11 ?_)
    have hif4d94 : k < r.tasks.length := (by omega)
    have hq_ := idx h1_1 (i := k) hif4d94
    obtain ⟨b17, o17, cs17, f17, hp17, hr17, hc17, hm17⟩ := hq_
    refine sx rfl (stp_indexAddr sl_TaskS hs15_9 hp17 hs15_11 rfl ?_)
    refine sx rfl (stp_load_rga ld_Task rfl rfl hr17 st14.below (Shape.len hc17) ?_)
    refine sx rfl (stp_alloc zz_Task st14 ?_); intro b18 W19 hb20 st21
    refine sx rfl (stp_assign (v := I (k : Int)) rfl ?_)
    refine sx rfl (stp_store_all (cs := cs17) ld_Task hc17 rfl rfl st21 rfl ?_); intro W23 st24
    refine sx_nil ?_
    refine wp_seq ?_
    refine sx_region ?_
    refine sx rfl (stp_fieldAddr fa_Task_0 rfl ?_)
    have hk25 := hc17
    obtain ⟨he25, rfl, hok25⟩ := hk25
    have he25 : _ = [I (r.tasks[k]'hif4d94).state, I (r.tasks[k]'hif4d94).need, I (r.tasks[k]'hif4d94).try_, I (r.tasks[k]'hif4d94).until_] := he25
    subst he25
    refine sx rfl (stp_load_bx ld_int rfl rfl (st24.get 0 rfl) (i := 0) rfl rfl ?_)
    refine sx rfl (stp_move (v := I s) hs15_1 ?_)
    refine sx rfl (stp_eql rfl rfl ?_)
    refine sx_nil ?_
    refine sx_if rfl (fun h26 => ?_) (fun h26 => ?_)
    · skip
      have h26p := of_decide_eq_true h26
      refine sx_region ?_
      refine sx rfl (stp_move (v := v7) hs15_5 ?_)
      refine sx rfl (stp_move (v := I (k : Int)) rfl ?_)
      refine sx rfl (stp_buildSlice (cs := [I (k : Int)]) (e := 3) (pcons (v := I (k : Int)) rfl pnil) (run_buildSlice1 ap_IntS _ _ rfl rfl (by decide)) st24 ?_); intro b27 W28 hb29 st30
      have st32 := st30.f2
      refine sx rfl (stp_append_bx (ys := [(k : Int)]) ap_IntS rfl rfl rfl st32 (Elems.int1 (by simp only [I64]; omega)) (by unfold maxLen; omega) (by omega) ?_); intro v33 W34 st35
      refine sx rfl (stp_assign (v := v33) rfl ?_)
      refine sx_nil ?_
      refine sx_region ?_
      refine sx rfl (stp_add hs15_11 rfl (by (simp only [I64] at *; omega)) ?_)
      refine sx rfl (stp_move (v := I ((k : Int) + 1)) rfl ?_)
      refine sx_nil ?_
      have st36 := st35.f2
      have st37 := st36.f1
      have st38 := st37.d2
      exact ⟨_, r.tasks.length - (k + 1), (by omega), rfl, k + 1, v33, (by omega), rfl, hs15_1, rfl, hs15_9, hs15_10, rfl, (by rw [tasksTo_t (by omega) h26p]; exact st38)⟩
    · skip
      have h26p := of_decide_eq_false h26
      refine wp_skip ?_
      refine sx_region ?_
      refine sx rfl (stp_add hs15_11 rfl (by (simp only [I64] at *; omega)) ?_)
      refine sx rfl (stp_move (v := I ((k : Int) + 1)) rfl ?_)
      refine sx_nil ?_
      have st39 := st24.f2
      have st40 := st39.f2
      have st41 := st40.d2
      exact ⟨_, r.tasks.length - (k + 1), (by omega), rfl, k + 1, v7, (by omega), rfl, hs15_1, hs15_5, hs15_9, hs15_10, rfl, (by rw [tasksTo_f (by omega) h26p]; exact st41)⟩
  · skip
    have h16p := of_decide_eq_false h16
    refine wp_exit ?_
    refine wp_seq ?_
    refine sx_region ?_
    refine sx rfl (stp_move (v := v7) hs15_5 ?_)
    refine sx rfl (stp_assign (v := v7) rfl ?_)
    refine sx_nil ?_
    refine wp_ret ?_; repeat (first | refine then_ret ?_ | refine blk_ret ?_)
    refine ret1 Tryz.results162 rfl ?_
    have hq_ := st14.shut
    obtain ⟨fpz, stz⟩ := hq_
    obtain rfl : k = r.tasks.length := by omega
    exact ⟨_, fpz, rfl, stz.only 0 rfl⟩
end Go.Proofs.YtchnllpegfbleaaGreat
