/-
  The laws' copies: what they return is the call's own. (Printed by a program of this project's.)
-/
import Derived.Test.YtchnllpegfbleaaDoorTab
import Derived.Test.YtchnllpegfbleaaDoorKBase
namespace Go.Proofs.YtchnllpegfbleaaDoor
set_option linter.unusedSimpArgs false
set_option linter.unusedVariables false
set_option maxRecDepth 100000
open Go.RowKit

set_option maxHeartbeats 2000000 in
theorem toEdge_n (w : World) {x : Edge} {cs : List Value} {fp : List Nat} (hc : Shape.C w cs x fp) :
    Calls Tryd.prog 67 #[.agg cs.toArray] w fun e w' => e = .returned (.agg #[I x.from_, I x.to_]) ∧ x.ok ∧ St w w' [] := by
  refine enter1 Tryd.func67 rfl Tryd.ntmps67 (by decide) ?_
  refine wp_seq ?_
  refine sx_region ?_
  refine sx rfl (stp_box_agg (cs := cs) rfl (St.start w) ?_); intro b1 W2 hb3 st4
  refine sx rfl (stp_alloc zz_Edge st4 ?_); intro b6 W7 hb8 st9
  refine sx_nil ?_
  refine wp_seq ?_
  refine sx_region ?_
  refine sx rfl (stp_alloc zz_Edge st9 ?_); intro b11 W12 hb13 st14
  refine sx_nil ?_
  refine wp_seq ?_
  refine sx_region ?_
  refine sx rfl (stp_fieldAddr fa_EdgeL_0 rfl ?_)
  have hk16 := hc
  obtain ⟨he16, rfl, hok16⟩ := hk16
  have he16 : _ = [I x.from_, I x.to_] := he16
  subst he16
  refine sx rfl (stp_load_bx ld_int rfl rfl (st14.get 2 rfl) (i := 0) rfl rfl ?_)
  refine sx rfl (stp_fieldAddr fa_Edge_0 rfl ?_)
  refine sx rfl (stp_store_one (v := I x.from_) (C' := [I x.from_, I 0]) (by kernel_rfl) rfl rfl rfl rfl st14 (Nat.le_of_ble_eq_true rfl) rfl ?_); intro W17 st18
  refine sx_nil ?_
  refine wp_seq ?_
  refine sx_region ?_
  refine sx rfl (stp_fieldAddr fa_EdgeL_1 rfl ?_)
  refine sx rfl (stp_load_bx ld_int rfl rfl (st18.get 2 rfl) (i := 1) rfl rfl ?_)
  refine sx rfl (stp_fieldAddr fa_Edge_1 rfl ?_)
  refine sx rfl (stp_store_one (v := I x.to_) (C' := [I x.from_, I x.to_]) (by kernel_rfl) rfl rfl rfl rfl st18 (Nat.le_of_ble_eq_true rfl) rfl ?_); intro W19 st20
  refine sx_nil ?_
  refine wp_seq ?_
  refine sx_region ?_
  refine sx rfl (stp_load_bxs (cs := [I x.from_, I x.to_]) ld_Edge rfl rfl (st20.get 0 rfl) rfl rfl ?_)
  have st21 := st20.f1
  refine sx rfl (stp_store_agg (cs := [I x.from_, I x.to_]) (C' := [I x.from_, I x.to_]) (by kernel_rfl) rfl rfl (one_cons rfl (one_cons rfl one_nil)) st21 (Nat.le_of_ble_eq_true rfl) rfl ?_); intro W22 st23
  refine sx_nil ?_
  refine wp_ret ?_; repeat (first | refine then_ret ?_ | refine blk_ret ?_)
  refine retc1 ld_Edge rfl Tryd.results67 rfl (st23.get 0 rfl) rfl ?_
  exact ⟨rfl, by assumption, st23.bare⟩
set_option maxHeartbeats 2000000 in
theorem toEdgeS_n (w : World) {v : Value} {xs : List Edge} {fp : List Nat} (h : Sl w v xs fp) (hw : xs.length ≤ 1048576) :
    Calls Tryd.prog 50 #[v] w fun e w' => ∃ (v' : Value) (fp' : List Nat), e = .returned v' ∧ St w w' [Res.own v' xs fp'] := by
  have hl : xs.length ≤ 1048576 := by omega
  refine enter1 Tryd.func50 rfl Tryd.ntmps50 (by decide) ?_
  refine wp_seq ?_
  refine sx_region ?_
  refine sx rfl (stp_assign (v := .slice none 0 0) rfl ?_)
  refine sx_nil ?_
  refine wp_seq ?_
  refine sx_region ?_
  refine sx rfl (stp_move (v := v) rfl ?_)
  refine sx rfl (stp_len sl_EdgeSL rfl h ?_)
  refine sx rfl (stp_make (α := Edge) (N := xs.length) ap_EdgeS rfl rfl (by omega) (by omega) (St.start w) ?_); intro b1 W2 hb3 st4
  refine sx rfl (stp_assign (v := .slice (some ⟨b1, 0, none⟩) xs.length xs.length) rfl ?_)
  refine sx_nil ?_
  refine wp_seq ?_
  refine wp_seq ?_
  refine sx_region ?_
  refine sx rfl (stp_assign (v := I 0) rfl ?_)
  refine sx_nil ?_
  refine wp_block ?_
  refine sx_loop (fun (m : Nat) (f : Nat → Value) (W : World) => ∃ (k : Nat) (fe6 : List Nat), k ≤ xs.length ∧ m = xs.length - k ∧ f 0 = v ∧ f 3 = .slice (some ⟨b1, 0, none⟩) xs.length xs.length ∧ f 4 = I (k : Int) ∧ St w W ([Res.fill (α := Edge) 75 b1 xs.length (xs.take k) fe6])) (xs.length - 0) ?_ ?_
  · exact ⟨0, [], (by first | omega | simp), rfl, rfl, rfl, rfl, st4⟩
  intro m7 f8 W9 hJ10
  obtain ⟨k, fe6, hcd12_0, rfl, hs12_0, hs12_3, hs12_4, st11⟩ := hJ10
  refine wp_seq ?_
  refine wp_seq ?_
  refine sx_region ?_
  refine sx rfl (stp_move (v := I (k : Int)) hs12_4 ?_)
  refine sx rfl (stp_move (v := v) hs12_0 ?_)
  refine sx rfl (stp_len sl_EdgeSL rfl h ?_)
  refine sx rfl (stp_lss rfl rfl ?_)
  refine sx_nil ?_
  refine sx_if rfl (fun h13 => ?_) (fun h13 => ?_)
  · skip
    have h13p := of_decide_eq_true h13
    refine wp_skip ?_
    refine wp_seq ?_
    refine wp_block ?_
    refine sx_region ?_
    refine sx rfl (stp_move (v := .slice (some ⟨b1, 0, none⟩) xs.length xs.length) hs12_3 ?_)
    refine sx rfl (stp_move (v := I (k : Int)) hs12_4 ?_)
    refine sx rfl (stp_move (v := v) hs12_0 ?_)
    refine sx rfl (stp_move (v := I (k : Int)) hs12_4 ?_)
    have hi51fab : k < xs.length := (by omega)
    have hq_ := idx h (i := k) hi51fab
    obtain ⟨b14, o14, cs14, f14, hp14, hr14, hc14, hm14⟩ := hq_
    refine sx rfl (stp_indexAddr sl_EdgeSL rfl hp14 rfl rfl ?_)
    refine sx rfl (stp_load_rga ld_EdgeL rfl rfl hr14 st11.below (Shape.len hc14) ?_)
    refine sx rfl (stp_call1 Tryd.func67 rfl rfl ((toEdge_n W9 hc14).mono ?_)); rintro _ W15 ⟨rfl, hokf18, hk16⟩; refine ⟨_, rfl, ?_⟩
    have st17 := St.call st11 hk16
    refine sx rfl (stp_indexAddr sl_EdgeS rfl (PA_row (b := b1) (by omega)) rfl rfl ?_)
    have st19 := st17.cs0 (cs := [I (xs[k]'hi51fab).from_, I (xs[k]'hi51fab).to_]) (x := (xs[k]'hi51fab)) (show Shape.C _ [I (xs[k]'hi51fab).from_, I (xs[k]'hi51fab).to_] (xs[k]'hi51fab) [] from ⟨rfl, rfl, hokf18⟩)
    refine sx rfl (stp_store_fill (by kernel_rfl) rfl (congrArg (fun z => 0 + z * _) (List.length_take_of_le (by omega)).symm) rfl (.inl rfl) st19 (by rw [List.length_take_of_le (by omega)]; omega) ?_); intro W20 st21
    refine sx_nil ?_
    refine sx_region ?_
    refine sx rfl (stp_move (v := I (k : Int)) hs12_4 ?_)
    refine sx rfl (stp_add rfl rfl (by (simp only [I64] at *; omega)) ?_)
    refine sx rfl (stp_assign (v := I ((k : Int) + 1)) rfl ?_)
    refine sx_nil ?_
    exact ⟨_, xs.length - (k + 1), (by omega), rfl, k + 1, fe6 ++ [], (by omega), rfl, hs12_0, hs12_3, rfl, (by rw [List.take_succ_eq_append_getElem (by omega)]; exact st21)⟩
  · skip
    have h13p := of_decide_eq_false h13
    refine wp_exit ?_
    refine wp_seq ?_
    refine sx_region ?_
    refine sx rfl (stp_move (v := .slice (some ⟨b1, 0, none⟩) xs.length xs.length) hs12_3 ?_)
    refine sx rfl (stp_assign (v := .slice (some ⟨b1, 0, none⟩) xs.length xs.length) rfl ?_)
    refine sx_nil ?_
    refine wp_ret ?_; repeat (first | refine then_ret ?_ | refine blk_ret ?_)
    refine ret1 Tryd.results50 rfl ?_
    obtain rfl : k = xs.length := by omega
    rw [List.take_length] at st11
    have hq_ := st11.full rfl (by omega)
    obtain ⟨fpz, stz⟩ := hq_
    exact ⟨_, fpz, rfl, stz.only 0 rfl⟩
set_option maxHeartbeats 2000000 in
theorem toPlan_n (w : World) {x : Plan} {cs : List Value} {fp : List Nat} (hc : Shape.C w cs x fp) (hw : x.wt ≤ 1048576) :
    Calls Tryd.prog 29 #[.agg cs.toArray] w fun e w' => ∃ (cs' : List Value) (fp' : List Nat), e = .returned (.agg cs'.toArray) ∧ St w w' [Res.own (.agg cs'.toArray) x fp'] := by
  have hw' := hw
  unfold Plan.wt at hw'
  refine enter1 Tryd.func29 rfl Tryd.ntmps29 (by decide) ?_
  refine wp_seq ?_
  refine sx_region ?_
  refine sx rfl (stp_box_agg (cs := cs) rfl (St.start w) ?_); intro b1 W2 hb3 st4
  refine sx rfl (stp_alloc zz_Plan st4 ?_); intro b6 W7 hb8 st9
  refine sx_nil ?_
  refine wp_seq ?_
  refine sx_region ?_
  refine sx rfl (stp_alloc zz_Plan st9 ?_); intro b11 W12 hb13 st14
  refine sx_nil ?_
  refine wp_seq ?_
  refine sx_region ?_
  refine sx rfl (stp_fieldAddr fa_PlanL_0 rfl ?_)
  have hk16 := hc
  obtain ⟨v16_0, g16_0, rfl, hok16, h16_0, rfl⟩ := hk16
  refine sx rfl (stp_load_bx ld_int rfl rfl (st14.get 2 rfl) (i := 0) rfl rfl ?_)
  refine sx rfl (stp_fieldAddr fa_Plan_0 rfl ?_)
  refine sx rfl (stp_store_one (v := I x.prio) (C' := [I x.prio, I 0, I 0, I 0, .slice none 0 0]) (by kernel_rfl) rfl rfl rfl rfl st14 (Nat.le_of_ble_eq_true rfl) rfl ?_); intro W17 st18
  refine sx_nil ?_
  refine wp_seq ?_
  refine sx_region ?_
  refine sx rfl (stp_fieldAddr fa_PlanL_1 rfl ?_)
  refine sx rfl (stp_load_bx ld_int rfl rfl (st18.get 2 rfl) (i := 1) rfl rfl ?_)
  refine sx rfl (stp_fieldAddr fa_Plan_1 rfl ?_)
  refine sx rfl (stp_store_one (v := I x.most) (C' := [I x.prio, I x.most, I 0, I 0, .slice none 0 0]) (by kernel_rfl) rfl rfl rfl rfl st18 (Nat.le_of_ble_eq_true rfl) rfl ?_); intro W19 st20
  refine sx_nil ?_
  refine wp_seq ?_
  refine sx_region ?_
  refine sx rfl (stp_fieldAddr fa_PlanL_2 rfl ?_)
  refine sx rfl (stp_load_bx ld_int rfl rfl (st20.get 2 rfl) (i := 2) rfl rfl ?_)
  refine sx rfl (stp_fieldAddr fa_Plan_2 rfl ?_)
  refine sx rfl (stp_store_one (v := I x.wait) (C' := [I x.prio, I x.most, I x.wait, I 0, .slice none 0 0]) (by kernel_rfl) rfl rfl rfl rfl st20 (Nat.le_of_ble_eq_true rfl) rfl ?_); intro W21 st22
  refine sx_nil ?_
  refine wp_seq ?_
  refine sx_region ?_
  refine sx rfl (stp_fieldAddr fa_PlanL_3 rfl ?_)
  refine sx rfl (stp_load_bx ld_int rfl rfl (st22.get 2 rfl) (i := 3) rfl rfl ?_)
  refine sx rfl (stp_fieldAddr fa_Plan_3 rfl ?_)
  refine sx rfl (stp_store_one (v := I x.tasks) (C' := [I x.prio, I x.most, I x.wait, I x.tasks, .slice none 0 0]) (by kernel_rfl) rfl rfl rfl rfl st22 (Nat.le_of_ble_eq_true rfl) rfl ?_); intro W23 st24
  refine sx_nil ?_
  refine wp_seq ?_
  refine sx_region ?_
  refine sx rfl (stp_fieldAddr fa_PlanL_4 rfl ?_)
  refine sx rfl (stp_load_bx ld_EdgeSL rfl rfl (st24.get 2 rfl) (i := 4) rfl rfl ?_)
  refine sx rfl (stp_call1 Tryd.func50 rfl rfl ((toEdgeS_n W23 (h16_0.below st24.below) (by first | exact hw | omega | (simp only [Plan.wt, Run.wt, Yard.wt, Deed.wt, Note.wt, File.wt, Disk.wt, Engine.wt, WorldD.wt, ActD.wt, Span.wt, Crew.wt] at *; omega))).mono ?_)); rintro _ W27 ⟨v25, fp25, rfl, hk28⟩; refine ⟨_, rfl, ?_⟩
  have st29 := St.call st24 hk28
  refine sx rfl (stp_fieldAddr fa_Plan_4 rfl ?_)
  have st31 := st29.f1
  refine sx rfl (stp_store_one (v := v25) (C' := [I x.prio, I x.most, I x.wait, I x.tasks, v25]) (by kernel_rfl) rfl rfl (Sl.cells (own_Sl (st31.get 1 rfl))) (Sl.one (own_Sl (st31.get 1 rfl))) st31 (Nat.le_of_ble_eq_true rfl) rfl ?_); intro W32 st33
  refine sx_nil ?_
  refine wp_seq ?_
  refine sx_region ?_
  refine sx rfl (stp_load_bxs (cs := [I x.prio, I x.most, I x.wait, I x.tasks, v25]) ld_Plan rfl rfl (st33.get 0 rfl) rfl rfl ?_)
  have st34 := st33.f2
  refine sx rfl (stp_store_agg (cs := [I x.prio, I x.most, I x.wait, I x.tasks, v25]) (C' := [I x.prio, I x.most, I x.wait, I x.tasks, v25]) (by kernel_rfl) rfl rfl (one_cons rfl (one_cons rfl (one_cons rfl (one_cons rfl (one_cons (Sl.one (own_Sl (st34.get 2 rfl))) one_nil))))) st34 (Nat.le_of_ble_eq_true rfl) rfl ?_); intro W35 st36
  refine sx_nil ?_
  refine wp_ret ?_; repeat (first | refine then_ret ?_ | refine blk_ret ?_)
  refine retc1 ld_Plan rfl Tryd.results29 rfl (st36.get 0 rfl) rfl ?_
  have st37 := st36.f2
  have st38 := shut_Plan (x := x) st37 (by first | exact True.intro | (simp only [Edge.ok, Plan.ok, Entry.ok, Task.ok, Run.ok, Yard.ok, Reply.ok, Deed.ok, Note.ok, Wait.ok, File.ok, Disk.ok, Engine.ok, WorldD.ok, ActD.ok, Hand.ok, Span.ok, Crew.ok, View.ok, I64] at *; omega))
  exact ⟨_, _, rfl, st38.only 0 rfl⟩
set_option maxHeartbeats 2000000 in
theorem toTask_n (w : World) {x : Task} {cs : List Value} {fp : List Nat} (hc : Shape.C w cs x fp) :
    Calls Tryd.prog 51 #[.agg cs.toArray] w fun e w' => e = .returned (.agg #[I x.state, I x.need, I x.try_, I x.until_]) ∧ x.ok ∧ St w w' [] := by
  refine enter1 Tryd.func51 rfl Tryd.ntmps51 (by decide) ?_
  refine wp_seq ?_
  refine sx_region ?_
  refine sx rfl (stp_box_agg (cs := cs) rfl (St.start w) ?_); intro b1 W2 hb3 st4
  refine sx rfl (stp_alloc zz_Task st4 ?_); intro b6 W7 hb8 st9
  refine sx_nil ?_
  refine wp_seq ?_
  refine sx_region ?_
  refine sx rfl (stp_alloc zz_Task st9 ?_); intro b11 W12 hb13 st14
  refine sx_nil ?_
  refine wp_seq ?_
  refine sx_region ?_
  refine sx rfl (stp_fieldAddr fa_TaskL_0 rfl ?_)
  have hk16 := hc
  obtain ⟨he16, rfl, hok16⟩ := hk16
  have he16 : _ = [I x.state, I x.need, I x.try_, I x.until_] := he16
  subst he16
  refine sx rfl (stp_load_bx ld_int rfl rfl (st14.get 2 rfl) (i := 0) rfl rfl ?_)
  refine sx rfl (stp_fieldAddr fa_Task_0 rfl ?_)
  refine sx rfl (stp_store_one (v := I x.state) (C' := [I x.state, I 0, I 0, I 0]) (by kernel_rfl) rfl rfl rfl rfl st14 (Nat.le_of_ble_eq_true rfl) rfl ?_); intro W17 st18
  refine sx_nil ?_
  refine wp_seq ?_
  refine sx_region ?_
  refine sx rfl (stp_fieldAddr fa_TaskL_1 rfl ?_)
  refine sx rfl (stp_load_bx ld_int rfl rfl (st18.get 2 rfl) (i := 1) rfl rfl ?_)
  refine sx rfl (stp_fieldAddr fa_Task_1 rfl ?_)
  refine sx rfl (stp_store_one (v := I x.need) (C' := [I x.state, I x.need, I 0, I 0]) (by kernel_rfl) rfl rfl rfl rfl st18 (Nat.le_of_ble_eq_true rfl) rfl ?_); intro W19 st20
  refine sx_nil ?_
  refine wp_seq ?_
  refine sx_region ?_
  refine sx rfl (stp_fieldAddr fa_TaskL_2 rfl ?_)
  refine sx rfl (stp_load_bx ld_int rfl rfl (st20.get 2 rfl) (i := 2) rfl rfl ?_)
  refine sx rfl (stp_fieldAddr fa_Task_2 rfl ?_)
  refine sx rfl (stp_store_one (v := I x.try_) (C' := [I x.state, I x.need, I x.try_, I 0]) (by kernel_rfl) rfl rfl rfl rfl st20 (Nat.le_of_ble_eq_true rfl) rfl ?_); intro W21 st22
  refine sx_nil ?_
  refine wp_seq ?_
  refine sx_region ?_
  refine sx rfl (stp_fieldAddr fa_TaskL_3 rfl ?_)
  refine sx rfl (stp_load_bx ld_int rfl rfl (st22.get 2 rfl) (i := 3) rfl rfl ?_)
  refine sx rfl (stp_fieldAddr fa_Task_3 rfl ?_)
  refine sx rfl (stp_store_one (v := I x.until_) (C' := [I x.state, I x.need, I x.try_, I x.until_]) (by kernel_rfl) rfl rfl rfl rfl st22 (Nat.le_of_ble_eq_true rfl) rfl ?_); intro W23 st24
  refine sx_nil ?_
  refine wp_seq ?_
  refine sx_region ?_
  refine sx rfl (stp_load_bxs (cs := [I x.state, I x.need, I x.try_, I x.until_]) ld_Task rfl rfl (st24.get 0 rfl) rfl rfl ?_)
  have st25 := st24.f1
  refine sx rfl (stp_store_agg (cs := [I x.state, I x.need, I x.try_, I x.until_]) (C' := [I x.state, I x.need, I x.try_, I x.until_]) (by kernel_rfl) rfl rfl (one_cons rfl (one_cons rfl (one_cons rfl (one_cons rfl one_nil)))) st25 (Nat.le_of_ble_eq_true rfl) rfl ?_); intro W26 st27
  refine sx_nil ?_
  refine wp_ret ?_; repeat (first | refine then_ret ?_ | refine blk_ret ?_)
  refine retc1 ld_Task rfl Tryd.results51 rfl (st27.get 0 rfl) rfl ?_
  exact ⟨rfl, by assumption, st27.bare⟩
set_option maxHeartbeats 2000000 in
theorem toTaskS_n (w : World) {v : Value} {xs : List Task} {fp : List Nat} (h : Sl w v xs fp) (hw : xs.length ≤ 1048576) :
    Calls Tryd.prog 30 #[v] w fun e w' => ∃ (v' : Value) (fp' : List Nat), e = .returned v' ∧ St w w' [Res.own v' xs fp'] := by
  have hl : xs.length ≤ 1048576 := by omega
  refine enter1 Tryd.func30 rfl Tryd.ntmps30 (by decide) ?_
  refine wp_seq ?_
  refine sx_region ?_
  refine sx rfl (stp_assign (v := .slice none 0 0) rfl ?_)
  refine sx_nil ?_
  refine wp_seq ?_
  refine sx_region ?_
  refine sx rfl (stp_move (v := v) rfl ?_)
  refine sx rfl (stp_len sl_TaskSL rfl h ?_)
  refine sx rfl (stp_make (α := Task) (N := xs.length) ap_TaskS rfl rfl (by omega) (by omega) (St.start w) ?_); intro b1 W2 hb3 st4
  refine sx rfl (stp_assign (v := .slice (some ⟨b1, 0, none⟩) xs.length xs.length) rfl ?_)
  refine sx_nil ?_
  refine wp_seq ?_
  refine wp_seq ?_
  refine sx_region ?_
  refine sx rfl (stp_assign (v := I 0) rfl ?_)
  refine sx_nil ?_
  refine wp_block ?_
  refine sx_loop (fun (m : Nat) (f : Nat → Value) (W : World) => ∃ (k : Nat) (fe6 : List Nat), k ≤ xs.length ∧ m = xs.length - k ∧ f 0 = v ∧ f 3 = .slice (some ⟨b1, 0, none⟩) xs.length xs.length ∧ f 4 = I (k : Int) ∧ St w W ([Res.fill (α := Task) 66 b1 xs.length (xs.take k) fe6])) (xs.length - 0) ?_ ?_
  · exact ⟨0, [], (by first | omega | simp), rfl, rfl, rfl, rfl, st4⟩
  intro m7 f8 W9 hJ10
  obtain ⟨k, fe6, hcd12_0, rfl, hs12_0, hs12_3, hs12_4, st11⟩ := hJ10
  refine wp_seq ?_
  refine wp_seq ?_
  refine sx_region ?_
  refine sx rfl (stp_move (v := I (k : Int)) hs12_4 ?_)
  refine sx rfl (stp_move (v := v) hs12_0 ?_)
  refine sx rfl (stp_len sl_TaskSL rfl h ?_)
  refine sx rfl (stp_lss rfl rfl ?_)
  refine sx_nil ?_
  refine sx_if rfl (fun h13 => ?_) (fun h13 => ?_)
  · skip
    have h13p := of_decide_eq_true h13
    refine wp_skip ?_
    refine wp_seq ?_
    refine wp_block ?_
    refine sx_region ?_
    refine sx rfl (stp_move (v := .slice (some ⟨b1, 0, none⟩) xs.length xs.length) hs12_3 ?_)
    refine sx rfl (stp_move (v := I (k : Int)) hs12_4 ?_)
    refine sx rfl (stp_move (v := v) hs12_0 ?_)
    refine sx rfl (stp_move (v := I (k : Int)) hs12_4 ?_)
    have hi51fab : k < xs.length := (by omega)
    have hq_ := idx h (i := k) hi51fab
    obtain ⟨b14, o14, cs14, f14, hp14, hr14, hc14, hm14⟩ := hq_
    refine sx rfl (stp_indexAddr sl_TaskSL rfl hp14 rfl rfl ?_)
    refine sx rfl (stp_load_rga ld_TaskL rfl rfl hr14 st11.below (Shape.len hc14) ?_)
    refine sx rfl (stp_call1 Tryd.func51 rfl rfl ((toTask_n W9 hc14).mono ?_)); rintro _ W15 ⟨rfl, hokf18, hk16⟩; refine ⟨_, rfl, ?_⟩
    have st17 := St.call st11 hk16
    refine sx rfl (stp_indexAddr sl_TaskS rfl (PA_row (b := b1) (by omega)) rfl rfl ?_)
    have st19 := st17.cs0 (cs := [I (xs[k]'hi51fab).state, I (xs[k]'hi51fab).need, I (xs[k]'hi51fab).try_, I (xs[k]'hi51fab).until_]) (x := (xs[k]'hi51fab)) (show Shape.C _ [I (xs[k]'hi51fab).state, I (xs[k]'hi51fab).need, I (xs[k]'hi51fab).try_, I (xs[k]'hi51fab).until_] (xs[k]'hi51fab) [] from ⟨rfl, rfl, hokf18⟩)
    refine sx rfl (stp_store_fill (by kernel_rfl) rfl (congrArg (fun z => 0 + z * _) (List.length_take_of_le (by omega)).symm) rfl (.inl rfl) st19 (by rw [List.length_take_of_le (by omega)]; omega) ?_); intro W20 st21
    refine sx_nil ?_
    refine sx_region ?_
    refine sx rfl (stp_move (v := I (k : Int)) hs12_4 ?_)
    refine sx rfl (stp_add rfl rfl (by (simp only [I64] at *; omega)) ?_)
    refine sx rfl (stp_assign (v := I ((k : Int) + 1)) rfl ?_)
    refine sx_nil ?_
    exact ⟨_, xs.length - (k + 1), (by omega), rfl, k + 1, fe6 ++ [], (by omega), rfl, hs12_0, hs12_3, rfl, (by rw [List.take_succ_eq_append_getElem (by omega)]; exact st21)⟩
  · skip
    have h13p := of_decide_eq_false h13
    refine wp_exit ?_
    refine wp_seq ?_
    refine sx_region ?_
    refine sx rfl (stp_move (v := .slice (some ⟨b1, 0, none⟩) xs.length xs.length) hs12_3 ?_)
    refine sx rfl (stp_assign (v := .slice (some ⟨b1, 0, none⟩) xs.length xs.length) rfl ?_)
    refine sx_nil ?_
    refine wp_ret ?_; repeat (first | refine then_ret ?_ | refine blk_ret ?_)
    refine ret1 Tryd.results30 rfl ?_
    obtain rfl : k = xs.length := by omega
    rw [List.take_length] at st11
    have hq_ := st11.full rfl (by omega)
    obtain ⟨fpz, stz⟩ := hq_
    exact ⟨_, fpz, rfl, stz.only 0 rfl⟩
set_option maxHeartbeats 2000000 in
theorem toRun_n (w : World) {x : Run} {cs : List Value} {fp : List Nat} (hc : Shape.C w cs x fp) (hw : x.wt ≤ 1048576) :
    Calls Tryd.prog 12 #[.agg cs.toArray] w fun e w' => ∃ (cs' : List Value) (fp' : List Nat), e = .returned (.agg cs'.toArray) ∧ St w w' [Res.own (.agg cs'.toArray) x fp'] := by
  have hw' := hw
  unfold Run.wt at hw'
  refine enter1 Tryd.func12 rfl Tryd.ntmps12 (by decide) ?_
  refine wp_seq ?_
  refine sx_region ?_
  refine sx rfl (stp_box_agg (cs := cs) rfl (St.start w) ?_); intro b1 W2 hb3 st4
  refine sx rfl (stp_alloc zz_Run st4 ?_); intro b6 W7 hb8 st9
  refine sx_nil ?_
  refine wp_seq ?_
  refine sx_region ?_
  refine sx rfl (stp_alloc zz_Run st9 ?_); intro b11 W12 hb13 st14
  refine sx_nil ?_
  refine wp_seq ?_
  refine sx_region ?_
  refine sx rfl (stp_fieldAddr fa_RunL_0 rfl ?_)
  have hk16 := hc
  obtain ⟨v16_0, v16_1, g16_0, g16_1, rfl, hok16, h16_0, h16_1, rfl⟩ := hk16
  refine sx rfl (stp_load_bx ld_int rfl rfl (st14.get 2 rfl) (i := 0) rfl rfl ?_)
  refine sx rfl (stp_fieldAddr fa_Run_0 rfl ?_)
  refine sx rfl (stp_store_one (v := I x.id) (C' := [I x.id, I 0, I 0, I 0, I 0, .slice none 0 0, I 0, .slice none 0 0]) (by kernel_rfl) rfl rfl rfl rfl st14 (Nat.le_of_ble_eq_true rfl) rfl ?_); intro W17 st18
  refine sx_nil ?_
  refine wp_seq ?_
  refine sx_region ?_
  refine sx rfl (stp_fieldAddr fa_RunL_1 rfl ?_)
  refine sx rfl (stp_load_bxs (cs := [I x.plan.prio, I x.plan.most, I x.plan.wait, I x.plan.tasks, v16_0]) ld_PlanL rfl rfl (st18.get 2 rfl) rfl rfl ?_)
  refine sx rfl (stp_call1 Tryd.func29 rfl rfl ((toPlan_n W17 (show Shape.C _ [I x.plan.prio, I x.plan.most, I x.plan.wait, I x.plan.tasks, v16_0] x.plan _ from ⟨_, _, rfl, (by first | exact True.intro | (simp only [Edge.ok, Plan.ok, Entry.ok, Task.ok, Run.ok, Yard.ok, Reply.ok, Deed.ok, Note.ok, Wait.ok, File.ok, Disk.ok, Engine.ok, WorldD.ok, ActD.ok, Hand.ok, Span.ok, Crew.ok, View.ok, I64] at *; omega)), (h16_0.below st18.below), rfl⟩) (by first | exact hw | omega | (simp only [Plan.wt, Run.wt, Yard.wt, Deed.wt, Note.wt, File.wt, Disk.wt, Engine.wt, WorldD.wt, ActD.wt, Span.wt, Crew.wt] at *; omega))).mono ?_)); rintro _ W21 ⟨cs19, fp19, rfl, hk22⟩; refine ⟨_, rfl, ?_⟩
  have st23 := St.call st18 hk22
  refine sx rfl (stp_fieldAddr fa_Run_1 rfl ?_)
  have hq_ := open_Plan st23
  obtain ⟨v25_0, g25_0, he25, hok25, st26⟩ := hq_
  subst he25
  have st28 := st26.f1
  refine sx rfl (stp_store_agg (cs := [I x.plan.prio, I x.plan.most, I x.plan.wait, I x.plan.tasks, v25_0]) (C' := [I x.id, I x.plan.prio, I x.plan.most, I x.plan.wait, I x.plan.tasks, v25_0, I 0, .slice none 0 0]) (by kernel_rfl) rfl rfl (one_cons rfl (one_cons rfl (one_cons rfl (one_cons rfl (one_cons (Sl.one (own_Sl (st28.get 1 rfl))) one_nil))))) st28 (Nat.le_of_ble_eq_true rfl) rfl ?_); intro W29 st30
  refine sx_nil ?_
  refine wp_seq ?_
  refine sx_region ?_
  refine sx rfl (stp_fieldAddr fa_RunL_2 rfl ?_)
  refine sx rfl (stp_load_bx ld_int rfl rfl (st30.get 3 rfl) (i := 6) rfl rfl ?_)
  refine sx rfl (stp_fieldAddr fa_Run_2 rfl ?_)
  refine sx rfl (stp_store_one (v := I x.state) (C' := [I x.id, I x.plan.prio, I x.plan.most, I x.plan.wait, I x.plan.tasks, v25_0, I x.state, .slice none 0 0]) (by kernel_rfl) rfl rfl rfl rfl st30 (Nat.le_of_ble_eq_true rfl) rfl ?_); intro W31 st32
  refine sx_nil ?_
  refine wp_seq ?_
  refine sx_region ?_
  refine sx rfl (stp_fieldAddr fa_RunL_3 rfl ?_)
  refine sx rfl (stp_load_bx ld_TaskSL rfl rfl (st32.get 3 rfl) (i := 7) rfl rfl ?_)
  refine sx rfl (stp_call1 Tryd.func30 rfl rfl ((toTaskS_n W31 (h16_1.below st32.below) (by first | exact hw | omega | (simp only [Plan.wt, Run.wt, Yard.wt, Deed.wt, Note.wt, File.wt, Disk.wt, Engine.wt, WorldD.wt, ActD.wt, Span.wt, Crew.wt] at *; omega))).mono ?_)); rintro _ W35 ⟨v33, fp33, rfl, hk36⟩; refine ⟨_, rfl, ?_⟩
  have st37 := St.call st32 hk36
  refine sx rfl (stp_fieldAddr fa_Run_3 rfl ?_)
  have st39 := st37.f1
  refine sx rfl (stp_store_one (v := v33) (C' := [I x.id, I x.plan.prio, I x.plan.most, I x.plan.wait, I x.plan.tasks, v25_0, I x.state, v33]) (by kernel_rfl) rfl rfl (Sl.cells (own_Sl (st39.get 1 rfl))) (Sl.one (own_Sl (st39.get 1 rfl))) st39 (Nat.le_of_ble_eq_true rfl) rfl ?_); intro W40 st41
  refine sx_nil ?_
  refine wp_seq ?_
  refine sx_region ?_
  refine sx rfl (stp_load_bxs (cs := [I x.id, I x.plan.prio, I x.plan.most, I x.plan.wait, I x.plan.tasks, v25_0, I x.state, v33]) ld_Run rfl rfl (st41.get 0 rfl) rfl rfl ?_)
  have st42 := st41.f3
  refine sx rfl (stp_store_agg (cs := [I x.id, I x.plan.prio, I x.plan.most, I x.plan.wait, I x.plan.tasks, v25_0, I x.state, v33]) (C' := [I x.id, I x.plan.prio, I x.plan.most, I x.plan.wait, I x.plan.tasks, v25_0, I x.state, v33]) (by kernel_rfl) rfl rfl (one_cons rfl (one_cons rfl (one_cons rfl (one_cons rfl (one_cons rfl (one_cons (Sl.one (own_Sl (st42.get 3 rfl))) (one_cons rfl (one_cons (Sl.one (own_Sl (st42.get 2 rfl))) one_nil)))))))) st42 (Nat.le_of_ble_eq_true rfl) rfl ?_); intro W43 st44
  refine sx_nil ?_
  refine wp_ret ?_; repeat (first | refine then_ret ?_ | refine blk_ret ?_)
  refine retc1 ld_Run rfl Tryd.results12 rfl (st44.get 0 rfl) rfl ?_
  have st45 := st44.f2
  have st46 := st45.f3
  have st47 := shut_Run (x := x) st46 (by first | exact True.intro | (simp only [Edge.ok, Plan.ok, Entry.ok, Task.ok, Run.ok, Yard.ok, Reply.ok, Deed.ok, Note.ok, Wait.ok, File.ok, Disk.ok, Engine.ok, WorldD.ok, ActD.ok, Hand.ok, Span.ok, Crew.ok, View.ok, I64] at *; omega))
  exact ⟨_, _, rfl, st47.only 0 rfl⟩
set_option maxHeartbeats 2000000 in
theorem toReply_n (w : World) {x : Reply} {cs : List Value} {fp : List Nat} (hc : Shape.C w cs x fp) :
    Calls Tryd.prog 8 #[.agg cs.toArray] w fun e w' => e = .returned (.agg #[I x.code, I x.run, I x.task, I x.try_]) ∧ x.ok ∧ St w w' [] := by
  refine enter1 Tryd.func8 rfl Tryd.ntmps8 (by decide) ?_
  refine wp_seq ?_
  refine sx_region ?_
  refine sx rfl (stp_box_agg (cs := cs) rfl (St.start w) ?_); intro b1 W2 hb3 st4
  refine sx rfl (stp_alloc zz_Reply st4 ?_); intro b6 W7 hb8 st9
  refine sx_nil ?_
  refine wp_seq ?_
  refine sx_region ?_
  refine sx rfl (stp_alloc zz_Reply st9 ?_); intro b11 W12 hb13 st14
  refine sx_nil ?_
  refine wp_seq ?_
  refine sx_region ?_
  refine sx rfl (stp_fieldAddr fa_ReplyL_0 rfl ?_)
  have hk16 := hc
  obtain ⟨he16, rfl, hok16⟩ := hk16
  have he16 : _ = [I x.code, I x.run, I x.task, I x.try_] := he16
  subst he16
  refine sx rfl (stp_load_bx ld_int rfl rfl (st14.get 2 rfl) (i := 0) rfl rfl ?_)
  refine sx rfl (stp_fieldAddr fa_Reply_0 rfl ?_)
  refine sx rfl (stp_store_one (v := I x.code) (C' := [I x.code, I 0, I 0, I 0]) (by kernel_rfl) rfl rfl rfl rfl st14 (Nat.le_of_ble_eq_true rfl) rfl ?_); intro W17 st18
  refine sx_nil ?_
  refine wp_seq ?_
  refine sx_region ?_
  refine sx rfl (stp_fieldAddr fa_ReplyL_1 rfl ?_)
  refine sx rfl (stp_load_bx ld_int rfl rfl (st18.get 2 rfl) (i := 1) rfl rfl ?_)
  refine sx rfl (stp_fieldAddr fa_Reply_1 rfl ?_)
  refine sx rfl (stp_store_one (v := I x.run) (C' := [I x.code, I x.run, I 0, I 0]) (by kernel_rfl) rfl rfl rfl rfl st18 (Nat.le_of_ble_eq_true rfl) rfl ?_); intro W19 st20
  refine sx_nil ?_
  refine wp_seq ?_
  refine sx_region ?_
  refine sx rfl (stp_fieldAddr fa_ReplyL_2 rfl ?_)
  refine sx rfl (stp_load_bx ld_int rfl rfl (st20.get 2 rfl) (i := 2) rfl rfl ?_)
  refine sx rfl (stp_fieldAddr fa_Reply_2 rfl ?_)
  refine sx rfl (stp_store_one (v := I x.task) (C' := [I x.code, I x.run, I x.task, I 0]) (by kernel_rfl) rfl rfl rfl rfl st20 (Nat.le_of_ble_eq_true rfl) rfl ?_); intro W21 st22
  refine sx_nil ?_
  refine wp_seq ?_
  refine sx_region ?_
  refine sx rfl (stp_fieldAddr fa_ReplyL_3 rfl ?_)
  refine sx rfl (stp_load_bx ld_int rfl rfl (st22.get 2 rfl) (i := 3) rfl rfl ?_)
  refine sx rfl (stp_fieldAddr fa_Reply_3 rfl ?_)
  refine sx rfl (stp_store_one (v := I x.try_) (C' := [I x.code, I x.run, I x.task, I x.try_]) (by kernel_rfl) rfl rfl rfl rfl st22 (Nat.le_of_ble_eq_true rfl) rfl ?_); intro W23 st24
  refine sx_nil ?_
  refine wp_seq ?_
  refine sx_region ?_
  refine sx rfl (stp_load_bxs (cs := [I x.code, I x.run, I x.task, I x.try_]) ld_Reply rfl rfl (st24.get 0 rfl) rfl rfl ?_)
  have st25 := st24.f1
  refine sx rfl (stp_store_agg (cs := [I x.code, I x.run, I x.task, I x.try_]) (C' := [I x.code, I x.run, I x.task, I x.try_]) (by kernel_rfl) rfl rfl (one_cons rfl (one_cons rfl (one_cons rfl (one_cons rfl one_nil)))) st25 (Nat.le_of_ble_eq_true rfl) rfl ?_); intro W26 st27
  refine sx_nil ?_
  refine wp_ret ?_; repeat (first | refine then_ret ?_ | refine blk_ret ?_)
  refine retc1 ld_Reply rfl Tryd.results8 rfl (st27.get 0 rfl) rfl ?_
  exact ⟨rfl, by assumption, st27.bare⟩
set_option maxHeartbeats 2000000 in
theorem toDeed_n (w : World) {x : Deed} {cs : List Value} {fp : List Nat} (hc : Shape.C w cs x fp) (hw : x.wt ≤ 1048576) :
    Calls Tryd.prog 17 #[.agg cs.toArray] w fun e w' => ∃ (cs' : List Value) (fp' : List Nat), e = .returned (.agg cs'.toArray) ∧ St w w' [Res.own (.agg cs'.toArray) x fp'] := by
  have hw' := hw
  unfold Deed.wt at hw'
  refine enter1 Tryd.func17 rfl Tryd.ntmps17 (by decide) ?_
  refine wp_seq ?_
  refine sx_region ?_
  refine sx rfl (stp_box_agg (cs := cs) rfl (St.start w) ?_); intro b1 W2 hb3 st4
  refine sx rfl (stp_alloc zz_Deed st4 ?_); intro b6 W7 hb8 st9
  refine sx_nil ?_
  refine wp_seq ?_
  refine sx_region ?_
  refine sx rfl (stp_alloc zz_Deed st9 ?_); intro b11 W12 hb13 st14
  refine sx_nil ?_
  refine wp_seq ?_
  refine sx_region ?_
  refine sx rfl (stp_fieldAddr fa_DeedL_0 rfl ?_)
  have hk16 := hc
  obtain ⟨v16_0, g16_0, rfl, hok16, h16_0, rfl⟩ := hk16
  refine sx rfl (stp_load_bx ld_int rfl rfl (st14.get 2 rfl) (i := 0) rfl rfl ?_)
  refine sx rfl (stp_fieldAddr fa_Deed_0 rfl ?_)
  refine sx rfl (stp_store_one (v := I x.kind) (C' := [I x.kind, I 0, I 0, I 0, I 0, I 0, .slice none 0 0, I 0, I 0, I 0, I 0]) (by kernel_rfl) rfl rfl rfl rfl st14 (Nat.le_of_ble_eq_true rfl) rfl ?_); intro W17 st18
  refine sx_nil ?_
  refine wp_seq ?_
  refine sx_region ?_
  refine sx rfl (stp_fieldAddr fa_DeedL_1 rfl ?_)
  refine sx rfl (stp_load_bx ld_int rfl rfl (st18.get 2 rfl) (i := 1) rfl rfl ?_)
  refine sx rfl (stp_fieldAddr fa_Deed_1 rfl ?_)
  refine sx rfl (stp_store_one (v := I x.run) (C' := [I x.kind, I x.run, I 0, I 0, I 0, I 0, .slice none 0 0, I 0, I 0, I 0, I 0]) (by kernel_rfl) rfl rfl rfl rfl st18 (Nat.le_of_ble_eq_true rfl) rfl ?_); intro W19 st20
  refine sx_nil ?_
  refine wp_seq ?_
  refine sx_region ?_
  refine sx rfl (stp_fieldAddr fa_DeedL_2 rfl ?_)
  refine sx rfl (stp_load_bxs (cs := [I x.plan.prio, I x.plan.most, I x.plan.wait, I x.plan.tasks, v16_0]) ld_PlanL rfl rfl (st20.get 2 rfl) rfl rfl ?_)
  refine sx rfl (stp_call1 Tryd.func29 rfl rfl ((toPlan_n W19 (show Shape.C _ [I x.plan.prio, I x.plan.most, I x.plan.wait, I x.plan.tasks, v16_0] x.plan _ from ⟨_, _, rfl, (by first | exact True.intro | (simp only [Edge.ok, Plan.ok, Entry.ok, Task.ok, Run.ok, Yard.ok, Reply.ok, Deed.ok, Note.ok, Wait.ok, File.ok, Disk.ok, Engine.ok, WorldD.ok, ActD.ok, Hand.ok, Span.ok, Crew.ok, View.ok, I64] at *; omega)), (h16_0.below st20.below), rfl⟩) (by first | exact hw | omega | (simp only [Plan.wt, Run.wt, Yard.wt, Deed.wt, Note.wt, File.wt, Disk.wt, Engine.wt, WorldD.wt, ActD.wt, Span.wt, Crew.wt] at *; omega))).mono ?_)); rintro _ W23 ⟨cs21, fp21, rfl, hk24⟩; refine ⟨_, rfl, ?_⟩
  have st25 := St.call st20 hk24
  refine sx rfl (stp_fieldAddr fa_Deed_2 rfl ?_)
  have hq_ := open_Plan st25
  obtain ⟨v27_0, g27_0, he27, hok27, st28⟩ := hq_
  subst he27
  have st30 := st28.f1
  refine sx rfl (stp_store_agg (cs := [I x.plan.prio, I x.plan.most, I x.plan.wait, I x.plan.tasks, v27_0]) (C' := [I x.kind, I x.run, I x.plan.prio, I x.plan.most, I x.plan.wait, I x.plan.tasks, v27_0, I 0, I 0, I 0, I 0]) (by kernel_rfl) rfl rfl (one_cons rfl (one_cons rfl (one_cons rfl (one_cons rfl (one_cons (Sl.one (own_Sl (st30.get 1 rfl))) one_nil))))) st30 (Nat.le_of_ble_eq_true rfl) rfl ?_); intro W31 st32
  refine sx_nil ?_
  refine wp_seq ?_
  refine sx_region ?_
  refine sx rfl (stp_fieldAddr fa_DeedL_3 rfl ?_)
  refine sx rfl (stp_load_bx ld_int rfl rfl (st32.get 3 rfl) (i := 7) rfl rfl ?_)
  refine sx rfl (stp_fieldAddr fa_Deed_3 rfl ?_)
  refine sx rfl (stp_store_one (v := I x.task) (C' := [I x.kind, I x.run, I x.plan.prio, I x.plan.most, I x.plan.wait, I x.plan.tasks, v27_0, I x.task, I 0, I 0, I 0]) (by kernel_rfl) rfl rfl rfl rfl st32 (Nat.le_of_ble_eq_true rfl) rfl ?_); intro W33 st34
  refine sx_nil ?_
  refine wp_seq ?_
  refine sx_region ?_
  refine sx rfl (stp_fieldAddr fa_DeedL_4 rfl ?_)
  refine sx rfl (stp_load_bx ld_int rfl rfl (st34.get 3 rfl) (i := 8) rfl rfl ?_)
  refine sx rfl (stp_fieldAddr fa_Deed_4 rfl ?_)
  refine sx rfl (stp_store_one (v := I x.try_) (C' := [I x.kind, I x.run, I x.plan.prio, I x.plan.most, I x.plan.wait, I x.plan.tasks, v27_0, I x.task, I x.try_, I 0, I 0]) (by kernel_rfl) rfl rfl rfl rfl st34 (Nat.le_of_ble_eq_true rfl) rfl ?_); intro W35 st36
  refine sx_nil ?_
  refine wp_seq ?_
  refine sx_region ?_
  refine sx rfl (stp_fieldAddr fa_DeedL_5 rfl ?_)
  refine sx rfl (stp_load_bx ld_int rfl rfl (st36.get 3 rfl) (i := 9) rfl rfl ?_)
  refine sx rfl (stp_fieldAddr fa_Deed_5 rfl ?_)
  refine sx rfl (stp_store_one (v := I x.worker) (C' := [I x.kind, I x.run, I x.plan.prio, I x.plan.most, I x.plan.wait, I x.plan.tasks, v27_0, I x.task, I x.try_, I x.worker, I 0]) (by kernel_rfl) rfl rfl rfl rfl st36 (Nat.le_of_ble_eq_true rfl) rfl ?_); intro W37 st38
  refine sx_nil ?_
  refine wp_seq ?_
  refine sx_region ?_
  refine sx rfl (stp_fieldAddr fa_DeedL_6 rfl ?_)
  refine sx rfl (stp_load_bx ld_int rfl rfl (st38.get 3 rfl) (i := 10) rfl rfl ?_)
  refine sx rfl (stp_fieldAddr fa_Deed_6 rfl ?_)
  refine sx rfl (stp_store_one (v := I x.draw) (C' := [I x.kind, I x.run, I x.plan.prio, I x.plan.most, I x.plan.wait, I x.plan.tasks, v27_0, I x.task, I x.try_, I x.worker, I x.draw]) (by kernel_rfl) rfl rfl rfl rfl st38 (Nat.le_of_ble_eq_true rfl) rfl ?_); intro W39 st40
  refine sx_nil ?_
  refine wp_seq ?_
  refine sx_region ?_
  refine sx rfl (stp_load_bxs (cs := [I x.kind, I x.run, I x.plan.prio, I x.plan.most, I x.plan.wait, I x.plan.tasks, v27_0, I x.task, I x.try_, I x.worker, I x.draw]) ld_Deed rfl rfl (st40.get 0 rfl) rfl rfl ?_)
  have st41 := st40.f2
  refine sx rfl (stp_store_agg (cs := [I x.kind, I x.run, I x.plan.prio, I x.plan.most, I x.plan.wait, I x.plan.tasks, v27_0, I x.task, I x.try_, I x.worker, I x.draw]) (C' := [I x.kind, I x.run, I x.plan.prio, I x.plan.most, I x.plan.wait, I x.plan.tasks, v27_0, I x.task, I x.try_, I x.worker, I x.draw]) (by kernel_rfl) rfl rfl (one_cons rfl (one_cons rfl (one_cons rfl (one_cons rfl (one_cons rfl (one_cons rfl (one_cons (Sl.one (own_Sl (st41.get 2 rfl))) (one_cons rfl (one_cons rfl (one_cons rfl (one_cons rfl one_nil))))))))))) st41 (Nat.le_of_ble_eq_true rfl) rfl ?_); intro W42 st43
  refine sx_nil ?_
  refine wp_ret ?_; repeat (first | refine then_ret ?_ | refine blk_ret ?_)
  refine retc1 ld_Deed rfl Tryd.results17 rfl (st43.get 0 rfl) rfl ?_
  have st44 := st43.f2
  have st45 := shut_Deed (x := x) st44 (by first | exact True.intro | (simp only [Edge.ok, Plan.ok, Entry.ok, Task.ok, Run.ok, Yard.ok, Reply.ok, Deed.ok, Note.ok, Wait.ok, File.ok, Disk.ok, Engine.ok, WorldD.ok, ActD.ok, Hand.ok, Span.ok, Crew.ok, View.ok, I64] at *; omega))
  exact ⟨_, _, rfl, st45.only 0 rfl⟩
end Go.Proofs.YtchnllpegfbleaaDoor
