/-
  Slots, and the entries of a run: of the program and of the reference. (Printed by a program of this project's.)
-/
import Derived.Test.YtchnllpegfbleaaGreatReady
import Derived.Test.YtchnllpegfbleaaGreatOldest
namespace Go.Proofs.YtchnllpegfbleaaGreat
set_option linter.unusedSimpArgs false
set_option linter.unusedVariables false
set_option maxRecDepth 100000
open Go.RowKit


def slotsR (r : Run) : Nat := if r.state = 1 then r.tasks.length else 0
def slotsE (y : Yard) (es : List Entry) : Nat := (es.filter (fun e => !fresh y e)).length
def slotsOf (y : Yard) : Int := ((((y.runs).map slotsR).sum : Nat) : Int) + ((slotsE y y.shelf.flatten : Nat) : Int)
theorem slotsR_le (r : Run) : slotsR r ≤ r.wt := by unfold slotsR Run.wt; split <;> omega
theorem slotsS_le (y : Yard) (k : Nat) : ((y.runs.take k).map slotsR).sum ≤ y.wt := by
  have h1 := sum_le (f := slotsR) (g := fun r : Run => r.wt) slotsR_le (y.runs.take k)
  have h2 := wtL_take_le (fun r : Run => r.wt) y.runs k
  unfold Yard.wt wtL
  omega
theorem slotsE_t {y : Yard} {es : List Entry} {k : Nat} (hk : k < es.length) (h : (!fresh y es[k]) = true) : slotsE y (es.take (k + 1)) = slotsE y (es.take k) + 1 := by
  unfold slotsE; rw [List.take_succ_eq_append_getElem hk, List.filter_append, List.length_append]; simp [h]
theorem slotsE_f {y : Yard} {es : List Entry} {k : Nat} (hk : k < es.length) (h : (!fresh y es[k]) = false) : slotsE y (es.take (k + 1)) = slotsE y (es.take k) := by
  unfold slotsE; rw [List.take_succ_eq_append_getElem hk, List.filter_append, List.length_append]; simp [h]
theorem slotsE_le (y : Yard) (es : List Entry) : slotsE y es ≤ es.length := List.length_filter_le _ _
theorem slotsE_app (y : Yard) (a b : List Entry) : slotsE y (a ++ b) = slotsE y a + slotsE y b := by unfold slotsE; rw [List.filter_append, List.length_append]
theorem slotsR_t {r : Run} (h : r.state = 1) : slotsR r = r.tasks.length := by unfold slotsR; rw [if_pos h]
theorem slotsR_f {r : Run} (h : ¬ r.state = 1) : slotsR r = 0 := by unfold slotsR; rw [if_neg h]
/-- Entries and a run's tasks. -/
def entOf (id : Int) (task : Int) (e : Entry) : Bool := decide (e.run = id) && decide (e.task = task)
def entN (id task : Int) (es : List Entry) : Nat := (es.filter (entOf id task)).length
def prioOk (r : Run) (k : Nat) (es : List Entry) : Prop := ∀ h : k < r.tasks.length, ∀ e ∈ es, entOf r.id (k : Int) e = true → r.tasks[k].state = 2 → e.prio = r.plan.prio
def runEnt (now : Int) (r : Run) (es : List Entry) (k : Nat) : Prop := prioOk r k es ∧ ∀ h : k < r.tasks.length, (r.tasks[k].state = 2 → entN r.id (k : Int) es = 1) ∧ (r.tasks[k].state = 3 → now + 1 ≤ r.tasks[k].until_ ∧ r.tasks[k].until_ ≤ now + r.plan.wait)
noncomputable def runsOkB (now : Int) (r : Run) (es : List Entry) : Bool := pB (∀ k, k < r.tasks.length → runEnt now r es k)
theorem entN_t {id task : Int} {es : List Entry} {k : Nat} (hk : k < es.length) (h : es[k].run = id ∧ es[k].task = task) : entN id task (es.take (k + 1)) = entN id task (es.take k) + 1 := by
  unfold entN; rw [List.take_succ_eq_append_getElem hk, List.filter_append, List.length_append]; simp [entOf, h]
theorem entN_f {id task : Int} {es : List Entry} {k : Nat} (hk : k < es.length) (h : ¬ (es[k].run = id ∧ es[k].task = task)) : entN id task (es.take (k + 1)) = entN id task (es.take k) := by
  have : entOf id task es[k] = false := by
    unfold entOf
    by_cases h1 : es[k].run = id
    · have h2 : ¬ es[k].task = task := fun e => h ⟨h1, e⟩
      simp [h1, h2]
    · simp [h1]
  unfold entN; rw [List.take_succ_eq_append_getElem hk, List.filter_append, List.length_append]; simp [this]
theorem entN_le (id task : Int) (es : List Entry) : entN id task es ≤ es.length := List.length_filter_le _ _
theorem prioOk_step {r : Run} {k : Nat} {es : List Entry} {i : Nat} (hi : i < es.length) (h : prioOk r k (es.take i)) (h1 : ∀ hk : k < r.tasks.length, es[i].run = r.id → es[i].task = (k : Int) → r.tasks[k].state = 2 → es[i].prio = r.plan.prio) : prioOk r k (es.take (i + 1)) := by
  intro hk e he hent hst
  rw [List.take_succ_eq_append_getElem hi] at he
  rcases List.mem_append.1 he with he | he
  · exact h hk e he hent hst
  · rw [List.mem_singleton] at he; subst he
    simp only [entOf, Bool.and_eq_true, decide_eq_true_eq] at hent
    exact h1 hk hent.1 hent.2 hst
theorem runEnt_step {now : Int} {r : Run} {es : List Entry} {k i : Nat} (hi : i = es.length) (hPr : prioOk r k (es.take i)) (h2 : ∀ h : k < r.tasks.length, (r.tasks[k].state = 2 → entN r.id (k : Int) (es.take i) = 1) ∧ (r.tasks[k].state = 3 → now + 1 ≤ r.tasks[k].until_ ∧ r.tasks[k].until_ ≤ now + r.plan.wait)) (hT : ∀ j, j < k → runEnt now r es j) : ∀ j, j < k + 1 → runEnt now r es j := by
  subst hi
  rw [List.take_length] at hPr h2
  intro j hj
  rcases Nat.lt_succ_iff_lt_or_eq.1 hj with h1 | rfl
  · exact hT j h1
  · exact ⟨hPr, h2⟩
theorem prioOk_bad {r : Run} {k : Nat} {es : List Entry} {i : Nat} (hi : i < es.length) (hk : k < r.tasks.length) (h1 : es[i].run = r.id) (h2 : es[i].task = (k : Int)) (h3 : r.tasks[k].state = 2) (h4 : ¬ es[i].prio = r.plan.prio) : ¬ prioOk r k es := fun h => h4 (h hk _ (List.getElem_mem hi) (by simp [entOf, h1, h2]) h3)

set_option maxHeartbeats 2000000 in
theorem SlotsOfI (w : World) {y : Yard} {cs : List Value} {fp : List Nat} (hc : Shape.C w cs y fp) (hw : y.wt ≤ 1048576) :
    Calls Tryz.prog 100 #[.agg cs.toArray] w fun e w' => e = .returned (I (slotsOf y)) ∧ St w w' [] := by
  have hyr : y.runs.length ≤ y.wt := by unfold Yard.wt wtL; omega
  have hys : y.shelf.length ≤ y.wt := by unfold Yard.wt wtL; omega
  have hfw := flat_wt y
  refine enter1 Tryz.func100 rfl Tryz.ntmps100 (by decide) ?_
  refine wp_seq ?_
  refine sx_region ?_
  refine sx rfl (stp_box_agg (cs := cs) rfl (St.start w) ?_); intro b1 W2 hb3 st4
  refine sx rfl (stp_assign (v := I 0) rfl ?_)
  refine sx_nil ?_
  refine wp_seq ?_
  refine sx_region ?_
  refine sx rfl (stp_assign (v := I 0) rfl ?_)
  refine sx_nil ?_
  refine wp_seq ?_
  refine wp_seq ?_
  refine sx_region ?_
  refine sx rfl (stp_fieldAddr fa_Yard_3 rfl ?_)
  have hk6 := hc
  obtain ⟨v6_0, v6_1, g6_0, g6_1, rfl, hok6, h6_0, h6_1, rfl⟩ := hk6
  refine sx rfl (stp_load_bx ld_RunS rfl rfl (st4.get 0 rfl) (i := 3) rfl rfl ?_)
  refine sx rfl (stp_len sl_RunS rfl h6_1 ?_)
  refine sx rfl (stp_move (v := I 0) rfl ?_)
  refine sx_nil ?_
  refine wp_block ?_
  refine sx_loop (fun (m : Nat) (f : Nat → Value) (W : World) => ∃ (k : Nat), k ≤ y.runs.length ∧ m = y.runs.length - k ∧ f 1 = .pointer (some ⟨b1, 0, none⟩) ∧ f 3 = I ((((y.runs.take k).map slotsR).sum : Nat) : Int) ∧ f 9 = v6_1 ∧ f 10 = I (y.runs.length : Int) ∧ f 11 = I (k : Int) ∧ St w W ([Res.bx b1 [I y.now, I y.seq, v6_0, v6_1] 34])) (y.runs.length - 0) ?_ ?_
  · exact ⟨0, (by omega), rfl, rfl, rfl, rfl, rfl, rfl, st4⟩
  intro m7 f8 W9 hJ10
  obtain ⟨k, hk, rfl, hs12_1, hs12_3, hs12_9, hs12_10, hs12_11, st11⟩ := hJ10
  have hsl := slotsS_le y k
  refine wp_seq ?_
  refine sx_region ?_
  refine sx rfl (stp_lss hs12_11 hs12_10 ?_)
  refine sx_nil ?_
  refine wp_seq ?_
  refine sx_if rfl (fun h13 => ?_) (fun h13 => ?_)
  · skip
    have h13p := of_decide_eq_true h13
    refine wp_skip ?_
    refine wp_seq ?_
    refine wp_block ?_
    refine wp_seq ?_
    refine sx_region ?_
    have hi24e2d : k < y.runs.length := (by omega)
    have hq_ := idx h6_1 (i := k) hi24e2d
    obtain ⟨b14, o14, cs14, f14, hp14, hr14, hc14, hm14⟩ := hq_
    refine sx rfl (stp_indexAddr sl_RunS hs12_9 hp14 hs12_11 rfl ?_)
    refine sx rfl (stp_load_rga ld_Run rfl rfl hr14 st11.below (Shape.len hc14) ?_)
    refine sx rfl (stp_alloc zz_Run st11 ?_); intro b15 W16 hb17 st18
    refine sx rfl (stp_store_all (cs := cs14) ld_Run hc14 rfl rfl st18 rfl ?_); intro W20 st21
    refine sx_nil ?_
    refine wp_seq ?_
    refine sx_region ?_
    refine sx rfl (stp_fieldAddr fa_Run_2 rfl ?_)
    have hk22 := hc14
    obtain ⟨v22_0, v22_1, g22_0, g22_1, rfl, hok22, h22_0, h22_1, rfl⟩ := hk22
    refine sx rfl (stp_load_bx ld_int rfl rfl (st21.get 0 rfl) (i := 6) rfl rfl ?_)
    refine sx rfl (stp_eql rfl rfl ?_)
    refine sx_nil ?_
    refine sx_if rfl (fun h23 => ?_) (fun h23 => ?_)
    · skip
      have h23p := of_decide_eq_true h23
      refine sx_region ?_
      refine sx rfl (stp_move (v := I ((((y.runs.take k).map slotsR).sum : Nat) : Int)) hs12_3 ?_)
      refine sx rfl (stp_fieldAddr fa_Run_3 rfl ?_)
      refine sx rfl (stp_load_bx ld_TaskS rfl rfl (st21.get 0 rfl) (i := 7) rfl rfl ?_)
      refine sx rfl (stp_len sl_TaskS rfl h22_1 ?_)
      have hyk := yard_run (y := y) (k := k) (by omega)
      have hrw : (y.runs[k]'(by omega)).tasks.length ≤ (y.runs[k]'(by omega)).wt := by unfold Run.wt; omega
      refine sx rfl (stp_add rfl rfl (by (simp only [I64] at *; omega)) ?_)
      refine sx rfl (stp_assign (v := I (((((y.runs.take k).map slotsR).sum : Nat) : Int) + ((y.runs[k]'hi24e2d).tasks.length : Int))) rfl ?_)
      refine sx_nil ?_
      refine sx_region ?_
      refine sx rfl (stp_add hs12_11 rfl (by (simp only [I64] at *; omega)) ?_)
      refine sx rfl (stp_move (v := I ((k : Int) + 1)) rfl ?_)
      refine sx_nil ?_
      have st24 := st21.f1
      have st25 := st24.d1
      exact ⟨_, y.runs.length - (k + 1), (by omega), rfl, k + 1, (by omega), rfl, hs12_1, (Eq.trans (show _ = I (((((y.runs.take k).map slotsR).sum : Nat) : Int) + ((y.runs[k]'hi24e2d).tasks.length : Int)) from rfl) (congrArg I (by rw [sum_take slotsR y.runs k (by omega), slotsR_t h23p]; try omega))), hs12_9, hs12_10, rfl, st25⟩
    · skip
      have h23p := of_decide_eq_false h23
      refine wp_skip ?_
      refine sx_region ?_
      refine sx rfl (stp_add hs12_11 rfl (by (simp only [I64] at *; omega)) ?_)
      refine sx rfl (stp_move (v := I ((k : Int) + 1)) rfl ?_)
      refine sx_nil ?_
      have st26 := st21.f1
      have st27 := st26.d1
      exact ⟨_, y.runs.length - (k + 1), (by omega), rfl, k + 1, (by omega), rfl, hs12_1, (Eq.trans (show _ = I ((((y.runs.take k).map slotsR).sum : Nat) : Int) from hs12_3) (congrArg I (by rw [sum_take slotsR y.runs k (by omega), slotsR_f h23p]; try omega))), hs12_9, hs12_10, rfl, st27⟩
  · skip
    have h13p := of_decide_eq_false h13
    refine wp_exit ?_
    refine wp_seq ?_
    refine wp_seq ?_
    refine sx_region ?_
    refine sx rfl (stp_load_bxs (cs := [I y.now, I y.seq, v6_0, v6_1]) ld_Yard rfl hs12_1 (st11.get 0 rfl) rfl rfl ?_)
    refine sx rfl (stp_call1 Tryz.func96 rfl rfl ((EntriesI W9 (C_below hc st11.below) (by omega)).mono ?_)); rintro _ W30 ⟨v28, fp28, rfl, hk31⟩; refine ⟨_, rfl, ?_⟩
    have st32 := St.call st11 hk31
    refine sx rfl (stp_len sl_EntryS rfl (own_Sl (st32.get 0 rfl)) ?_)
    refine sx rfl (stp_move (v := I 0) rfl ?_)
    refine sx_nil ?_
    refine wp_block ?_
    refine sx_loop (fun (m : Nat) (f : Nat → Value) (W : World) => ∃ (i : Nat), i ≤ y.shelf.flatten.length ∧ m = y.shelf.flatten.length - i ∧ f 1 = .pointer (some ⟨b1, 0, none⟩) ∧ f 3 = I (((((y.runs.take k).map slotsR).sum : Nat) : Int) + ((slotsE y (y.shelf.flatten.take i) : Nat) : Int)) ∧ f 25 = v28 ∧ f 26 = I ((y.shelf).flatten.length : Int) ∧ f 27 = I (i : Int) ∧ St w W ([Res.own (α := List Entry) v28 (y.shelf).flatten fp28, Res.bx b1 [I y.now, I y.seq, v6_0, v6_1] 34])) (y.shelf.flatten.length - 0) ?_ ?_
    · exact ⟨0, (by omega), rfl, hs12_1, (Eq.trans (show _ = I ((((y.runs.take k).map slotsR).sum : Nat) : Int) from hs12_3) (congrArg I (by simp [slotsE]))), rfl, rfl, rfl, st32⟩
    intro m34 f35 W36 hJ37
    obtain ⟨i, hi, rfl, hs39_1, hs39_3, hs39_25, hs39_26, hs39_27, st38⟩ := hJ37
    have hse := slotsE_le y (y.shelf.flatten.take i)
    have htl := List.length_take_le i y.shelf.flatten
    refine wp_seq ?_
    refine sx_region ?_
    refine sx rfl (stp_lss hs39_27 hs39_26 ?_)
    refine sx_nil ?_
    refine wp_seq ?_
    refine sx_if rfl (fun h40 => ?_) (fun h40 => ?_)
    · skip
      have h40p := of_decide_eq_true h40
      refine wp_skip ?_
      refine wp_seq ?_
      refine wp_block ?_
      refine wp_seq ?_
      refine sx_region ?_
      have hi11c32 : i < (y.shelf).flatten.length := (by omega)
      have hq_ := idx (own_Sl (st38.get 0 rfl)) (i := i) hi11c32
      obtain ⟨b41, o41, cs41, f41, hp41, hr41, hc41, hm41⟩ := hq_
      refine sx rfl (stp_indexAddr sl_EntryS hs39_25 hp41 hs39_27 rfl ?_)
      refine sx rfl (stp_load_rga ld_Entry rfl rfl hr41 (Below.refl _ _) (Shape.len hc41) ?_)
      refine sx rfl (stp_alloc zz_Entry st38 ?_); intro b42 W43 hb44 st45
      refine sx rfl (stp_store_all (cs := cs41) ld_Entry hc41 rfl rfl st45 rfl ?_); intro W47 st48
      refine sx_nil ?_
      refine wp_seq ?_
      refine sx_region ?_
      refine sx rfl (stp_load_bxs (cs := [I y.now, I y.seq, v6_0, v6_1]) ld_Yard rfl hs39_1 (st48.get 2 rfl) rfl rfl ?_)
      refine sx rfl (stp_load_bxa ld_Entry rfl rfl (st48.get 0 rfl) (Shape.len hc41) ?_)
      refine sx rfl (stp_call2 Tryz.func165 rfl rfl rfl ((FreshI W47 (C_below hc st48.below) hc41 (by omega)).mono ?_)); rintro _ W49 ⟨rfl, hk50⟩; refine ⟨_, rfl, ?_⟩
      have st51 := St.call st48 hk50
      refine sx rfl (stp_not rfl ?_)
      refine sx_nil ?_
      refine sx_if rfl (fun h53 => ?_) (fun h53 => ?_)
      · skip
        refine sx_region ?_
        refine sx rfl (stp_move (v := I (((((y.runs.take k).map slotsR).sum : Nat) : Int) + ((slotsE y (y.shelf.flatten.take i) : Nat) : Int))) hs39_3 ?_)
        refine sx rfl (stp_add rfl rfl (by (simp only [I64] at *; omega)) ?_)
        refine sx rfl (stp_assign (v := I ((((((y.runs.take k).map slotsR).sum : Nat) : Int) + ((slotsE y (y.shelf.flatten.take i) : Nat) : Int)) + 1)) rfl ?_)
        refine sx_nil ?_
        refine sx_region ?_
        refine sx rfl (stp_add hs39_27 rfl (by (simp only [I64] at *; omega)) ?_)
        refine sx rfl (stp_move (v := I ((i : Int) + 1)) rfl ?_)
        refine sx_nil ?_
        have st54 := st51.f2
        have st55 := st54.f2
        have st56 := st55.d2
        exact ⟨_, y.shelf.flatten.length - (i + 1), (by omega), rfl, i + 1, (by omega), rfl, hs39_1, (Eq.trans (show _ = I ((((((y.runs.take k).map slotsR).sum : Nat) : Int) + ((slotsE y (y.shelf.flatten.take i) : Nat) : Int)) + 1) from rfl) (congrArg I (by rw [slotsE_t (by omega) h53]; try omega))), hs39_25, hs39_26, rfl, st56⟩
      · skip
        refine wp_skip ?_
        refine sx_region ?_
        refine sx rfl (stp_add hs39_27 rfl (by (simp only [I64] at *; omega)) ?_)
        refine sx rfl (stp_move (v := I ((i : Int) + 1)) rfl ?_)
        refine sx_nil ?_
        have st57 := st51.f2
        have st58 := st57.f2
        have st59 := st58.d2
        exact ⟨_, y.shelf.flatten.length - (i + 1), (by omega), rfl, i + 1, (by omega), rfl, hs39_1, (Eq.trans (show _ = I (((((y.runs.take k).map slotsR).sum : Nat) : Int) + ((slotsE y (y.shelf.flatten.take i) : Nat) : Int)) from hs39_3) (congrArg I (by rw [slotsE_f (by omega) h53]; try omega))), hs39_25, hs39_26, rfl, st59⟩
    · skip
      have h40p := of_decide_eq_false h40
      refine wp_exit ?_
      refine wp_seq ?_
      refine sx_region ?_
      refine sx rfl (stp_move (v := I (((((y.runs.take k).map slotsR).sum : Nat) : Int) + ((slotsE y (y.shelf.flatten.take i) : Nat) : Int))) hs39_3 ?_)
      refine sx rfl (stp_assign (v := I (((((y.runs.take k).map slotsR).sum : Nat) : Int) + ((slotsE y (y.shelf.flatten.take i) : Nat) : Int))) rfl ?_)
      refine sx_nil ?_
      refine wp_ret ?_; repeat (first | refine then_ret ?_ | refine blk_ret ?_)
      refine ret1 Tryz.results100 rfl ?_
      obtain rfl : k = y.runs.length := by omega
      obtain rfl : i = y.shelf.flatten.length := by omega
      exact ⟨(congrArg (fun z => Ending.returned (I z)) (by unfold slotsOf; rw [List.take_length, List.take_length])), st38.bare⟩
set_option maxHeartbeats 2000000 in
theorem SlotsOfS (w : World) {y : Yard} {cs : List Value} {fp : List Nat} (hc : Shape.C w cs y fp) (hw : y.wt ≤ 1048576) :
    Calls Tryz.prog 93 #[.agg cs.toArray] w fun e w' => e = .returned (I (slotsOf y)) ∧ St w w' [] := by
  have hyr : y.runs.length ≤ y.wt := by unfold Yard.wt wtL; omega
  have hys : y.shelf.length ≤ y.wt := by unfold Yard.wt wtL; omega
  have hfw := flat_wt y
  refine enter1 Tryz.func93 rfl Tryz.ntmps93 (by decide) ?_
  refine wp_seq ?_
  refine sx_region ?_
  refine sx rfl (stp_box_agg (cs := cs) rfl (St.start w) ?_); intro b1 W2 hb3 st4
  refine sx rfl (stp_assign (v := I 0) rfl ?_)
  refine sx_nil ?_
  refine wp_seq ?_
  refine sx_region ?_
  refine sx rfl (stp_assign (v := I 0) rfl ?_)
  refine sx_nil ?_
  refine wp_seq ?_
  refine wp_seq ?_
  refine sx_region ?_
  refine sx rfl (stp_assign (v := I 0) rfl ?_)
  refine sx_nil ?_
  refine wp_block ?_
  refine sx_loop (fun (m : Nat) (f : Nat → Value) (W : World) => ∃ (k : Nat), k ≤ y.runs.length ∧ m = y.runs.length - k ∧ f 1 = .pointer (some ⟨b1, 0, none⟩) ∧ f 3 = I ((((y.runs.take k).map slotsR).sum : Nat) : Int) ∧ f 4 = I (k : Int) ∧ St w W ([Res.bx b1 cs 34])) (y.runs.length - 0) ?_ ?_
  · exact ⟨0, (by omega), rfl, rfl, rfl, rfl, st4⟩
  intro m6 f7 W8 hJ9
  obtain ⟨k, hk, rfl, hs11_1, hs11_3, hs11_4, st10⟩ := hJ9
  have hsl := slotsS_le y k
  refine wp_seq ?_
  refine wp_seq ?_
  refine sx_region ?_
  refine sx rfl (stp_move (v := I (k : Int)) hs11_4 ?_)
  refine sx rfl (stp_fieldAddr fa_Yard_3 hs11_1 ?_)
  have hk12 := hc
  obtain ⟨v12_0, v12_1, g12_0, g12_1, rfl, hok12, h12_0, h12_1, rfl⟩ := hk12
  refine sx rfl (stp_load_bx ld_RunS rfl rfl (st10.get 0 rfl) (i := 3) rfl rfl ?_)
  refine sx rfl (stp_len sl_RunS rfl h12_1 ?_)
  refine sx rfl (stp_lss rfl rfl ?_)
  refine sx_nil ?_
  refine sx_if rfl (fun h13 => ?_) (fun h13 => ?_)
  · skip
    have h13p := of_decide_eq_true h13
    refine wp_skip ?_
    refine wp_seq ?_
    refine wp_block ?_
    refine wp_seq ?_
    refine sx_region ?_
    refine sx rfl (stp_fieldAddr fa_Yard_3 hs11_1 ?_)
    refine sx rfl (stp_load_bx ld_RunS rfl rfl (st10.get 0 rfl) (i := 3) rfl rfl ?_)
    refine sx rfl (stp_move (v := I (k : Int)) hs11_4 ?_)
    have hi24e2d : k < y.runs.length := (by omega)
    have hq_ := idx h12_1 (i := k) hi24e2d
    obtain ⟨b14, o14, cs14, f14, hp14, hr14, hc14, hm14⟩ := hq_
    refine sx rfl (stp_indexAddr sl_RunS rfl hp14 rfl rfl ?_)
    refine sx rfl (stp_fieldAddr fa_Run_2 rfl ?_)
    have hk15 := hc14
    obtain ⟨v15_0, v15_1, g15_0, g15_1, rfl, hok15, h15_0, h15_1, rfl⟩ := hk15
    refine sx rfl (stp_load_rg ld_int rfl rfl hr14 st10.below (i := 6) rfl rfl ?_)
    refine sx rfl (stp_eql rfl rfl ?_)
    refine sx_nil ?_
    refine sx_if rfl (fun h16 => ?_) (fun h16 => ?_)
    · skip
      have h16p := of_decide_eq_true h16
      refine sx_region ?_
      refine sx rfl (stp_move (v := I ((((y.runs.take k).map slotsR).sum : Nat) : Int)) hs11_3 ?_)
      refine sx rfl (stp_fieldAddr fa_Yard_3 hs11_1 ?_)
      refine sx rfl (stp_load_bx ld_RunS rfl rfl (st10.get 0 rfl) (i := 3) rfl rfl ?_)
      refine sx rfl (stp_move (v := I (k : Int)) hs11_4 ?_)
      refine sx rfl (stp_indexAddr sl_RunS rfl hp14 rfl rfl ?_)
      refine sx rfl (stp_fieldAddr fa_Run_3 rfl ?_)
      refine sx rfl (stp_load_rg ld_TaskS rfl rfl hr14 st10.below (i := 7) rfl rfl ?_)
      refine sx rfl (stp_len sl_TaskS rfl h15_1 ?_)
      have hyk := yard_run (y := y) (k := k) (by omega)
      have hrw : (y.runs[k]'(by omega)).tasks.length ≤ (y.runs[k]'(by omega)).wt := by unfold Run.wt; omega
      refine sx rfl (stp_add rfl rfl (by (simp only [I64] at *; omega)) ?_)
      refine sx rfl (stp_assign (v := I (((((y.runs.take k).map slotsR).sum : Nat) : Int) + ((y.runs[k]'hi24e2d).tasks.length : Int))) rfl ?_)
      refine sx_nil ?_
      refine sx_region ?_
      refine sx rfl (stp_move (v := I (k : Int)) hs11_4 ?_)
      refine sx rfl (stp_add rfl rfl (by (simp only [I64] at *; omega)) ?_)
      refine sx rfl (stp_assign (v := I ((k : Int) + 1)) rfl ?_)
      refine sx_nil ?_
      exact ⟨_, y.runs.length - (k + 1), (by omega), rfl, k + 1, (by omega), rfl, hs11_1, (Eq.trans (show _ = I (((((y.runs.take k).map slotsR).sum : Nat) : Int) + ((y.runs[k]'hi24e2d).tasks.length : Int)) from rfl) (congrArg I (by rw [sum_take slotsR y.runs k (by omega), slotsR_t h16p]; try omega))), rfl, st10⟩
    · skip
      have h16p := of_decide_eq_false h16
      refine wp_skip ?_
      refine sx_region ?_
      refine sx rfl (stp_move (v := I (k : Int)) hs11_4 ?_)
      refine sx rfl (stp_add rfl rfl (by (simp only [I64] at *; omega)) ?_)
      refine sx rfl (stp_assign (v := I ((k : Int) + 1)) rfl ?_)
      refine sx_nil ?_
      exact ⟨_, y.runs.length - (k + 1), (by omega), rfl, k + 1, (by omega), rfl, hs11_1, (Eq.trans (show _ = I ((((y.runs.take k).map slotsR).sum : Nat) : Int) from hs11_3) (congrArg I (by rw [sum_take slotsR y.runs k (by omega), slotsR_f h16p]; try omega))), rfl, st10⟩
  · skip
    have h13p := of_decide_eq_false h13
    refine wp_exit ?_
    refine wp_seq ?_
    refine wp_seq ?_
    refine sx_region ?_
    refine sx rfl (stp_assign (v := I 0) rfl ?_)
    refine sx_nil ?_
    refine wp_block ?_
    refine sx_loop (fun (m : Nat) (f : Nat → Value) (W : World) => ∃ (i : Nat), i ≤ y.shelf.length ∧ m = y.shelf.length - i ∧ f 1 = .pointer (some ⟨b1, 0, none⟩) ∧ f 3 = I (((((y.runs.take k).map slotsR).sum : Nat) : Int) + ((slotsE y (y.shelf.take i).flatten : Nat) : Int)) ∧ f 5 = I (i : Int) ∧ St w W ([Res.bx b1 [I y.now, I y.seq, v12_0, v12_1] 34])) (y.shelf.length - 0) ?_ ?_
    · exact ⟨0, (by omega), rfl, hs11_1, (Eq.trans (show _ = I ((((y.runs.take k).map slotsR).sum : Nat) : Int) from hs11_3) (congrArg I (by simp [slotsE]))), rfl, st10⟩
    intro m17 f18 W19 hJ20
    obtain ⟨i, hi, rfl, hs22_1, hs22_3, hs22_5, st21⟩ := hJ20
    have hse := slotsE_le y (y.shelf.take i).flatten
    have hfi := flat_le y i
    refine wp_seq ?_
    refine wp_seq ?_
    refine sx_region ?_
    refine sx rfl (stp_move (v := I (i : Int)) hs22_5 ?_)
    refine sx rfl (stp_fieldAddr fa_Yard_2 hs22_1 ?_)
    refine sx rfl (stp_load_bx ld_EntrySS rfl rfl (st21.get 0 rfl) (i := 2) rfl rfl ?_)
    refine sx rfl (stp_len sl_EntrySS rfl h12_0 ?_)
    refine sx rfl (stp_lss rfl rfl ?_)
    refine sx_nil ?_
    refine sx_if rfl (fun h23 => ?_) (fun h23 => ?_)
    · skip
      have h23p := of_decide_eq_true h23
      refine wp_skip ?_
      refine wp_seq ?_
      refine wp_block ?_
      refine wp_seq ?_
      refine sx_region ?_
      refine sx rfl (stp_assign (v := I 0) rfl ?_)
      refine sx_nil ?_
      refine wp_block ?_
      refine sx_loop (fun (m : Nat) (f : Nat → Value) (W : World) => ∃ (j : Nat), i < y.shelf.length ∧ j ≤ (y.shelf[i]'(by omega)).length ∧ m = (y.shelf[i]'(by omega)).length - j ∧ f 1 = .pointer (some ⟨b1, 0, none⟩) ∧ f 3 = I (((((y.runs.take k).map slotsR).sum : Nat) : Int) + ((slotsE y (y.shelf.take i).flatten : Nat) : Int) + ((slotsE y ((y.shelf[i]'(by omega)).take j) : Nat) : Int)) ∧ f 5 = I (i : Int) ∧ f 6 = I (j : Int) ∧ St w W ([Res.bx b1 [I y.now, I y.seq, v12_0, v12_1] 34])) ((y.shelf[i]'(by omega)).length - 0) ?_ ?_
      · exact ⟨0, (by omega), (by omega), rfl, hs22_1, (Eq.trans (show _ = I (((((y.runs.take k).map slotsR).sum : Nat) : Int) + ((slotsE y (y.shelf.take i).flatten : Nat) : Int)) from hs22_3) (congrArg I (by simp [slotsE]))), hs22_5, rfl, st21⟩
      intro m24 f25 W26 hJ27
      obtain ⟨j, hi2, hj, rfl, hs29_1, hs29_3, hs29_5, hs29_6, st28⟩ := hJ27
      have hse2 := slotsE_le y ((y.shelf[i]'(by omega)).take j)
      have htl := List.length_take_le j (y.shelf[i]'(by omega))
      have hfi2 := flat_le y (i + 1)
      rw [flat_to (by omega), List.length_append] at hfi2
      refine wp_seq ?_
      refine wp_seq ?_
      refine sx_region ?_
      have hij : i ≤ y.shelf.length := by omega
      refine sx rfl (stp_move (v := I (j : Int)) hs29_6 ?_)
      refine sx rfl (stp_fieldAddr fa_Yard_2 hs29_1 ?_)
      refine sx rfl (stp_load_bx ld_EntrySS rfl rfl (st28.get 0 rfl) (i := 2) rfl rfl ?_)
      refine sx rfl (stp_move (v := I (i : Int)) hs29_5 ?_)
      have hi41acd : i < y.shelf.length := (by omega)
      have hq_ := idx h12_0 (i := i) hi41acd
      obtain ⟨b30, o30, cs30, f30, hp30, hr30, hc30, hm30⟩ := hq_
      have hk30 := hc30
      obtain ⟨v31, rfl, h32⟩ := hk30
      refine sx rfl (stp_indexAddr sl_EntrySS rfl hp30 rfl rfl ?_)
      refine sx rfl (stp_load_rg ld_EntryS rfl rfl hr30 st28.below (i := 0) rfl rfl ?_)
      refine sx rfl (stp_len sl_EntryS rfl h32 ?_)
      refine sx rfl (stp_lss rfl rfl ?_)
      refine sx_nil ?_
      refine sx_if rfl (fun h33 => ?_) (fun h33 => ?_)
      · skip
        have h33p := of_decide_eq_true h33
        refine wp_skip ?_
        refine wp_seq ?_
        refine wp_block ?_
        refine wp_seq ?_
        have hi8b643 : j < (y.shelf[i]'hi41acd).length := (by omega)
        have hq_ := idx h32 (i := j) hi8b643
        obtain ⟨b34, o34, cs34, f34, hp34, hr34, hc34, hm34⟩ := hq_
        have hk35 := hc34
        obtain ⟨he35, rfl, hok35⟩ := hk35
        have he35 : _ = [I ((y.shelf[i]'hi41acd)[j]'hi8b643).prio, I ((y.shelf[i]'hi41acd)[j]'hi8b643).seq, I ((y.shelf[i]'hi41acd)[j]'hi8b643).run, I ((y.shelf[i]'hi41acd)[j]'hi8b643).task] := he35
        subst he35
        refine sx_any [Pl.is (.agg #[I y.now, I y.seq, v12_0, v12_1]), Pl.is (.pointer (some ⟨b1, 0 + 2, none⟩)), Pl.is (v12_0) (Sl.yl h12_0), Pl.is (I (i : Int)), Pl.is (.pointer (some ⟨b30, o30, none⟩)), Pl.is (v31) (Sl.yl h32), Pl.is (I (j : Int)), Pl.is (.pointer (some ⟨b34, o34, none⟩)), Pl.is (.agg #[I ((y.shelf[i]'hi41acd)[j]'hi8b643).prio, I ((y.shelf[i]'hi41acd)[j]'hi8b643).seq, I ((y.shelf[i]'hi41acd)[j]'hi8b643).run, I ((y.shelf[i]'hi41acd)[j]'hi8b643).task]), Pl.bool (fresh y ((y.shelf[i]'hi41acd)[j]'hi8b643)), Pl.bool (!(fresh y ((y.shelf[i]'hi41acd)[j]'hi8b643)))] mix (by rfl) st28 ⟨(fun f W hst hbl hd hf => stp_load_bxs (cs := [I y.now, I y.seq, v12_0, v12_1]) ld_Yard rfl ((hf 1 rfl).trans hs29_1) (hst.get 0 rfl) rfl rfl ⟨Below.refl _ _, rfl⟩), (fun f W hst hbl hd hf => stp_fieldAddr fa_Yard_2 ((hf 1 rfl).trans hs29_1) ⟨Below.refl _ _, rfl⟩), (fun f W hst hbl hd hf => stp_load_bx ld_EntrySS rfl (hd 1 48 rfl rfl) (hst.get 0 rfl) (i := 2) rfl rfl ⟨Below.refl _ _, rfl⟩), (fun f W hst hbl hd hf => stp_move (v := I (i : Int)) ((hf 5 rfl).trans hs29_5) ⟨Below.refl _ _, rfl⟩), (fun f W hst hbl hd hf => stp_indexAddr sl_EntrySS (hd 2 49 rfl rfl) hp30 (hd 3 50 rfl rfl) rfl ⟨Below.refl _ _, rfl⟩), (fun f W hst hbl hd hf => stp_load_rg ld_EntryS rfl (hd 4 51 rfl rfl) hr30 hst.below (i := 0) rfl rfl ⟨Below.refl _ _, rfl⟩), (fun f W hst hbl hd hf => stp_move (v := I (j : Int)) ((hf 6 rfl).trans hs29_6) ⟨Below.refl _ _, rfl⟩), (fun f W hst hbl hd hf => stp_indexAddr sl_EntryS (hd 5 52 rfl rfl) hp34 (hd 6 53 rfl rfl) rfl ⟨Below.refl _ _, rfl⟩), (fun f W hst hbl hd hf => stp_load_rgs (cs := [I ((y.shelf[i]'hi41acd)[j]'hi8b643).prio, I ((y.shelf[i]'hi41acd)[j]'hi8b643).seq, I ((y.shelf[i]'hi41acd)[j]'hi8b643).run, I ((y.shelf[i]'hi41acd)[j]'hi8b643).task]) ld_Entry rfl (hd 7 54 rfl rfl) hr34 hst.below (i := 0) rfl rfl rfl ⟨Below.refl _ _, rfl⟩), (fun f W hst hbl hd hf => stp_call2 Tryz.func158 rfl (hd 0 47 rfl rfl) (hd 8 55 rfl rfl) ((FreshS W (C_below hc hst.below) hc34 (by omega)).mono (by rintro e W2 ⟨rfl, hk⟩; exact ⟨_, rfl, hk.below, rfl⟩))), (fun f W hst hbl hd hf => stp_not (hd 9 56 rfl rfl) ⟨Below.refl _ _, rfl⟩), trivial⟩ ?_
        intro f36 W37 st38 hb39 hv40 hf41
        refine sx_if (hv40 10 57 (by decide) rfl) (fun h42 => ?_) (fun h42 => ?_)
        · skip
          refine sx_region ?_
          refine sx rfl (stp_move (v := I (((((y.runs.take k).map slotsR).sum : Nat) : Int) + ((slotsE y (y.shelf.take i).flatten : Nat) : Int) + ((slotsE y ((y.shelf[i]'(by omega)).take j) : Nat) : Int))) ((hf41 3 rfl).trans hs29_3) ?_)
          refine sx rfl (stp_add rfl rfl (by (simp only [I64] at *; omega)) ?_)
          refine sx rfl (stp_assign (v := I ((((((y.runs.take k).map slotsR).sum : Nat) : Int) + ((slotsE y (y.shelf.take i).flatten : Nat) : Int) + ((slotsE y ((y.shelf[i]'(by omega)).take j) : Nat) : Int)) + 1)) rfl ?_)
          refine sx_nil ?_
          refine sx_region ?_
          refine sx rfl (stp_move (v := I (j : Int)) ((hf41 6 rfl).trans hs29_6) ?_)
          refine sx rfl (stp_add rfl rfl (by (simp only [I64] at *; omega)) ?_)
          refine sx rfl (stp_assign (v := I ((j : Int) + 1)) rfl ?_)
          refine sx_nil ?_
          exact ⟨_, (y.shelf[i]'(by omega)).length - (j + 1), (by omega), rfl, j + 1, (by omega), (by omega), rfl, ((hf41 1 rfl).trans hs29_1), (Eq.trans (show _ = I ((((((y.runs.take k).map slotsR).sum : Nat) : Int) + ((slotsE y (y.shelf.take i).flatten : Nat) : Int) + ((slotsE y ((y.shelf[i]'(by omega)).take j) : Nat) : Int)) + 1) from rfl) (congrArg I (by rw [slotsE_t (by omega) h42]; try omega))), ((hf41 5 rfl).trans hs29_5), rfl, st38⟩
        · skip
          refine wp_skip ?_
          refine sx_region ?_
          refine sx rfl (stp_move (v := I (j : Int)) ((hf41 6 rfl).trans hs29_6) ?_)
          refine sx rfl (stp_add rfl rfl (by (simp only [I64] at *; omega)) ?_)
          refine sx rfl (stp_assign (v := I ((j : Int) + 1)) rfl ?_)
          refine sx_nil ?_
          exact ⟨_, (y.shelf[i]'(by omega)).length - (j + 1), (by omega), rfl, j + 1, (by omega), (by omega), rfl, ((hf41 1 rfl).trans hs29_1), (Eq.trans (show _ = I (((((y.runs.take k).map slotsR).sum : Nat) : Int) + ((slotsE y (y.shelf.take i).flatten : Nat) : Int) + ((slotsE y ((y.shelf[i]'(by omega)).take j) : Nat) : Int)) from ((hf41 3 rfl).trans hs29_3)) (congrArg I (by rw [slotsE_f (by omega) h42]; try omega))), ((hf41 5 rfl).trans hs29_5), rfl, st38⟩
      · skip
        have h33p := of_decide_eq_false h33
        refine wp_exit ?_
        refine sx_region ?_
        refine sx rfl (stp_move (v := I (i : Int)) hs29_5 ?_)
        refine sx rfl (stp_add rfl rfl (by (simp only [I64] at *; omega)) ?_)
        refine sx rfl (stp_assign (v := I ((i : Int) + 1)) rfl ?_)
        refine sx_nil ?_
        exact ⟨_, y.shelf.length - (i + 1), (by omega), rfl, i + 1, (by omega), rfl, hs29_1, (Eq.trans (show _ = I (((((y.runs.take k).map slotsR).sum : Nat) : Int) + ((slotsE y (y.shelf.take i).flatten : Nat) : Int) + ((slotsE y ((y.shelf[i]'(by omega)).take j) : Nat) : Int)) from hs29_3) (congrArg I (by rw [flat_to (by omega), slotsE_app, show j = (y.shelf[i]'(by omega)).length by omega, List.take_length]; omega))), rfl, st28⟩
    · skip
      have h23p := of_decide_eq_false h23
      refine wp_exit ?_
      refine wp_seq ?_
      refine sx_region ?_
      refine sx rfl (stp_move (v := I (((((y.runs.take k).map slotsR).sum : Nat) : Int) + ((slotsE y (y.shelf.take i).flatten : Nat) : Int))) hs22_3 ?_)
      refine sx rfl (stp_assign (v := I (((((y.runs.take k).map slotsR).sum : Nat) : Int) + ((slotsE y (y.shelf.take i).flatten : Nat) : Int))) rfl ?_)
      refine sx_nil ?_
      refine wp_ret ?_; repeat (first | refine then_ret ?_ | refine blk_ret ?_)
      refine ret1 Tryz.results93 rfl ?_
      obtain rfl : k = y.runs.length := by omega
      obtain rfl : i = y.shelf.length := by omega
      exact ⟨(congrArg (fun z => Ending.returned (I z)) (by unfold slotsOf; rw [List.take_length, List.take_length])), st21.bare⟩
set_option maxHeartbeats 2000000 in
theorem RunsOkI (w : World) {y : Yard} {cs : List Value} {fp : List Nat} (hc : Shape.C w cs y fp) {r : Run} {ds : List Value} {gp : List Nat} (hd : Shape.C w ds r gp) {v : Value} {es : List Entry} {fq : List Nat} (h : Sl w v es fq) (hn : 0 ≤ y.now ∧ y.now ≤ 999999980) (hwt : 0 ≤ r.plan.wait ∧ r.plan.wait ≤ 20) (hl : es.length ≤ 1048576) :
    Calls Tryz.prog 99 #[.agg cs.toArray, .agg ds.toArray, v] w fun e w' => e = .returned (.bool (runsOkB y.now r es)) ∧ St w w' [] := by
  have hcap : r.tasks.length ≤ 9223372036854775807 := by have h0 := hd; obtain ⟨v1, v2, f1, f2, h0, hok, h1, h2, hfp⟩ := h0; exact h2.len_le
  have hcap2 := h.len_le
  refine enter3 Tryz.func99 rfl Tryz.ntmps99 (by decide) ?_
  refine wp_seq ?_
  refine sx_region ?_
  refine sx rfl (stp_box_agg (cs := cs) rfl (St.start w) ?_); intro b1 W2 hb3 st4
  refine sx rfl (stp_box_agg (cs := ds) rfl st4 ?_); intro b6 W7 hb8 st9
  refine sx rfl (stp_assign (v := .bool false) rfl ?_)
  refine sx_nil ?_
  refine wp_seq ?_
  refine wp_seq ?_
  refine sx_region ?_
  refine sx rfl (stp_fieldAddr fa_Run_3 rfl ?_)
  have hk11 := hd
  obtain ⟨v11_0, v11_1, g11_0, g11_1, rfl, hok11, h11_0, h11_1, rfl⟩ := hk11
  refine sx rfl (stp_load_bx ld_TaskS rfl rfl (st9.get 0 rfl) (i := 7) rfl rfl ?_)
  refine sx rfl (stp_len sl_TaskS rfl h11_1 ?_)
  refine sx rfl (stp_move (v := I 0) rfl ?_)
  refine sx_nil ?_
  refine wp_block ?_
  refine sx_loop (fun (m : Nat) (f : Nat → Value) (W : World) => ∃ (k : Nat), k ≤ r.tasks.length ∧ (∀ j, j < k → runEnt y.now r es j) ∧ m = r.tasks.length - k ∧ f 2 = v ∧ f 3 = .pointer (some ⟨b1, 0, none⟩) ∧ f 4 = .pointer (some ⟨b6, 0, none⟩) ∧ f 13 = v11_1 ∧ f 14 = I (r.tasks.length : Int) ∧ f 15 = I (k : Int) ∧ St w W ([Res.bx b6 [I r.id, I r.plan.prio, I r.plan.most, I r.plan.wait, I r.plan.tasks, v11_0, I r.state, v11_1] 123, Res.bx b1 cs 34])) (r.tasks.length - 0) ?_ ?_
  · exact ⟨0, (by omega), (fun j hj => absurd hj (Nat.not_lt_zero j)), rfl, rfl, rfl, rfl, rfl, rfl, rfl, st9⟩
  intro m12 f13 W14 hJ15
  obtain ⟨k, hk, hT, rfl, hs17_2, hs17_3, hs17_4, hs17_13, hs17_14, hs17_15, st16⟩ := hJ15
  refine wp_seq ?_
  refine sx_region ?_
  refine sx rfl (stp_lss hs17_15 hs17_14 ?_)
  refine sx_nil ?_
  refine wp_seq ?_
  refine sx_if rfl (fun h18 => ?_) (fun h18 => ?_)
  · skip
    have h18p := of_decide_eq_true h18
    refine wp_skip ?_
    refine wp_seq ?_
    refine wp_block ?_
    refine wp_seq ?_
    refine sx_region ?_
    refine sx rfl (stp_move (v := I (k : Int)) hs17_15 ?_)
    have hif4d94 : k < r.tasks.length := (by omega)
    have hq_ := idx h11_1 (i := k) hif4d94
    obtain ⟨b19, o19, cs19, f19, hp19, hr19, hc19, hm19⟩ := hq_
    refine sx rfl (stp_indexAddr sl_TaskS hs17_13 hp19 hs17_15 rfl ?_)
    refine sx rfl (stp_load_rga ld_Task rfl rfl hr19 st16.below (Shape.len hc19) ?_)
    refine sx rfl (stp_alloc zz_Task st16 ?_); intro b20 W21 hb22 st23
    refine sx rfl (stp_assign (v := I (k : Int)) rfl ?_)
    refine sx rfl (stp_store_all (cs := cs19) ld_Task hc19 rfl rfl st23 rfl ?_); intro W25 st26
    refine sx_nil ?_
    refine wp_seq ?_
    refine sx_region ?_
    refine sx rfl (stp_assign (v := I 0) rfl ?_)
    refine sx_nil ?_
    refine wp_seq ?_
    refine wp_seq ?_
    refine sx_region ?_
    refine sx rfl (stp_move (v := v) hs17_2 ?_)
    refine sx rfl (stp_len sl_EntryS rfl h ?_)
    refine sx rfl (stp_move (v := I 0) rfl ?_)
    refine sx_nil ?_
    refine wp_block ?_
    refine sx_loop (fun (m : Nat) (f : Nat → Value) (W : World) => ∃ (i : Nat), k < r.tasks.length ∧ i ≤ es.length ∧ prioOk r k (es.take i) ∧ entN r.id (k : Int) (es.take i) ≤ i ∧ m = es.length - i ∧ f 2 = v ∧ f 3 = .pointer (some ⟨b1, 0, none⟩) ∧ f 4 = .pointer (some ⟨b6, 0, none⟩) ∧ f 7 = I (k : Int) ∧ f 8 = .pointer (some ⟨b20, 0, none⟩) ∧ f 9 = I ((entN r.id (k : Int) (es.take i) : Nat) : Int) ∧ f 13 = v11_1 ∧ f 14 = I (r.tasks.length : Int) ∧ f 15 = I (k : Int) ∧ f 20 = v ∧ f 21 = I (es.length : Int) ∧ f 22 = I (i : Int) ∧ St w W ([Res.bx b20 cs19 140, Res.bx b6 [I r.id, I r.plan.prio, I r.plan.most, I r.plan.wait, I r.plan.tasks, v11_0, I r.state, v11_1] 123, Res.bx b1 cs 34])) (es.length - 0) ?_ ?_
    · exact ⟨0, (by omega), (by omega), (fun _ e he => by simp at he), (by simp [entN]), rfl, hs17_2, hs17_3, hs17_4, rfl, rfl, (Eq.trans (show _ = I 0 from rfl) (congrArg I (by simp [entN]))), hs17_13, hs17_14, hs17_15, rfl, rfl, rfl, st26⟩
    intro m27 f28 W29 hJ30
    obtain ⟨i, hk2, hi, hPr, hen, rfl, hs32_2, hs32_3, hs32_4, hs32_7, hs32_8, hs32_9, hs32_13, hs32_14, hs32_15, hs32_20, hs32_21, hs32_22, st31⟩ := hJ30
    refine wp_seq ?_
    refine sx_region ?_
    refine sx rfl (stp_lss hs32_22 hs32_21 ?_)
    refine sx_nil ?_
    refine wp_seq ?_
    refine sx_if rfl (fun h33 => ?_) (fun h33 => ?_)
    · skip
      have h33p := of_decide_eq_true h33
      refine wp_skip ?_
      refine wp_seq ?_
      refine wp_block ?_
      refine wp_seq ?_
      refine sx_region ?_
      have hif21f0 : i < es.length := (by omega)
      have hq_ := idx h (i := i) hif21f0
      obtain ⟨b34, o34, cs34, f34, hp34, hr34, hc34, hm34⟩ := hq_
      refine sx rfl (stp_indexAddr sl_EntryS hs32_20 hp34 hs32_22 rfl ?_)
      refine sx rfl (stp_load_rga ld_Entry rfl rfl hr34 st31.below (Shape.len hc34) ?_)
      refine sx rfl (stp_alloc zz_Entry st31 ?_); intro b35 W36 hb37 st38
      refine sx rfl (stp_store_all (cs := cs34) ld_Entry hc34 rfl rfl st38 rfl ?_); intro W40 st41
      refine sx_nil ?_
      refine wp_seq ?_
      refine sx_region ?_
      refine sx rfl (stp_fieldAddr fa_Entry_2 rfl ?_)
      have hk42 := hc34
      obtain ⟨he42, rfl, hok42⟩ := hk42
      have he42 : _ = [I (es[i]'hif21f0).prio, I (es[i]'hif21f0).seq, I (es[i]'hif21f0).run, I (es[i]'hif21f0).task] := he42
      subst he42
      refine sx rfl (stp_load_bx ld_int rfl rfl (st41.get 0 rfl) (i := 2) rfl rfl ?_)
      refine sx rfl (stp_fieldAddr fa_Run_0 hs32_4 ?_)
      refine sx rfl (stp_load_bx ld_int rfl rfl (st41.get 2 rfl) (i := 0) rfl rfl ?_)
      refine sx rfl (stp_eql rfl rfl ?_)
      refine sx rfl (stp_move (v := .bool (decide ((es[i]'hif21f0).run = r.id))) rfl ?_)
      rcases bd (decide ((es[i]'hif21f0).run = r.id)) with h43 | h43
      · skip
        have h43p := of_decide_eq_false h43
        iterate 4 refine sx_off (j := 5) (dd := 31) rfl rfl (by decide) (yl_off (e := decide ((es[i]'hif21f0).run = r.id)) rfl h43) ?_
        refine sx rfl (stp_pick_f (v := .bool false) ((rfl : _ = (.bool (decide ((es[i]'hif21f0).run = r.id)) : Value)).trans (congrArg Value.bool h43)) rfl ?_)
        refine sx_nil ?_
        refine sx_f rfl rfl ?_
        refine wp_skip ?_
        refine sx_region ?_
        refine sx rfl (stp_add hs32_22 rfl (by (simp only [I64] at *; omega)) ?_)
        refine sx rfl (stp_move (v := I ((i : Int) + 1)) rfl ?_)
        refine sx_nil ?_
        have st44 := st41.f3
        have st45 := st44.f3
        have st46 := st45.f3
        have st47 := st46.d3
        exact ⟨_, es.length - (i + 1), (by omega), rfl, i + 1, (by omega), (by omega), (prioOk_step (by omega) hPr (fun _ h1 h2 h3 => by omega)), (by exact Nat.le_trans (entN_le _ _ _) (List.length_take_le _ _)), rfl, hs32_2, hs32_3, hs32_4, hs32_7, hs32_8, (Eq.trans (show _ = I ((entN r.id (k : Int) (es.take i) : Nat) : Int) from hs32_9) (congrArg I (by rw [entN_f (by omega) (fun hz => by have hz1 := hz.1; have hz2 := hz.2; omega)]))), hs32_13, hs32_14, hs32_15, hs32_20, hs32_21, rfl, st47⟩
      · skip
        have h43p := of_decide_eq_true h43
        refine sx_on (j := 5) (dd := 31) rfl rfl (by decide) (yl_on (e := decide ((es[i]'hif21f0).run = r.id)) rfl h43) (stp_fieldAddr fa_Entry_3 rfl ?_)
        refine sx_on (j := 5) (dd := 31) rfl rfl (by decide) (yl_on (e := decide ((es[i]'hif21f0).run = r.id)) rfl h43) (stp_load_bx ld_int rfl rfl (st41.get 0 rfl) (i := 3) rfl rfl ?_)
        refine sx_on (j := 5) (dd := 31) rfl rfl (by decide) (yl_on (e := decide ((es[i]'hif21f0).run = r.id)) rfl h43) (stp_move (v := I (k : Int)) hs32_7 ?_)
        refine sx_on (j := 5) (dd := 31) rfl rfl (by decide) (yl_on (e := decide ((es[i]'hif21f0).run = r.id)) rfl h43) (stp_eql rfl rfl ?_)
        refine sx rfl (stp_pick_t (v := .bool (decide ((es[i]'hif21f0).task = (k : Int)))) ((rfl : _ = (.bool (decide ((es[i]'hif21f0).run = r.id)) : Value)).trans (congrArg Value.bool h43)) rfl ?_)
        refine sx_nil ?_
        refine sx_if rfl (fun h48 => ?_) (fun h48 => ?_)
        · skip
          have h48p := of_decide_eq_true h48
          refine wp_seq ?_
          refine wp_seq ?_
          refine sx_region ?_
          refine sx rfl (stp_fieldAddr fa_Task_0 hs32_8 ?_)
          have hk49 := hc19
          obtain ⟨he49, rfl, hok49⟩ := hk49
          have he49 : _ = [I (r.tasks[k]'hif4d94).state, I (r.tasks[k]'hif4d94).need, I (r.tasks[k]'hif4d94).try_, I (r.tasks[k]'hif4d94).until_] := he49
          subst he49
          refine sx rfl (stp_load_bx ld_int rfl rfl (st41.get 1 rfl) (i := 0) rfl rfl ?_)
          refine sx rfl (stp_eql rfl rfl ?_)
          refine sx rfl (stp_move (v := .bool (decide ((r.tasks[k]'hif4d94).state = 2))) rfl ?_)
          rcases bd (decide ((r.tasks[k]'hif4d94).state = 2)) with h50 | h50
          · skip
            have h50p := of_decide_eq_false h50
            iterate 6 refine sx_off (j := 3) (dd := 40) rfl rfl (by decide) (yl_off (e := decide ((r.tasks[k]'hif4d94).state = 2)) rfl h50) ?_
            refine sx rfl (stp_pick_f (v := .bool false) ((rfl : _ = (.bool (decide ((r.tasks[k]'hif4d94).state = 2)) : Value)).trans (congrArg Value.bool h50)) rfl ?_)
            refine sx_nil ?_
            refine sx_f rfl rfl ?_
            refine wp_skip ?_
            refine sx_region ?_
            refine sx rfl (stp_move (v := I ((entN r.id (k : Int) (es.take i) : Nat) : Int)) hs32_9 ?_)
            refine sx rfl (stp_add rfl rfl (by (simp only [I64] at *; omega)) ?_)
            refine sx rfl (stp_assign (v := I (((entN r.id (k : Int) (es.take i) : Nat) : Int) + 1)) rfl ?_)
            refine sx_nil ?_
            refine sx_region ?_
            refine sx rfl (stp_add hs32_22 rfl (by (simp only [I64] at *; omega)) ?_)
            refine sx rfl (stp_move (v := I ((i : Int) + 1)) rfl ?_)
            refine sx_nil ?_
            have st51 := st41.f3
            have st52 := st51.f3
            have st53 := st52.f3
            have st54 := st53.d3
            exact ⟨_, es.length - (i + 1), (by omega), rfl, i + 1, (by omega), (by omega), (prioOk_step (by omega) hPr (fun _ h1 h2 h3 => by omega)), (by exact Nat.le_trans (entN_le _ _ _) (List.length_take_le _ _)), rfl, hs32_2, hs32_3, hs32_4, hs32_7, hs32_8, (Eq.trans (show _ = I (((entN r.id (k : Int) (es.take i) : Nat) : Int) + 1) from rfl) (congrArg I (by rw [entN_t (by omega) ⟨by assumption, by assumption⟩]; omega))), hs32_13, hs32_14, hs32_15, hs32_20, hs32_21, rfl, st54⟩
          · skip
            have h50p := of_decide_eq_true h50
            refine sx_on (j := 3) (dd := 40) rfl rfl (by decide) (yl_on (e := decide ((r.tasks[k]'hif4d94).state = 2)) rfl h50) (stp_fieldAddr fa_Entry_0 rfl ?_)
            refine sx_on (j := 3) (dd := 40) rfl rfl (by decide) (yl_on (e := decide ((r.tasks[k]'hif4d94).state = 2)) rfl h50) (stp_load_bx ld_int rfl rfl (st41.get 0 rfl) (i := 0) rfl rfl ?_)
            refine sx_on (j := 3) (dd := 40) rfl rfl (by decide) (yl_on (e := decide ((r.tasks[k]'hif4d94).state = 2)) rfl h50) (stp_fieldAddr fa_Run_1 hs32_4 ?_)
            refine sx_on (j := 3) (dd := 40) rfl rfl (by decide) (yl_on (e := decide ((r.tasks[k]'hif4d94).state = 2)) rfl h50) (stp_fieldAddr fa_Plan_0 rfl ?_)
            refine sx_on (j := 3) (dd := 40) rfl rfl (by decide) (yl_on (e := decide ((r.tasks[k]'hif4d94).state = 2)) rfl h50) (stp_load_bx ld_int rfl rfl (st41.get 2 rfl) (i := 1) rfl rfl ?_)
            refine sx_on (j := 3) (dd := 40) rfl rfl (by decide) (yl_on (e := decide ((r.tasks[k]'hif4d94).state = 2)) rfl h50) (stp_neq rfl rfl ?_)
            refine sx rfl (stp_pick_t (v := .bool (!decide ((es[i]'hif21f0).prio = r.plan.prio))) ((rfl : _ = (.bool (decide ((r.tasks[k]'hif4d94).state = 2)) : Value)).trans (congrArg Value.bool h50)) rfl ?_)
            refine sx_nil ?_
            refine sx_if rfl (fun h55 => ?_) (fun h55 => ?_)
            · skip
              have h55p := of_decide_eq_false (bnot_t h55)
              refine wp_seq ?_
              refine sx_region ?_
              refine sx rfl (stp_assign (v := .bool false) rfl ?_)
              refine sx_nil ?_
              refine wp_ret ?_; repeat (first | refine then_ret ?_ | refine blk_ret ?_)
              refine ret1 Tryz.results99 rfl ?_
              exact ⟨(congrArg (fun z => Ending.returned (.bool z)) (by unfold runsOkB; rw [pB_f (fun hz => prioOk_bad (i := i) (k := k) (by omega) (by omega) (by assumption) (by assumption) (by assumption) (by assumption) (hz k (by omega)).1)])), st41.bare⟩
            · skip
              have h55p := of_decide_eq_true (bnot_f h55)
              refine wp_skip ?_
              refine sx_region ?_
              refine sx rfl (stp_move (v := I ((entN r.id (k : Int) (es.take i) : Nat) : Int)) hs32_9 ?_)
              refine sx rfl (stp_add rfl rfl (by (simp only [I64] at *; omega)) ?_)
              refine sx rfl (stp_assign (v := I (((entN r.id (k : Int) (es.take i) : Nat) : Int) + 1)) rfl ?_)
              refine sx_nil ?_
              refine sx_region ?_
              refine sx rfl (stp_add hs32_22 rfl (by (simp only [I64] at *; omega)) ?_)
              refine sx rfl (stp_move (v := I ((i : Int) + 1)) rfl ?_)
              refine sx_nil ?_
              have st56 := st41.f3
              have st57 := st56.f3
              have st58 := st57.f3
              have st59 := st58.d3
              exact ⟨_, es.length - (i + 1), (by omega), rfl, i + 1, (by omega), (by omega), (prioOk_step (by omega) hPr (fun _ h1 h2 h3 => by omega)), (by exact Nat.le_trans (entN_le _ _ _) (List.length_take_le _ _)), rfl, hs32_2, hs32_3, hs32_4, hs32_7, hs32_8, (Eq.trans (show _ = I (((entN r.id (k : Int) (es.take i) : Nat) : Int) + 1) from rfl) (congrArg I (by rw [entN_t (by omega) ⟨by assumption, by assumption⟩]; omega))), hs32_13, hs32_14, hs32_15, hs32_20, hs32_21, rfl, st59⟩
        · skip
          have h48p := of_decide_eq_false h48
          refine wp_skip ?_
          refine sx_region ?_
          refine sx rfl (stp_add hs32_22 rfl (by (simp only [I64] at *; omega)) ?_)
          refine sx rfl (stp_move (v := I ((i : Int) + 1)) rfl ?_)
          refine sx_nil ?_
          have st60 := st41.f3
          have st61 := st60.f3
          have st62 := st61.f3
          have st63 := st62.d3
          exact ⟨_, es.length - (i + 1), (by omega), rfl, i + 1, (by omega), (by omega), (prioOk_step (by omega) hPr (fun _ h1 h2 h3 => by omega)), (by exact Nat.le_trans (entN_le _ _ _) (List.length_take_le _ _)), rfl, hs32_2, hs32_3, hs32_4, hs32_7, hs32_8, (Eq.trans (show _ = I ((entN r.id (k : Int) (es.take i) : Nat) : Int) from hs32_9) (congrArg I (by rw [entN_f (by omega) (fun hz => by have hz1 := hz.1; have hz2 := hz.2; omega)]))), hs32_13, hs32_14, hs32_15, hs32_20, hs32_21, rfl, st63⟩
    · skip
      have h33p := of_decide_eq_false h33
      refine wp_exit ?_
      refine wp_seq ?_
      refine sx_region ?_
      refine sx rfl (stp_fieldAddr fa_Task_0 hs32_8 ?_)
      have hk64 := hc19
      obtain ⟨he64, rfl, hok64⟩ := hk64
      have he64 : _ = [I (r.tasks[k]'hif4d94).state, I (r.tasks[k]'hif4d94).need, I (r.tasks[k]'hif4d94).try_, I (r.tasks[k]'hif4d94).until_] := he64
      subst he64
      refine sx rfl (stp_load_bx ld_int rfl rfl (st31.get 0 rfl) (i := 0) rfl rfl ?_)
      refine sx rfl (stp_eql rfl rfl ?_)
      refine sx rfl (stp_move (v := .bool (decide ((r.tasks[k]'hif4d94).state = 2))) rfl ?_)
      rcases bd (decide ((r.tasks[k]'hif4d94).state = 2)) with h65 | h65
      · skip
        have h65p := of_decide_eq_false h65
        iterate 2 refine sx_off (j := 3) (dd := 54) rfl rfl (by decide) (yl_off (e := decide ((r.tasks[k]'hif4d94).state = 2)) rfl h65) ?_
        refine sx rfl (stp_pick_f (v := .bool false) ((rfl : _ = (.bool (decide ((r.tasks[k]'hif4d94).state = 2)) : Value)).trans (congrArg Value.bool h65)) rfl ?_)
        refine sx rfl (stp_move (v := .bool false) rfl ?_)
        refine sx_on (j := 7) (dd := 58) rfl rfl (by decide) (yl_on (e := false) rfl rfl) (stp_fieldAddr fa_Task_0 hs32_8 ?_)
        refine sx_on (j := 7) (dd := 58) rfl rfl (by decide) (yl_on (e := false) rfl rfl) (stp_load_bx ld_int rfl rfl (st31.get 0 rfl) (i := 0) rfl rfl ?_)
        refine sx_on (j := 7) (dd := 58) rfl rfl (by decide) (yl_on (e := false) rfl rfl) (stp_eql rfl rfl ?_)
        refine sx_on (j := 7) (dd := 58) rfl rfl (by decide) (yl_on (e := false) rfl rfl) (stp_move (v := .bool (decide ((r.tasks[k]'hif4d94).state = 3))) rfl ?_)
        rcases bd (decide ((r.tasks[k]'hif4d94).state = 3)) with h66 | h66
        · skip
          have h66p := of_decide_eq_false h66
          iterate 13 refine sx_off (j := 11) (dd := 62) rfl rfl (by decide) (yl_off (e := decide ((r.tasks[k]'hif4d94).state = 3)) rfl h66) ?_
          refine sx_on (j := 7) (dd := 58) rfl rfl (by decide) (yl_on (e := false) rfl rfl) (stp_pick_f (v := .bool false) ((rfl : _ = (.bool (decide ((r.tasks[k]'hif4d94).state = 3)) : Value)).trans (congrArg Value.bool h66)) rfl ?_)
          refine sx rfl (stp_pick_f (v := .bool false) rfl rfl ?_)
          refine sx_nil ?_
          refine sx_f rfl rfl ?_
          refine wp_skip ?_
          refine sx_region ?_
          refine sx rfl (stp_add hs32_15 rfl (by (simp only [I64] at *; omega)) ?_)
          refine sx rfl (stp_move (v := I ((k : Int) + 1)) rfl ?_)
          refine sx_nil ?_
          have st67 := st31.f2
          have st68 := st67.f2
          have st69 := st68.d2
          exact ⟨_, r.tasks.length - (k + 1), (by omega), rfl, k + 1, (by omega), (runEnt_step (by omega) hPr (fun _ => by omega) hT), rfl, hs32_2, hs32_3, hs32_4, hs32_13, hs32_14, rfl, st69⟩
        · skip
          have h66p := of_decide_eq_true h66
          refine sx_on (j := 11) (dd := 62) rfl rfl (by decide) (yl_on (e := decide ((r.tasks[k]'hif4d94).state = 3)) rfl h66) (stp_fieldAddr fa_Task_3 hs32_8 ?_)
          refine sx_on (j := 11) (dd := 62) rfl rfl (by decide) (yl_on (e := decide ((r.tasks[k]'hif4d94).state = 3)) rfl h66) (stp_load_bx ld_int rfl rfl (st31.get 0 rfl) (i := 3) rfl rfl ?_)
          refine sx_on (j := 11) (dd := 62) rfl rfl (by decide) (yl_on (e := decide ((r.tasks[k]'hif4d94).state = 3)) rfl h66) (stp_fieldAddr fa_Yard_0 hs32_3 ?_)
          have hk70 := hc
          obtain ⟨v70_0, v70_1, g70_0, g70_1, rfl, hok70, h70_0, h70_1, rfl⟩ := hk70
          refine sx_on (j := 11) (dd := 62) rfl rfl (by decide) (yl_on (e := decide ((r.tasks[k]'hif4d94).state = 3)) rfl h66) (stp_load_bx ld_int rfl rfl (st31.get 2 rfl) (i := 0) rfl rfl ?_)
          refine sx_on (j := 11) (dd := 62) rfl rfl (by decide) (yl_on (e := decide ((r.tasks[k]'hif4d94).state = 3)) rfl h66) (stp_add rfl rfl (by (simp only [I64] at *; omega)) ?_)
          refine sx_on (j := 11) (dd := 62) rfl rfl (by decide) (yl_on (e := decide ((r.tasks[k]'hif4d94).state = 3)) rfl h66) (stp_fieldAddr fa_Yard_0 hs32_3 ?_)
          refine sx_on (j := 11) (dd := 62) rfl rfl (by decide) (yl_on (e := decide ((r.tasks[k]'hif4d94).state = 3)) rfl h66) (stp_load_bx ld_int rfl rfl (st31.get 2 rfl) (i := 0) rfl rfl ?_)
          refine sx_on (j := 11) (dd := 62) rfl rfl (by decide) (yl_on (e := decide ((r.tasks[k]'hif4d94).state = 3)) rfl h66) (stp_fieldAddr fa_Run_1 hs32_4 ?_)
          refine sx_on (j := 11) (dd := 62) rfl rfl (by decide) (yl_on (e := decide ((r.tasks[k]'hif4d94).state = 3)) rfl h66) (stp_fieldAddr fa_Plan_2 rfl ?_)
          refine sx_on (j := 11) (dd := 62) rfl rfl (by decide) (yl_on (e := decide ((r.tasks[k]'hif4d94).state = 3)) rfl h66) (stp_load_bx ld_int rfl rfl (st31.get 1 rfl) (i := 3) rfl rfl ?_)
          refine sx_on (j := 11) (dd := 62) rfl rfl (by decide) (yl_on (e := decide ((r.tasks[k]'hif4d94).state = 3)) rfl h66) (stp_add rfl rfl (by (simp only [I64] at *; omega)) ?_)
          refine sx_on (j := 11) (dd := 62) rfl rfl (by decide) (yl_on (e := decide ((r.tasks[k]'hif4d94).state = 3)) rfl h66) (stp_call3 Tryz.func47 rfl rfl rfl rfl ((within_n W29 (r.tasks[k]'hif4d94).until_ (y.now + 1) (y.now + r.plan.wait)).mono ?_)); rintro _ W71 ⟨rfl, hk72⟩; refine ⟨_, rfl, ?_⟩
          have st73 := St.call st31 hk72
          refine sx_on (j := 11) (dd := 62) rfl rfl (by decide) (yl_on (e := decide ((r.tasks[k]'hif4d94).state = 3)) rfl h66) (stp_not rfl ?_)
          refine sx_on (j := 7) (dd := 58) rfl rfl (by decide) (yl_on (e := false) rfl rfl) (stp_pick_t (v := .bool (!(inB (r.tasks[k]'hif4d94).until_ (y.now + 1) (y.now + r.plan.wait)))) ((rfl : _ = (.bool (decide ((r.tasks[k]'hif4d94).state = 3)) : Value)).trans (congrArg Value.bool h66)) rfl ?_)
          refine sx rfl (stp_pick_f (v := .bool (!(inB (r.tasks[k]'hif4d94).until_ (y.now + 1) (y.now + r.plan.wait)))) rfl rfl ?_)
          refine sx_nil ?_
          refine sx_if rfl (fun h75 => ?_) (fun h75 => ?_)
          · skip
            have h75p := inB_not (bnot_t h75)
            refine wp_seq ?_
            refine sx_region ?_
            refine sx rfl (stp_assign (v := .bool false) rfl ?_)
            refine sx_nil ?_
            refine wp_ret ?_; repeat (first | refine then_ret ?_ | refine blk_ret ?_)
            refine ret1 Tryz.results99 rfl ?_
            have hent : entN r.id (k : Int) es = entN r.id (k : Int) (es.take i) := by rw [show i = es.length by omega, List.take_length]
            exact ⟨(congrArg (fun z => Ending.returned (.bool z)) (by unfold runsOkB; rw [pB_f (fun hz => by have hz2 := (hz k (by omega)).2 (by omega); omega)])), st73.bare⟩
          · skip
            have h75p := inB_iff'.1 (bnot_f h75)
            refine wp_skip ?_
            refine sx_region ?_
            refine sx rfl (stp_add hs32_15 rfl (by (simp only [I64] at *; omega)) ?_)
            refine sx rfl (stp_move (v := I ((k : Int) + 1)) rfl ?_)
            refine sx_nil ?_
            have st76 := st73.f2
            have st77 := st76.f2
            have st78 := st77.d2
            exact ⟨_, r.tasks.length - (k + 1), (by omega), rfl, k + 1, (by omega), (runEnt_step (by omega) hPr (fun _ => by omega) hT), rfl, hs32_2, hs32_3, hs32_4, hs32_13, hs32_14, rfl, st78⟩
      · skip
        have h65p := of_decide_eq_true h65
        refine sx_on (j := 3) (dd := 54) rfl rfl (by decide) (yl_on (e := decide ((r.tasks[k]'hif4d94).state = 2)) rfl h65) (stp_move (v := I ((entN r.id (k : Int) (es.take i) : Nat) : Int)) hs32_9 ?_)
        refine sx_on (j := 3) (dd := 54) rfl rfl (by decide) (yl_on (e := decide ((r.tasks[k]'hif4d94).state = 2)) rfl h65) (stp_neq rfl rfl ?_)
        refine sx rfl (stp_pick_t (v := .bool (!decide (((entN r.id (k : Int) (es.take i) : Nat) : Int) = 1))) ((rfl : _ = (.bool (decide ((r.tasks[k]'hif4d94).state = 2)) : Value)).trans (congrArg Value.bool h65)) rfl ?_)
        refine sx rfl (stp_move (v := .bool (!decide (((entN r.id (k : Int) (es.take i) : Nat) : Int) = 1))) rfl ?_)
        rcases bd (!decide (((entN r.id (k : Int) (es.take i) : Nat) : Int) = 1)) with h79 | h79
        · skip
          have h79p := of_decide_eq_true (bnot_f h79)
          refine sx_on (j := 7) (dd := 58) rfl rfl (by decide) (yl_on (e := !decide (((entN r.id (k : Int) (es.take i) : Nat) : Int) = 1)) rfl h79) (stp_fieldAddr fa_Task_0 hs32_8 ?_)
          refine sx_on (j := 7) (dd := 58) rfl rfl (by decide) (yl_on (e := !decide (((entN r.id (k : Int) (es.take i) : Nat) : Int) = 1)) rfl h79) (stp_load_bx ld_int rfl rfl (st31.get 0 rfl) (i := 0) rfl rfl ?_)
          refine sx_on (j := 7) (dd := 58) rfl rfl (by decide) (yl_on (e := !decide (((entN r.id (k : Int) (es.take i) : Nat) : Int) = 1)) rfl h79) (stp_eql rfl rfl ?_)
          refine sx_on (j := 7) (dd := 58) rfl rfl (by decide) (yl_on (e := !decide (((entN r.id (k : Int) (es.take i) : Nat) : Int) = 1)) rfl h79) (stp_move (v := .bool (decide ((r.tasks[k]'hif4d94).state = 3))) rfl ?_)
          rcases bd (decide ((r.tasks[k]'hif4d94).state = 3)) with h80 | h80
          · skip
            have h80p := of_decide_eq_false h80
            iterate 13 refine sx_off (j := 11) (dd := 62) rfl rfl (by decide) (yl_off (e := decide ((r.tasks[k]'hif4d94).state = 3)) rfl h80) ?_
            refine sx_on (j := 7) (dd := 58) rfl rfl (by decide) (yl_on (e := !decide (((entN r.id (k : Int) (es.take i) : Nat) : Int) = 1)) rfl h79) (stp_pick_f (v := .bool false) ((rfl : _ = (.bool (decide ((r.tasks[k]'hif4d94).state = 3)) : Value)).trans (congrArg Value.bool h80)) rfl ?_)
            refine sx rfl (stp_pick_f (v := .bool false) ((rfl : _ = (.bool (!decide (((entN r.id (k : Int) (es.take i) : Nat) : Int) = 1)) : Value)).trans (congrArg Value.bool h79)) rfl ?_)
            refine sx_nil ?_
            refine sx_f rfl rfl ?_
            refine wp_skip ?_
            refine sx_region ?_
            refine sx rfl (stp_add hs32_15 rfl (by (simp only [I64] at *; omega)) ?_)
            refine sx rfl (stp_move (v := I ((k : Int) + 1)) rfl ?_)
            refine sx_nil ?_
            have st81 := st31.f2
            have st82 := st81.f2
            have st83 := st82.d2
            exact ⟨_, r.tasks.length - (k + 1), (by omega), rfl, k + 1, (by omega), (runEnt_step (by omega) hPr (fun _ => by omega) hT), rfl, hs32_2, hs32_3, hs32_4, hs32_13, hs32_14, rfl, st83⟩
          · skip
            have h80p := of_decide_eq_true h80
            refine sx_on (j := 11) (dd := 62) rfl rfl (by decide) (yl_on (e := decide ((r.tasks[k]'hif4d94).state = 3)) rfl h80) (stp_fieldAddr fa_Task_3 hs32_8 ?_)
            refine sx_on (j := 11) (dd := 62) rfl rfl (by decide) (yl_on (e := decide ((r.tasks[k]'hif4d94).state = 3)) rfl h80) (stp_load_bx ld_int rfl rfl (st31.get 0 rfl) (i := 3) rfl rfl ?_)
            refine sx_on (j := 11) (dd := 62) rfl rfl (by decide) (yl_on (e := decide ((r.tasks[k]'hif4d94).state = 3)) rfl h80) (stp_fieldAddr fa_Yard_0 hs32_3 ?_)
            have hk84 := hc
            obtain ⟨v84_0, v84_1, g84_0, g84_1, rfl, hok84, h84_0, h84_1, rfl⟩ := hk84
            refine sx_on (j := 11) (dd := 62) rfl rfl (by decide) (yl_on (e := decide ((r.tasks[k]'hif4d94).state = 3)) rfl h80) (stp_load_bx ld_int rfl rfl (st31.get 2 rfl) (i := 0) rfl rfl ?_)
            refine sx_on (j := 11) (dd := 62) rfl rfl (by decide) (yl_on (e := decide ((r.tasks[k]'hif4d94).state = 3)) rfl h80) (stp_add rfl rfl (by (simp only [I64] at *; omega)) ?_)
            refine sx_on (j := 11) (dd := 62) rfl rfl (by decide) (yl_on (e := decide ((r.tasks[k]'hif4d94).state = 3)) rfl h80) (stp_fieldAddr fa_Yard_0 hs32_3 ?_)
            refine sx_on (j := 11) (dd := 62) rfl rfl (by decide) (yl_on (e := decide ((r.tasks[k]'hif4d94).state = 3)) rfl h80) (stp_load_bx ld_int rfl rfl (st31.get 2 rfl) (i := 0) rfl rfl ?_)
            refine sx_on (j := 11) (dd := 62) rfl rfl (by decide) (yl_on (e := decide ((r.tasks[k]'hif4d94).state = 3)) rfl h80) (stp_fieldAddr fa_Run_1 hs32_4 ?_)
            refine sx_on (j := 11) (dd := 62) rfl rfl (by decide) (yl_on (e := decide ((r.tasks[k]'hif4d94).state = 3)) rfl h80) (stp_fieldAddr fa_Plan_2 rfl ?_)
            refine sx_on (j := 11) (dd := 62) rfl rfl (by decide) (yl_on (e := decide ((r.tasks[k]'hif4d94).state = 3)) rfl h80) (stp_load_bx ld_int rfl rfl (st31.get 1 rfl) (i := 3) rfl rfl ?_)
            refine sx_on (j := 11) (dd := 62) rfl rfl (by decide) (yl_on (e := decide ((r.tasks[k]'hif4d94).state = 3)) rfl h80) (stp_add rfl rfl (by (simp only [I64] at *; omega)) ?_)
            refine sx_on (j := 11) (dd := 62) rfl rfl (by decide) (yl_on (e := decide ((r.tasks[k]'hif4d94).state = 3)) rfl h80) (stp_call3 Tryz.func47 rfl rfl rfl rfl ((within_n W29 (r.tasks[k]'hif4d94).until_ (y.now + 1) (y.now + r.plan.wait)).mono ?_)); rintro _ W85 ⟨rfl, hk86⟩; refine ⟨_, rfl, ?_⟩
            have st87 := St.call st31 hk86
            refine sx_on (j := 11) (dd := 62) rfl rfl (by decide) (yl_on (e := decide ((r.tasks[k]'hif4d94).state = 3)) rfl h80) (stp_not rfl ?_)
            refine sx_on (j := 7) (dd := 58) rfl rfl (by decide) (yl_on (e := !decide (((entN r.id (k : Int) (es.take i) : Nat) : Int) = 1)) rfl h79) (stp_pick_t (v := .bool (!(inB (r.tasks[k]'hif4d94).until_ (y.now + 1) (y.now + r.plan.wait)))) ((rfl : _ = (.bool (decide ((r.tasks[k]'hif4d94).state = 3)) : Value)).trans (congrArg Value.bool h80)) rfl ?_)
            refine sx rfl (stp_pick_f (v := .bool (!(inB (r.tasks[k]'hif4d94).until_ (y.now + 1) (y.now + r.plan.wait)))) ((rfl : _ = (.bool (!decide (((entN r.id (k : Int) (es.take i) : Nat) : Int) = 1)) : Value)).trans (congrArg Value.bool h79)) rfl ?_)
            refine sx_nil ?_
            refine sx_if rfl (fun h89 => ?_) (fun h89 => ?_)
            · skip
              have h89p := inB_not (bnot_t h89)
              refine wp_seq ?_
              refine sx_region ?_
              refine sx rfl (stp_assign (v := .bool false) rfl ?_)
              refine sx_nil ?_
              refine wp_ret ?_; repeat (first | refine then_ret ?_ | refine blk_ret ?_)
              refine ret1 Tryz.results99 rfl ?_
              have hent : entN r.id (k : Int) es = entN r.id (k : Int) (es.take i) := by rw [show i = es.length by omega, List.take_length]
              exact ⟨(congrArg (fun z => Ending.returned (.bool z)) (by unfold runsOkB; rw [pB_f (fun hz => by have hz2 := (hz k (by omega)).2 (by omega); omega)])), st87.bare⟩
            · skip
              have h89p := inB_iff'.1 (bnot_f h89)
              refine wp_skip ?_
              refine sx_region ?_
              refine sx rfl (stp_add hs32_15 rfl (by (simp only [I64] at *; omega)) ?_)
              refine sx rfl (stp_move (v := I ((k : Int) + 1)) rfl ?_)
              refine sx_nil ?_
              have st90 := st87.f2
              have st91 := st90.f2
              have st92 := st91.d2
              exact ⟨_, r.tasks.length - (k + 1), (by omega), rfl, k + 1, (by omega), (runEnt_step (by omega) hPr (fun _ => by omega) hT), rfl, hs32_2, hs32_3, hs32_4, hs32_13, hs32_14, rfl, st92⟩
        · skip
          have h79p := of_decide_eq_false (bnot_t h79)
          iterate 4 refine sx_off (j := 7) (dd := 58) rfl rfl (by decide) (yl_off (e := !decide (((entN r.id (k : Int) (es.take i) : Nat) : Int) = 1)) rfl h79) ?_
          iterate 13 refine sx_off rfl rfl (by decide) (yl_und rfl) ?_
          refine sx_off (j := 7) (dd := 58) rfl rfl (by decide) (yl_off (e := !decide (((entN r.id (k : Int) (es.take i) : Nat) : Int) = 1)) rfl h79) ?_
          refine sx rfl (stp_pick_t (v := .bool true) ((rfl : _ = (.bool (!decide (((entN r.id (k : Int) (es.take i) : Nat) : Int) = 1)) : Value)).trans (congrArg Value.bool h79)) rfl ?_)
          refine sx_nil ?_
          refine sx_t rfl rfl ?_
          refine wp_seq ?_
          refine sx_region ?_
          refine sx rfl (stp_assign (v := .bool false) rfl ?_)
          refine sx_nil ?_
          refine wp_ret ?_; repeat (first | refine then_ret ?_ | refine blk_ret ?_)
          refine ret1 Tryz.results99 rfl ?_
          have hent : entN r.id (k : Int) es = entN r.id (k : Int) (es.take i) := by rw [show i = es.length by omega, List.take_length]
          exact ⟨(congrArg (fun z => Ending.returned (.bool z)) (by unfold runsOkB; rw [pB_f (fun hz => by have hz2 := (hz k (by omega)).2 (by omega); omega)])), st31.bare⟩
  · skip
    have h18p := of_decide_eq_false h18
    refine wp_exit ?_
    refine wp_seq ?_
    refine sx_region ?_
    refine sx rfl (stp_assign (v := .bool true) rfl ?_)
    refine sx_nil ?_
    refine wp_ret ?_; repeat (first | refine then_ret ?_ | refine blk_ret ?_)
    refine ret1 Tryz.results99 rfl ?_
    exact ⟨(congrArg (fun z => Ending.returned (.bool z)) (by unfold runsOkB; rw [pB_t (fun j hj => hT j (by omega))])), st16.bare⟩
set_option maxHeartbeats 2000000 in
theorem RunsOkS (w : World) {y : Yard} {cs : List Value} {fp : List Nat} (hc : Shape.C w cs y fp) {r : Run} {ds : List Value} {gp : List Nat} (hd : Shape.C w ds r gp) {v : Value} {es : List Entry} {fq : List Nat} (h : Sl w v es fq) (hn : 0 ≤ y.now ∧ y.now ≤ 999999980) (hwt : 0 ≤ r.plan.wait ∧ r.plan.wait ≤ 20) (hl : es.length ≤ 1048576) :
    Calls Tryz.prog 92 #[.agg cs.toArray, .agg ds.toArray, v] w fun e w' => e = .returned (.bool (runsOkB y.now r es)) ∧ St w w' [] := by
  have hcap : r.tasks.length ≤ 9223372036854775807 := by have h0 := hd; obtain ⟨v1, v2, f1, f2, h0, hok, h1, h2, hfp⟩ := h0; exact h2.len_le
  have hcap2 := h.len_le
  refine enter3 Tryz.func92 rfl Tryz.ntmps92 (by decide) ?_
  refine wp_seq ?_
  refine sx_region ?_
  refine sx rfl (stp_box_agg (cs := cs) rfl (St.start w) ?_); intro b1 W2 hb3 st4
  refine sx rfl (stp_box_agg (cs := ds) rfl st4 ?_); intro b6 W7 hb8 st9
  refine sx rfl (stp_assign (v := .bool false) rfl ?_)
  refine sx_nil ?_
  refine wp_seq ?_
  refine wp_seq ?_
  refine sx_region ?_
  refine sx rfl (stp_assign (v := I 0) rfl ?_)
  refine sx_nil ?_
  refine wp_block ?_
  refine sx_loop (fun (m : Nat) (f : Nat → Value) (W : World) => ∃ (k : Nat), k ≤ r.tasks.length ∧ (∀ j, j < k → runEnt y.now r es j) ∧ m = r.tasks.length - k ∧ f 2 = v ∧ f 3 = .pointer (some ⟨b1, 0, none⟩) ∧ f 4 = .pointer (some ⟨b6, 0, none⟩) ∧ f 7 = I (k : Int) ∧ St w W ([Res.bx b6 ds 123, Res.bx b1 cs 34])) (r.tasks.length - 0) ?_ ?_
  · exact ⟨0, (by omega), (fun j hj => absurd hj (Nat.not_lt_zero j)), rfl, rfl, rfl, rfl, rfl, st9⟩
  intro m11 f12 W13 hJ14
  obtain ⟨k, hk, hT, rfl, hs16_2, hs16_3, hs16_4, hs16_7, st15⟩ := hJ14
  refine wp_seq ?_
  refine wp_seq ?_
  refine sx_region ?_
  refine sx rfl (stp_move (v := I (k : Int)) hs16_7 ?_)
  refine sx rfl (stp_fieldAddr fa_Run_3 hs16_4 ?_)
  have hk17 := hd
  obtain ⟨v17_0, v17_1, g17_0, g17_1, rfl, hok17, h17_0, h17_1, rfl⟩ := hk17
  refine sx rfl (stp_load_bx ld_TaskS rfl rfl (st15.get 0 rfl) (i := 7) rfl rfl ?_)
  refine sx rfl (stp_len sl_TaskS rfl h17_1 ?_)
  refine sx rfl (stp_lss rfl rfl ?_)
  refine sx_nil ?_
  refine sx_if rfl (fun h18 => ?_) (fun h18 => ?_)
  · skip
    have h18p := of_decide_eq_true h18
    refine wp_skip ?_
    refine wp_seq ?_
    refine wp_block ?_
    refine wp_seq ?_
    refine sx_region ?_
    refine sx rfl (stp_assign (v := I 0) rfl ?_)
    refine sx_nil ?_
    refine wp_seq ?_
    refine wp_seq ?_
    refine sx_region ?_
    refine sx rfl (stp_assign (v := I 0) rfl ?_)
    refine sx_nil ?_
    refine wp_block ?_
    refine sx_loop (fun (m : Nat) (f : Nat → Value) (W : World) => ∃ (i : Nat), k < r.tasks.length ∧ i ≤ es.length ∧ prioOk r k (es.take i) ∧ entN r.id (k : Int) (es.take i) ≤ i ∧ m = es.length - i ∧ f 2 = v ∧ f 3 = .pointer (some ⟨b1, 0, none⟩) ∧ f 4 = .pointer (some ⟨b6, 0, none⟩) ∧ f 7 = I (k : Int) ∧ f 8 = I ((entN r.id (k : Int) (es.take i) : Nat) : Int) ∧ f 9 = I (i : Int) ∧ St w W ([Res.bx b6 [I r.id, I r.plan.prio, I r.plan.most, I r.plan.wait, I r.plan.tasks, v17_0, I r.state, v17_1] 123, Res.bx b1 cs 34])) (es.length - 0) ?_ ?_
    · exact ⟨0, (by omega), (by omega), (fun _ e he => by simp at he), (by simp [entN]), rfl, hs16_2, hs16_3, hs16_4, hs16_7, (Eq.trans (show _ = I 0 from rfl) (congrArg I (by simp [entN]))), rfl, st15⟩
    intro m19 f20 W21 hJ22
    obtain ⟨i, hk2, hi, hPr, hen, rfl, hs24_2, hs24_3, hs24_4, hs24_7, hs24_8, hs24_9, st23⟩ := hJ22
    refine wp_seq ?_
    refine wp_seq ?_
    refine sx_region ?_
    refine sx rfl (stp_move (v := I (i : Int)) hs24_9 ?_)
    refine sx rfl (stp_move (v := v) hs24_2 ?_)
    refine sx rfl (stp_len sl_EntryS rfl h ?_)
    refine sx rfl (stp_lss rfl rfl ?_)
    refine sx_nil ?_
    refine sx_if rfl (fun h25 => ?_) (fun h25 => ?_)
    · skip
      have h25p := of_decide_eq_true h25
      refine wp_skip ?_
      refine wp_seq ?_
      refine wp_block ?_
      refine wp_seq ?_
      have hif21f0 : i < es.length := (by omega)
      rcases bd (decide ((es[i]'hif21f0).run = r.id)) with h28 | h28
      · skip
        have h28p := of_decide_eq_false h28
        have hif21f0 : i < es.length := (by omega)
        have hq_ := idx h (i := i) hif21f0
        obtain ⟨b29, o29, cs29, f29, hp29, hr29, hc29, hm29⟩ := hq_
        have hk30 := hc29
        obtain ⟨he30, rfl, hok30⟩ := hk30
        have he30 : _ = [I (es[i]'hif21f0).prio, I (es[i]'hif21f0).seq, I (es[i]'hif21f0).run, I (es[i]'hif21f0).task] := he30
        subst he30
        refine sx_any [Pl.is (v) (Sl.yl h), Pl.is (I (i : Int)), Pl.is (.pointer (some ⟨b29, o29, none⟩)), Pl.is (.pointer (some ⟨b29, o29 + 2, none⟩)), Pl.is (I (es[i]'hif21f0).run), Pl.is (.pointer (some ⟨b6, 0 + 0, none⟩)), Pl.is (I r.id), Pl.bool false, Pl.bool false, Pl.off, Pl.off, Pl.off, Pl.off, Pl.off, Pl.off, Pl.off, Pl.bool false] mix (by rfl) st23 ⟨(fun f W hst hbl hd hf => stp_move (v := v) ((hf 2 rfl).trans hs24_2) ⟨Below.refl _ _, rfl⟩), (fun f W hst hbl hd hf => stp_move (v := I (i : Int)) ((hf 9 rfl).trans hs24_9) ⟨Below.refl _ _, rfl⟩), (fun f W hst hbl hd hf => stp_indexAddr sl_EntryS (hd 0 23 rfl rfl) hp29 (hd 1 24 rfl rfl) rfl ⟨Below.refl _ _, rfl⟩), (fun f W hst hbl hd hf => stp_fieldAddr fa_Entry_2 (hd 2 25 rfl rfl) ⟨Below.refl _ _, rfl⟩), (fun f W hst hbl hd hf => stp_load_rg ld_int rfl (hd 3 26 rfl rfl) hr29 hst.below (i := 2) rfl rfl ⟨Below.refl _ _, rfl⟩), (fun f W hst hbl hd hf => stp_fieldAddr fa_Run_0 ((hf 4 rfl).trans hs24_4) ⟨Below.refl _ _, rfl⟩), (fun f W hst hbl hd hf => stp_load_bx ld_int rfl (hd 5 28 rfl rfl) (hst.get 0 rfl) (i := 0) rfl rfl ⟨Below.refl _ _, rfl⟩), (fun f W hst hbl hd hf => stp_eql (hd 4 27 rfl rfl) (hd 6 29 rfl rfl) ⟨Below.refl _ _, congrArg Value.bool h28⟩), (fun f W hst hbl hd hf => stp_move (v := .bool false) (hd 7 30 rfl rfl) ⟨Below.refl _ _, rfl⟩), (fun f W hst hbl hd hf => rfl), (fun f W hst hbl hd hf => rfl), (fun f W hst hbl hd hf => rfl), (fun f W hst hbl hd hf => rfl), (fun f W hst hbl hd hf => rfl), (fun f W hst hbl hd hf => rfl), (fun f W hst hbl hd hf => rfl), (fun f W hst hbl hd hf => stp_pick_f (v := .bool false) (hd 8 31 rfl rfl) rfl ⟨Below.refl _ _, rfl⟩), trivial⟩ ?_
        intro f31 W32 st33 hb34 hv35 hf36
        refine sx_f (hv35 16 39 (by decide) rfl) rfl ?_
        refine wp_skip ?_
        refine sx_region ?_
        refine sx rfl (stp_move (v := I (i : Int)) ((hf36 9 rfl).trans hs24_9) ?_)
        refine sx rfl (stp_add rfl rfl (by (simp only [I64] at *; omega)) ?_)
        refine sx rfl (stp_assign (v := I ((i : Int) + 1)) rfl ?_)
        refine sx_nil ?_
        exact ⟨_, es.length - (i + 1), (by omega), rfl, i + 1, (by omega), (by omega), (prioOk_step (by omega) hPr (fun _ h1 h2 h3 => by omega)), (by exact Nat.le_trans (entN_le _ _ _) (List.length_take_le _ _)), rfl, ((hf36 2 rfl).trans hs24_2), ((hf36 3 rfl).trans hs24_3), ((hf36 4 rfl).trans hs24_4), ((hf36 7 rfl).trans hs24_7), (Eq.trans (show _ = I ((entN r.id (k : Int) (es.take i) : Nat) : Int) from ((hf36 8 rfl).trans hs24_8)) (congrArg I (by rw [entN_f (by omega) (fun hz => by have hz1 := hz.1; have hz2 := hz.2; omega)]))), rfl, st33⟩
      · skip
        have h28p := of_decide_eq_true h28
        have hif21f0 : i < es.length := (by omega)
        have hq_ := idx h (i := i) hif21f0
        obtain ⟨b37, o37, cs37, f37, hp37, hr37, hc37, hm37⟩ := hq_
        have hk38 := hc37
        obtain ⟨he38, rfl, hok38⟩ := hk38
        have he38 : _ = [I (es[i]'hif21f0).prio, I (es[i]'hif21f0).seq, I (es[i]'hif21f0).run, I (es[i]'hif21f0).task] := he38
        subst he38
        refine sx_any [Pl.is (v) (Sl.yl h), Pl.is (I (i : Int)), Pl.is (.pointer (some ⟨b37, o37, none⟩)), Pl.is (.pointer (some ⟨b37, o37 + 2, none⟩)), Pl.is (I (es[i]'hif21f0).run), Pl.is (.pointer (some ⟨b6, 0 + 0, none⟩)), Pl.is (I r.id), Pl.bool true, Pl.bool true, Pl.is (v) (Sl.yl h), Pl.is (I (i : Int)), Pl.is (.pointer (some ⟨b37, o37, none⟩)), Pl.is (.pointer (some ⟨b37, o37 + 3, none⟩)), Pl.is (I (es[i]'hif21f0).task), Pl.is (I (k : Int)), Pl.bool (decide ((es[i]'hif21f0).task = (k : Int))), Pl.bool (decide ((es[i]'hif21f0).task = (k : Int)))] mix (by rfl) st23 ⟨(fun f W hst hbl hd hf => stp_move (v := v) ((hf 2 rfl).trans hs24_2) ⟨Below.refl _ _, rfl⟩), (fun f W hst hbl hd hf => stp_move (v := I (i : Int)) ((hf 9 rfl).trans hs24_9) ⟨Below.refl _ _, rfl⟩), (fun f W hst hbl hd hf => stp_indexAddr sl_EntryS (hd 0 23 rfl rfl) hp37 (hd 1 24 rfl rfl) rfl ⟨Below.refl _ _, rfl⟩), (fun f W hst hbl hd hf => stp_fieldAddr fa_Entry_2 (hd 2 25 rfl rfl) ⟨Below.refl _ _, rfl⟩), (fun f W hst hbl hd hf => stp_load_rg ld_int rfl (hd 3 26 rfl rfl) hr37 hst.below (i := 2) rfl rfl ⟨Below.refl _ _, rfl⟩), (fun f W hst hbl hd hf => stp_fieldAddr fa_Run_0 ((hf 4 rfl).trans hs24_4) ⟨Below.refl _ _, rfl⟩), (fun f W hst hbl hd hf => stp_load_bx ld_int rfl (hd 5 28 rfl rfl) (hst.get 0 rfl) (i := 0) rfl rfl ⟨Below.refl _ _, rfl⟩), (fun f W hst hbl hd hf => stp_eql (hd 4 27 rfl rfl) (hd 6 29 rfl rfl) ⟨Below.refl _ _, congrArg Value.bool h28⟩), (fun f W hst hbl hd hf => stp_move (v := .bool true) (hd 7 30 rfl rfl) ⟨Below.refl _ _, rfl⟩), (fun f W hst hbl hd hf => stp_move (v := v) ((hf 2 rfl).trans hs24_2) ⟨Below.refl _ _, rfl⟩), (fun f W hst hbl hd hf => stp_move (v := I (i : Int)) ((hf 9 rfl).trans hs24_9) ⟨Below.refl _ _, rfl⟩), (fun f W hst hbl hd hf => stp_indexAddr sl_EntryS (hd 9 32 rfl rfl) hp37 (hd 10 33 rfl rfl) rfl ⟨Below.refl _ _, rfl⟩), (fun f W hst hbl hd hf => stp_fieldAddr fa_Entry_3 (hd 11 34 rfl rfl) ⟨Below.refl _ _, rfl⟩), (fun f W hst hbl hd hf => stp_load_rg ld_int rfl (hd 12 35 rfl rfl) hr37 hst.below (i := 3) rfl rfl ⟨Below.refl _ _, rfl⟩), (fun f W hst hbl hd hf => stp_move (v := I (k : Int)) ((hf 7 rfl).trans hs24_7) ⟨Below.refl _ _, rfl⟩), (fun f W hst hbl hd hf => stp_eql (hd 13 36 rfl rfl) (hd 14 37 rfl rfl) ⟨Below.refl _ _, rfl⟩), (fun f W hst hbl hd hf => stp_pick_t (v := .bool (decide ((es[i]'hif21f0).task = (k : Int)))) (hd 8 31 rfl rfl) (hd 15 38 rfl rfl) ⟨Below.refl _ _, rfl⟩), trivial⟩ ?_
        intro f39 W40 st41 hb42 hv43 hf44
        refine sx_if (hv43 16 39 (by decide) rfl) (fun h45 => ?_) (fun h45 => ?_)
        · skip
          have h45p := of_decide_eq_true h45
          refine wp_seq ?_
          refine sx_region ?_
          refine sx rfl (stp_move (v := I ((entN r.id (k : Int) (es.take i) : Nat) : Int)) ((hf44 8 rfl).trans hs24_8) ?_)
          refine sx rfl (stp_add rfl rfl (by (simp only [I64] at *; omega)) ?_)
          refine sx rfl (stp_assign (v := I (((entN r.id (k : Int) (es.take i) : Nat) : Int) + 1)) rfl ?_)
          refine sx_nil ?_
          refine wp_seq ?_
          have hif4d94 : k < r.tasks.length := (by omega)
          rcases bd (decide ((r.tasks[k]'hif4d94).state = 2)) with h48 | h48
          · skip
            have h48p := of_decide_eq_false h48
            have hif4d94 : k < r.tasks.length := (by omega)
            have hq_ := idx h17_1 (i := k) hif4d94
            obtain ⟨b49, o49, cs49, f49, hp49, hr49, hc49, hm49⟩ := hq_
            have hk50 := hc49
            obtain ⟨he50, rfl, hok50⟩ := hk50
            have he50 : _ = [I (r.tasks[k]'hif4d94).state, I (r.tasks[k]'hif4d94).need, I (r.tasks[k]'hif4d94).try_, I (r.tasks[k]'hif4d94).until_] := he50
            subst he50
            refine sx_any [Pl.is (.pointer (some ⟨b6, 0 + 7, none⟩)), Pl.is (v17_1) (Sl.yl h17_1), Pl.is (I (k : Int)), Pl.is (.pointer (some ⟨b49, o49, none⟩)), Pl.is (.pointer (some ⟨b49, o49 + 0, none⟩)), Pl.is (I (r.tasks[k]'hif4d94).state), Pl.bool false, Pl.bool false, Pl.off, Pl.off, Pl.off, Pl.off, Pl.off, Pl.off, Pl.off, Pl.off, Pl.off, Pl.bool false] mix (by rfl) st41 ⟨(fun f W hst hbl hd hf => stp_fieldAddr fa_Run_3 ((hf 4 rfl).trans ((hf44 4 rfl).trans hs24_4)) ⟨Below.refl _ _, rfl⟩), (fun f W hst hbl hd hf => stp_load_bx ld_TaskS rfl (hd 0 42 rfl rfl) (hst.get 0 rfl) (i := 7) rfl rfl ⟨Below.refl _ _, rfl⟩), (fun f W hst hbl hd hf => stp_move (v := I (k : Int)) ((hf 7 rfl).trans ((hf44 7 rfl).trans hs24_7)) ⟨Below.refl _ _, rfl⟩), (fun f W hst hbl hd hf => stp_indexAddr sl_TaskS (hd 1 43 rfl rfl) hp49 (hd 2 44 rfl rfl) rfl ⟨Below.refl _ _, rfl⟩), (fun f W hst hbl hd hf => stp_fieldAddr fa_Task_0 (hd 3 45 rfl rfl) ⟨Below.refl _ _, rfl⟩), (fun f W hst hbl hd hf => stp_load_rg ld_int rfl (hd 4 46 rfl rfl) hr49 hst.below (i := 0) rfl rfl ⟨Below.refl _ _, rfl⟩), (fun f W hst hbl hd hf => stp_eql (hd 5 47 rfl rfl) rfl ⟨Below.refl _ _, congrArg Value.bool h48⟩), (fun f W hst hbl hd hf => stp_move (v := .bool false) (hd 6 48 rfl rfl) ⟨Below.refl _ _, rfl⟩), (fun f W hst hbl hd hf => rfl), (fun f W hst hbl hd hf => rfl), (fun f W hst hbl hd hf => rfl), (fun f W hst hbl hd hf => rfl), (fun f W hst hbl hd hf => rfl), (fun f W hst hbl hd hf => rfl), (fun f W hst hbl hd hf => rfl), (fun f W hst hbl hd hf => rfl), (fun f W hst hbl hd hf => rfl), (fun f W hst hbl hd hf => stp_pick_f (v := .bool false) (hd 7 49 rfl rfl) rfl ⟨Below.refl _ _, rfl⟩), trivial⟩ ?_
            intro f51 W52 st53 hb54 hv55 hf56
            refine sx_f (hv55 17 59 (by decide) rfl) rfl ?_
            refine wp_skip ?_
            refine sx_region ?_
            refine sx rfl (stp_move (v := I (i : Int)) ((hf56 9 rfl).trans ((hf44 9 rfl).trans hs24_9)) ?_)
            refine sx rfl (stp_add rfl rfl (by (simp only [I64] at *; omega)) ?_)
            refine sx rfl (stp_assign (v := I ((i : Int) + 1)) rfl ?_)
            refine sx_nil ?_
            exact ⟨_, es.length - (i + 1), (by omega), rfl, i + 1, (by omega), (by omega), (prioOk_step (by omega) hPr (fun _ h1 h2 h3 => by omega)), (by exact Nat.le_trans (entN_le _ _ _) (List.length_take_le _ _)), rfl, ((hf56 2 rfl).trans ((hf44 2 rfl).trans hs24_2)), ((hf56 3 rfl).trans ((hf44 3 rfl).trans hs24_3)), ((hf56 4 rfl).trans ((hf44 4 rfl).trans hs24_4)), ((hf56 7 rfl).trans ((hf44 7 rfl).trans hs24_7)), (Eq.trans (show _ = I (((entN r.id (k : Int) (es.take i) : Nat) : Int) + 1) from ((hf56 8 rfl).trans (show _ = I (((entN r.id (k : Int) (es.take i) : Nat) : Int) + 1) from rfl))) (congrArg I (by rw [entN_t (by omega) ⟨by assumption, by assumption⟩]; omega))), rfl, st53⟩
          · skip
            have h48p := of_decide_eq_true h48
            have hif4d94 : k < r.tasks.length := (by omega)
            have hq_ := idx h17_1 (i := k) hif4d94
            obtain ⟨b57, o57, cs57, f57, hp57, hr57, hc57, hm57⟩ := hq_
            have hk58 := hc57
            obtain ⟨he58, rfl, hok58⟩ := hk58
            have he58 : _ = [I (r.tasks[k]'hif4d94).state, I (r.tasks[k]'hif4d94).need, I (r.tasks[k]'hif4d94).try_, I (r.tasks[k]'hif4d94).until_] := he58
            subst he58
            refine sx_any [Pl.is (.pointer (some ⟨b6, 0 + 7, none⟩)), Pl.is (v17_1) (Sl.yl h17_1), Pl.is (I (k : Int)), Pl.is (.pointer (some ⟨b57, o57, none⟩)), Pl.is (.pointer (some ⟨b57, o57 + 0, none⟩)), Pl.is (I (r.tasks[k]'hif4d94).state), Pl.bool true, Pl.bool true, Pl.is (v) (Sl.yl h), Pl.is (I (i : Int)), Pl.is (.pointer (some ⟨b37, o37, none⟩)), Pl.is (.pointer (some ⟨b37, o37 + 0, none⟩)), Pl.is (I (es[i]'hif21f0).prio), Pl.is (.pointer (some ⟨b6, 0 + 1, none⟩)), Pl.is (.pointer (some ⟨b6, 0 + 1 + 0, none⟩)), Pl.is (I r.plan.prio), Pl.bool (!decide ((es[i]'hif21f0).prio = r.plan.prio)), Pl.bool (!decide ((es[i]'hif21f0).prio = r.plan.prio))] mix (by rfl) st41 ⟨(fun f W hst hbl hd hf => stp_fieldAddr fa_Run_3 ((hf 4 rfl).trans ((hf44 4 rfl).trans hs24_4)) ⟨Below.refl _ _, rfl⟩), (fun f W hst hbl hd hf => stp_load_bx ld_TaskS rfl (hd 0 42 rfl rfl) (hst.get 0 rfl) (i := 7) rfl rfl ⟨Below.refl _ _, rfl⟩), (fun f W hst hbl hd hf => stp_move (v := I (k : Int)) ((hf 7 rfl).trans ((hf44 7 rfl).trans hs24_7)) ⟨Below.refl _ _, rfl⟩), (fun f W hst hbl hd hf => stp_indexAddr sl_TaskS (hd 1 43 rfl rfl) hp57 (hd 2 44 rfl rfl) rfl ⟨Below.refl _ _, rfl⟩), (fun f W hst hbl hd hf => stp_fieldAddr fa_Task_0 (hd 3 45 rfl rfl) ⟨Below.refl _ _, rfl⟩), (fun f W hst hbl hd hf => stp_load_rg ld_int rfl (hd 4 46 rfl rfl) hr57 hst.below (i := 0) rfl rfl ⟨Below.refl _ _, rfl⟩), (fun f W hst hbl hd hf => stp_eql (hd 5 47 rfl rfl) rfl ⟨Below.refl _ _, congrArg Value.bool h48⟩), (fun f W hst hbl hd hf => stp_move (v := .bool true) (hd 6 48 rfl rfl) ⟨Below.refl _ _, rfl⟩), (fun f W hst hbl hd hf => stp_move (v := v) ((hf 2 rfl).trans ((hf44 2 rfl).trans hs24_2)) ⟨Below.refl _ _, rfl⟩), (fun f W hst hbl hd hf => stp_move (v := I (i : Int)) ((hf 9 rfl).trans ((hf44 9 rfl).trans hs24_9)) ⟨Below.refl _ _, rfl⟩), (fun f W hst hbl hd hf => stp_indexAddr sl_EntryS (hd 8 50 rfl rfl) hp37 (hd 9 51 rfl rfl) rfl ⟨Below.refl _ _, rfl⟩), (fun f W hst hbl hd hf => stp_fieldAddr fa_Entry_0 (hd 10 52 rfl rfl) ⟨Below.refl _ _, rfl⟩), (fun f W hst hbl hd hf => stp_load_rg ld_int rfl (hd 11 53 rfl rfl) hr37 hst.below (i := 0) rfl rfl ⟨Below.refl _ _, rfl⟩), (fun f W hst hbl hd hf => stp_fieldAddr fa_Run_1 ((hf 4 rfl).trans ((hf44 4 rfl).trans hs24_4)) ⟨Below.refl _ _, rfl⟩), (fun f W hst hbl hd hf => stp_fieldAddr fa_Plan_0 (hd 13 55 rfl rfl) ⟨Below.refl _ _, rfl⟩), (fun f W hst hbl hd hf => stp_load_bx ld_int rfl (hd 14 56 rfl rfl) (hst.get 0 rfl) (i := 1) rfl rfl ⟨Below.refl _ _, rfl⟩), (fun f W hst hbl hd hf => stp_neq (hd 12 54 rfl rfl) (hd 15 57 rfl rfl) ⟨Below.refl _ _, rfl⟩), (fun f W hst hbl hd hf => stp_pick_t (v := .bool (!decide ((es[i]'hif21f0).prio = r.plan.prio))) (hd 7 49 rfl rfl) (hd 16 58 rfl rfl) ⟨Below.refl _ _, rfl⟩), trivial⟩ ?_
            intro f59 W60 st61 hb62 hv63 hf64
            refine sx_if (hv63 17 59 (by decide) rfl) (fun h65 => ?_) (fun h65 => ?_)
            · skip
              have h65p := of_decide_eq_false (bnot_t h65)
              refine wp_seq ?_
              refine sx_region ?_
              refine sx rfl (stp_assign (v := .bool false) rfl ?_)
              refine sx_nil ?_
              refine wp_ret ?_; repeat (first | refine then_ret ?_ | refine blk_ret ?_)
              refine ret1 Tryz.results92 rfl ?_
              exact ⟨(congrArg (fun z => Ending.returned (.bool z)) (by unfold runsOkB; rw [pB_f (fun hz => prioOk_bad (i := i) (k := k) (by omega) (by omega) (by assumption) (by assumption) (by assumption) (by assumption) (hz k (by omega)).1)])), st61.bare⟩
            · skip
              have h65p := of_decide_eq_true (bnot_f h65)
              refine wp_skip ?_
              refine sx_region ?_
              refine sx rfl (stp_move (v := I (i : Int)) ((hf64 9 rfl).trans ((hf44 9 rfl).trans hs24_9)) ?_)
              refine sx rfl (stp_add rfl rfl (by (simp only [I64] at *; omega)) ?_)
              refine sx rfl (stp_assign (v := I ((i : Int) + 1)) rfl ?_)
              refine sx_nil ?_
              exact ⟨_, es.length - (i + 1), (by omega), rfl, i + 1, (by omega), (by omega), (prioOk_step (by omega) hPr (fun _ h1 h2 h3 => by omega)), (by exact Nat.le_trans (entN_le _ _ _) (List.length_take_le _ _)), rfl, ((hf64 2 rfl).trans ((hf44 2 rfl).trans hs24_2)), ((hf64 3 rfl).trans ((hf44 3 rfl).trans hs24_3)), ((hf64 4 rfl).trans ((hf44 4 rfl).trans hs24_4)), ((hf64 7 rfl).trans ((hf44 7 rfl).trans hs24_7)), (Eq.trans (show _ = I (((entN r.id (k : Int) (es.take i) : Nat) : Int) + 1) from ((hf64 8 rfl).trans (show _ = I (((entN r.id (k : Int) (es.take i) : Nat) : Int) + 1) from rfl))) (congrArg I (by rw [entN_t (by omega) ⟨by assumption, by assumption⟩]; omega))), rfl, st61⟩
        · skip
          have h45p := of_decide_eq_false h45
          refine wp_skip ?_
          refine sx_region ?_
          refine sx rfl (stp_move (v := I (i : Int)) ((hf44 9 rfl).trans hs24_9) ?_)
          refine sx rfl (stp_add rfl rfl (by (simp only [I64] at *; omega)) ?_)
          refine sx rfl (stp_assign (v := I ((i : Int) + 1)) rfl ?_)
          refine sx_nil ?_
          exact ⟨_, es.length - (i + 1), (by omega), rfl, i + 1, (by omega), (by omega), (prioOk_step (by omega) hPr (fun _ h1 h2 h3 => by omega)), (by exact Nat.le_trans (entN_le _ _ _) (List.length_take_le _ _)), rfl, ((hf44 2 rfl).trans hs24_2), ((hf44 3 rfl).trans hs24_3), ((hf44 4 rfl).trans hs24_4), ((hf44 7 rfl).trans hs24_7), (Eq.trans (show _ = I ((entN r.id (k : Int) (es.take i) : Nat) : Int) from ((hf44 8 rfl).trans hs24_8)) (congrArg I (by rw [entN_f (by omega) (fun hz => by have hz1 := hz.1; have hz2 := hz.2; omega)]))), rfl, st41⟩
    · skip
      have h25p := of_decide_eq_false h25
      refine wp_exit ?_
      refine wp_seq ?_
      have hif4d94 : k < r.tasks.length := (by omega)
      rcases bd (decide ((r.tasks[k]'hif4d94).state = 2)) with h68 | h68
      · skip
        have h68p := of_decide_eq_false h68
        have hif4d94 : k < r.tasks.length := (by omega)
        rcases bd (decide ((r.tasks[k]'hif4d94).state = 3)) with h71 | h71
        · skip
          have h71p := of_decide_eq_false h71
          have hif4d94 : k < r.tasks.length := (by omega)
          have hq_ := idx h17_1 (i := k) hif4d94
          obtain ⟨b72, o72, cs72, f72, hp72, hr72, hc72, hm72⟩ := hq_
          have hk73 := hc72
          obtain ⟨he73, rfl, hok73⟩ := hk73
          have he73 : _ = [I (r.tasks[k]'hif4d94).state, I (r.tasks[k]'hif4d94).need, I (r.tasks[k]'hif4d94).try_, I (r.tasks[k]'hif4d94).until_] := he73
          subst he73
          refine sx_any [Pl.is (.pointer (some ⟨b6, 0 + 7, none⟩)), Pl.is (v17_1) (Sl.yl h17_1), Pl.is (I (k : Int)), Pl.is (.pointer (some ⟨b72, o72, none⟩)), Pl.is (.pointer (some ⟨b72, o72 + 0, none⟩)), Pl.is (I (r.tasks[k]'hif4d94).state), Pl.bool false, Pl.bool false, Pl.off, Pl.off, Pl.bool false, Pl.bool false, Pl.is (.pointer (some ⟨b6, 0 + 7, none⟩)), Pl.is (v17_1) (Sl.yl h17_1), Pl.is (I (k : Int)), Pl.is (.pointer (some ⟨b72, o72, none⟩)), Pl.is (.pointer (some ⟨b72, o72 + 0, none⟩)), Pl.is (I (r.tasks[k]'hif4d94).state), Pl.bool false, Pl.bool false, Pl.off, Pl.off, Pl.off, Pl.off, Pl.off, Pl.off, Pl.off, Pl.off, Pl.off, Pl.off, Pl.off, Pl.off, Pl.off, Pl.off, Pl.off, Pl.off, Pl.off, Pl.bool false, Pl.bool false] mix (by rfl) st23 ⟨(fun f W hst hbl hd hf => stp_fieldAddr fa_Run_3 ((hf 4 rfl).trans hs24_4) ⟨Below.refl _ _, rfl⟩), (fun f W hst hbl hd hf => stp_load_bx ld_TaskS rfl (hd 0 60 rfl rfl) (hst.get 0 rfl) (i := 7) rfl rfl ⟨Below.refl _ _, rfl⟩), (fun f W hst hbl hd hf => stp_move (v := I (k : Int)) ((hf 7 rfl).trans hs24_7) ⟨Below.refl _ _, rfl⟩), (fun f W hst hbl hd hf => stp_indexAddr sl_TaskS (hd 1 61 rfl rfl) hp72 (hd 2 62 rfl rfl) rfl ⟨Below.refl _ _, rfl⟩), (fun f W hst hbl hd hf => stp_fieldAddr fa_Task_0 (hd 3 63 rfl rfl) ⟨Below.refl _ _, rfl⟩), (fun f W hst hbl hd hf => stp_load_rg ld_int rfl (hd 4 64 rfl rfl) hr72 hst.below (i := 0) rfl rfl ⟨Below.refl _ _, rfl⟩), (fun f W hst hbl hd hf => stp_eql (hd 5 65 rfl rfl) rfl ⟨Below.refl _ _, congrArg Value.bool h68⟩), (fun f W hst hbl hd hf => stp_move (v := .bool false) (hd 6 66 rfl rfl) ⟨Below.refl _ _, rfl⟩), (fun f W hst hbl hd hf => rfl), (fun f W hst hbl hd hf => rfl), (fun f W hst hbl hd hf => stp_pick_f (v := .bool false) (hd 7 67 rfl rfl) rfl ⟨Below.refl _ _, rfl⟩), (fun f W hst hbl hd hf => stp_move (v := .bool false) (hd 10 70 rfl rfl) ⟨Below.refl _ _, rfl⟩), (fun f W hst hbl hd hf => stp_fieldAddr fa_Run_3 ((hf 4 rfl).trans hs24_4) ⟨Below.refl _ _, rfl⟩), (fun f W hst hbl hd hf => stp_load_bx ld_TaskS rfl (hd 12 72 rfl rfl) (hst.get 0 rfl) (i := 7) rfl rfl ⟨Below.refl _ _, rfl⟩), (fun f W hst hbl hd hf => stp_move (v := I (k : Int)) ((hf 7 rfl).trans hs24_7) ⟨Below.refl _ _, rfl⟩), (fun f W hst hbl hd hf => stp_indexAddr sl_TaskS (hd 13 73 rfl rfl) hp72 (hd 14 74 rfl rfl) rfl ⟨Below.refl _ _, rfl⟩), (fun f W hst hbl hd hf => stp_fieldAddr fa_Task_0 (hd 15 75 rfl rfl) ⟨Below.refl _ _, rfl⟩), (fun f W hst hbl hd hf => stp_load_rg ld_int rfl (hd 16 76 rfl rfl) hr72 hst.below (i := 0) rfl rfl ⟨Below.refl _ _, rfl⟩), (fun f W hst hbl hd hf => stp_eql (hd 17 77 rfl rfl) rfl ⟨Below.refl _ _, congrArg Value.bool h71⟩), (fun f W hst hbl hd hf => stp_move (v := .bool false) (hd 18 78 rfl rfl) ⟨Below.refl _ _, rfl⟩), (fun f W hst hbl hd hf => rfl), (fun f W hst hbl hd hf => rfl), (fun f W hst hbl hd hf => rfl), (fun f W hst hbl hd hf => rfl), (fun f W hst hbl hd hf => rfl), (fun f W hst hbl hd hf => rfl), (fun f W hst hbl hd hf => rfl), (fun f W hst hbl hd hf => rfl), (fun f W hst hbl hd hf => rfl), (fun f W hst hbl hd hf => rfl), (fun f W hst hbl hd hf => rfl), (fun f W hst hbl hd hf => rfl), (fun f W hst hbl hd hf => rfl), (fun f W hst hbl hd hf => rfl), (fun f W hst hbl hd hf => rfl), (fun f W hst hbl hd hf => rfl), (fun f W hst hbl hd hf => rfl), (fun f W hst hbl hd hf => stp_pick_f (v := .bool false) (hd 19 79 rfl rfl) rfl ⟨Below.refl _ _, rfl⟩), (fun f W hst hbl hd hf => stp_pick_f (v := .bool false) (hd 11 71 rfl rfl) (hd 37 97 rfl rfl) ⟨Below.refl _ _, rfl⟩), trivial⟩ ?_
          intro f74 W75 st76 hb77 hv78 hf79
          refine sx_f (hv78 38 98 (by decide) rfl) rfl ?_
          refine wp_skip ?_
          refine sx_region ?_
          refine sx rfl (stp_move (v := I (k : Int)) ((hf79 7 rfl).trans hs24_7) ?_)
          refine sx rfl (stp_add rfl rfl (by (simp only [I64] at *; omega)) ?_)
          refine sx rfl (stp_assign (v := I ((k : Int) + 1)) rfl ?_)
          refine sx_nil ?_
          exact ⟨_, r.tasks.length - (k + 1), (by omega), rfl, k + 1, (by omega), (runEnt_step (by omega) hPr (fun _ => by omega) hT), rfl, ((hf79 2 rfl).trans hs24_2), ((hf79 3 rfl).trans hs24_3), ((hf79 4 rfl).trans hs24_4), rfl, st76⟩
        · skip
          have h71p := of_decide_eq_true h71
          have hk82 := hc
          obtain ⟨v82_0, v82_1, g82_0, g82_1, rfl, hok82, h82_0, h82_1, rfl⟩ := hk82
          have hif4d94 : k < r.tasks.length := (by omega)
          have hq_ := idx h17_1 (i := k) hif4d94
          obtain ⟨b83, o83, cs83, f83, hp83, hr83, hc83, hm83⟩ := hq_
          have hk84 := hc83
          obtain ⟨he84, rfl, hok84⟩ := hk84
          have he84 : _ = [I (r.tasks[k]'hif4d94).state, I (r.tasks[k]'hif4d94).need, I (r.tasks[k]'hif4d94).try_, I (r.tasks[k]'hif4d94).until_] := he84
          subst he84
          refine sx_any [Pl.is (.pointer (some ⟨b6, 0 + 7, none⟩)), Pl.is (v17_1) (Sl.yl h17_1), Pl.is (I (k : Int)), Pl.is (.pointer (some ⟨b83, o83, none⟩)), Pl.is (.pointer (some ⟨b83, o83 + 0, none⟩)), Pl.is (I (r.tasks[k]'hif4d94).state), Pl.bool false, Pl.bool false, Pl.off, Pl.off, Pl.bool false, Pl.bool false, Pl.is (.pointer (some ⟨b6, 0 + 7, none⟩)), Pl.is (v17_1) (Sl.yl h17_1), Pl.is (I (k : Int)), Pl.is (.pointer (some ⟨b83, o83, none⟩)), Pl.is (.pointer (some ⟨b83, o83 + 0, none⟩)), Pl.is (I (r.tasks[k]'hif4d94).state), Pl.bool true, Pl.bool true, Pl.is (.pointer (some ⟨b6, 0 + 7, none⟩)), Pl.is (v17_1) (Sl.yl h17_1), Pl.is (I (k : Int)), Pl.is (.pointer (some ⟨b83, o83, none⟩)), Pl.is (.pointer (some ⟨b83, o83 + 3, none⟩)), Pl.is (I (r.tasks[k]'hif4d94).until_), Pl.is (.pointer (some ⟨b1, 0 + 0, none⟩)), Pl.is (I y.now), Pl.is (I (y.now + 1)), Pl.is (.pointer (some ⟨b1, 0 + 0, none⟩)), Pl.is (I y.now), Pl.is (.pointer (some ⟨b6, 0 + 1, none⟩)), Pl.is (.pointer (some ⟨b6, 0 + 1 + 2, none⟩)), Pl.is (I r.plan.wait), Pl.is (I (y.now + r.plan.wait)), Pl.bool (inB (r.tasks[k]'hif4d94).until_ (y.now + 1) (y.now + r.plan.wait)), Pl.bool (!(inB (r.tasks[k]'hif4d94).until_ (y.now + 1) (y.now + r.plan.wait))), Pl.bool (!(inB (r.tasks[k]'hif4d94).until_ (y.now + 1) (y.now + r.plan.wait))), Pl.bool (!(inB (r.tasks[k]'hif4d94).until_ (y.now + 1) (y.now + r.plan.wait)))] mix (by rfl) st23 ⟨(fun f W hst hbl hd hf => stp_fieldAddr fa_Run_3 ((hf 4 rfl).trans hs24_4) ⟨Below.refl _ _, rfl⟩), (fun f W hst hbl hd hf => stp_load_bx ld_TaskS rfl (hd 0 60 rfl rfl) (hst.get 0 rfl) (i := 7) rfl rfl ⟨Below.refl _ _, rfl⟩), (fun f W hst hbl hd hf => stp_move (v := I (k : Int)) ((hf 7 rfl).trans hs24_7) ⟨Below.refl _ _, rfl⟩), (fun f W hst hbl hd hf => stp_indexAddr sl_TaskS (hd 1 61 rfl rfl) hp83 (hd 2 62 rfl rfl) rfl ⟨Below.refl _ _, rfl⟩), (fun f W hst hbl hd hf => stp_fieldAddr fa_Task_0 (hd 3 63 rfl rfl) ⟨Below.refl _ _, rfl⟩), (fun f W hst hbl hd hf => stp_load_rg ld_int rfl (hd 4 64 rfl rfl) hr83 hst.below (i := 0) rfl rfl ⟨Below.refl _ _, rfl⟩), (fun f W hst hbl hd hf => stp_eql (hd 5 65 rfl rfl) rfl ⟨Below.refl _ _, congrArg Value.bool h68⟩), (fun f W hst hbl hd hf => stp_move (v := .bool false) (hd 6 66 rfl rfl) ⟨Below.refl _ _, rfl⟩), (fun f W hst hbl hd hf => rfl), (fun f W hst hbl hd hf => rfl), (fun f W hst hbl hd hf => stp_pick_f (v := .bool false) (hd 7 67 rfl rfl) rfl ⟨Below.refl _ _, rfl⟩), (fun f W hst hbl hd hf => stp_move (v := .bool false) (hd 10 70 rfl rfl) ⟨Below.refl _ _, rfl⟩), (fun f W hst hbl hd hf => stp_fieldAddr fa_Run_3 ((hf 4 rfl).trans hs24_4) ⟨Below.refl _ _, rfl⟩), (fun f W hst hbl hd hf => stp_load_bx ld_TaskS rfl (hd 12 72 rfl rfl) (hst.get 0 rfl) (i := 7) rfl rfl ⟨Below.refl _ _, rfl⟩), (fun f W hst hbl hd hf => stp_move (v := I (k : Int)) ((hf 7 rfl).trans hs24_7) ⟨Below.refl _ _, rfl⟩), (fun f W hst hbl hd hf => stp_indexAddr sl_TaskS (hd 13 73 rfl rfl) hp83 (hd 14 74 rfl rfl) rfl ⟨Below.refl _ _, rfl⟩), (fun f W hst hbl hd hf => stp_fieldAddr fa_Task_0 (hd 15 75 rfl rfl) ⟨Below.refl _ _, rfl⟩), (fun f W hst hbl hd hf => stp_load_rg ld_int rfl (hd 16 76 rfl rfl) hr83 hst.below (i := 0) rfl rfl ⟨Below.refl _ _, rfl⟩), (fun f W hst hbl hd hf => stp_eql (hd 17 77 rfl rfl) rfl ⟨Below.refl _ _, congrArg Value.bool h71⟩), (fun f W hst hbl hd hf => stp_move (v := .bool true) (hd 18 78 rfl rfl) ⟨Below.refl _ _, rfl⟩), (fun f W hst hbl hd hf => stp_fieldAddr fa_Run_3 ((hf 4 rfl).trans hs24_4) ⟨Below.refl _ _, rfl⟩), (fun f W hst hbl hd hf => stp_load_bx ld_TaskS rfl (hd 20 80 rfl rfl) (hst.get 0 rfl) (i := 7) rfl rfl ⟨Below.refl _ _, rfl⟩), (fun f W hst hbl hd hf => stp_move (v := I (k : Int)) ((hf 7 rfl).trans hs24_7) ⟨Below.refl _ _, rfl⟩), (fun f W hst hbl hd hf => stp_indexAddr sl_TaskS (hd 21 81 rfl rfl) hp83 (hd 22 82 rfl rfl) rfl ⟨Below.refl _ _, rfl⟩), (fun f W hst hbl hd hf => stp_fieldAddr fa_Task_3 (hd 23 83 rfl rfl) ⟨Below.refl _ _, rfl⟩), (fun f W hst hbl hd hf => stp_load_rg ld_int rfl (hd 24 84 rfl rfl) hr83 hst.below (i := 3) rfl rfl ⟨Below.refl _ _, rfl⟩), (fun f W hst hbl hd hf => stp_fieldAddr fa_Yard_0 ((hf 3 rfl).trans hs24_3) ⟨Below.refl _ _, rfl⟩), (fun f W hst hbl hd hf => stp_load_bx ld_int rfl (hd 26 86 rfl rfl) (hst.get 1 rfl) (i := 0) rfl rfl ⟨Below.refl _ _, rfl⟩), (fun f W hst hbl hd hf => stp_add (hd 27 87 rfl rfl) rfl (by (simp only [I64] at *; omega)) ⟨Below.refl _ _, rfl⟩), (fun f W hst hbl hd hf => stp_fieldAddr fa_Yard_0 ((hf 3 rfl).trans hs24_3) ⟨Below.refl _ _, rfl⟩), (fun f W hst hbl hd hf => stp_load_bx ld_int rfl (hd 29 89 rfl rfl) (hst.get 1 rfl) (i := 0) rfl rfl ⟨Below.refl _ _, rfl⟩), (fun f W hst hbl hd hf => stp_fieldAddr fa_Run_1 ((hf 4 rfl).trans hs24_4) ⟨Below.refl _ _, rfl⟩), (fun f W hst hbl hd hf => stp_fieldAddr fa_Plan_2 (hd 31 91 rfl rfl) ⟨Below.refl _ _, rfl⟩), (fun f W hst hbl hd hf => stp_load_bx ld_int rfl (hd 32 92 rfl rfl) (hst.get 0 rfl) (i := 3) rfl rfl ⟨Below.refl _ _, rfl⟩), (fun f W hst hbl hd hf => stp_add (hd 30 90 rfl rfl) (hd 33 93 rfl rfl) (by (simp only [I64] at *; omega)) ⟨Below.refl _ _, rfl⟩), (fun f W hst hbl hd hf => stp_call3 Tryz.func43 rfl (hd 25 85 rfl rfl) (hd 28 88 rfl rfl) (hd 34 94 rfl rfl) ((l01In_n W (r.tasks[k]'hif4d94).until_ (y.now + 1) (y.now + r.plan.wait)).mono (by rintro e W2 ⟨rfl, hk⟩; exact ⟨_, rfl, hk.below, rfl⟩))), (fun f W hst hbl hd hf => stp_not (hd 35 95 rfl rfl) ⟨Below.refl _ _, rfl⟩), (fun f W hst hbl hd hf => stp_pick_t (v := .bool (!(inB (r.tasks[k]'hif4d94).until_ (y.now + 1) (y.now + r.plan.wait)))) (hd 19 79 rfl rfl) (hd 36 96 rfl rfl) ⟨Below.refl _ _, rfl⟩), (fun f W hst hbl hd hf => stp_pick_f (v := .bool (!(inB (r.tasks[k]'hif4d94).until_ (y.now + 1) (y.now + r.plan.wait)))) (hd 11 71 rfl rfl) (hd 37 97 rfl rfl) ⟨Below.refl _ _, rfl⟩), trivial⟩ ?_
          intro f85 W86 st87 hb88 hv89 hf90
          refine sx_if (hv89 38 98 (by decide) rfl) (fun h91 => ?_) (fun h91 => ?_)
          · skip
            have h91p := inB_not (bnot_t h91)
            refine wp_seq ?_
            refine sx_region ?_
            refine sx rfl (stp_assign (v := .bool false) rfl ?_)
            refine sx_nil ?_
            refine wp_ret ?_; repeat (first | refine then_ret ?_ | refine blk_ret ?_)
            refine ret1 Tryz.results92 rfl ?_
            have hent : entN r.id (k : Int) es = entN r.id (k : Int) (es.take i) := by rw [show i = es.length by omega, List.take_length]
            exact ⟨(congrArg (fun z => Ending.returned (.bool z)) (by unfold runsOkB; rw [pB_f (fun hz => by have hz2 := (hz k (by omega)).2 (by omega); omega)])), st87.bare⟩
          · skip
            have h91p := inB_iff'.1 (bnot_f h91)
            refine wp_skip ?_
            refine sx_region ?_
            refine sx rfl (stp_move (v := I (k : Int)) ((hf90 7 rfl).trans hs24_7) ?_)
            refine sx rfl (stp_add rfl rfl (by (simp only [I64] at *; omega)) ?_)
            refine sx rfl (stp_assign (v := I ((k : Int) + 1)) rfl ?_)
            refine sx_nil ?_
            exact ⟨_, r.tasks.length - (k + 1), (by omega), rfl, k + 1, (by omega), (runEnt_step (by omega) hPr (fun _ => by omega) hT), rfl, ((hf90 2 rfl).trans hs24_2), ((hf90 3 rfl).trans hs24_3), ((hf90 4 rfl).trans hs24_4), rfl, st87⟩
      · skip
        have h68p := of_decide_eq_true h68
        rcases bd (!decide (((entN r.id (k : Int) (es.take i) : Nat) : Int) = 1)) with h94 | h94
        · skip
          have h94p := of_decide_eq_true (bnot_f h94)
          have hif4d94 : k < r.tasks.length := (by omega)
          rcases bd (decide ((r.tasks[k]'hif4d94).state = 3)) with h97 | h97
          · skip
            have h97p := of_decide_eq_false h97
            have hif4d94 : k < r.tasks.length := (by omega)
            have hq_ := idx h17_1 (i := k) hif4d94
            obtain ⟨b98, o98, cs98, f98, hp98, hr98, hc98, hm98⟩ := hq_
            have hk99 := hc98
            obtain ⟨he99, rfl, hok99⟩ := hk99
            have he99 : _ = [I (r.tasks[k]'hif4d94).state, I (r.tasks[k]'hif4d94).need, I (r.tasks[k]'hif4d94).try_, I (r.tasks[k]'hif4d94).until_] := he99
            subst he99
            refine sx_any [Pl.is (.pointer (some ⟨b6, 0 + 7, none⟩)), Pl.is (v17_1) (Sl.yl h17_1), Pl.is (I (k : Int)), Pl.is (.pointer (some ⟨b98, o98, none⟩)), Pl.is (.pointer (some ⟨b98, o98 + 0, none⟩)), Pl.is (I (r.tasks[k]'hif4d94).state), Pl.bool true, Pl.bool true, Pl.is (I ((entN r.id (k : Int) (es.take i) : Nat) : Int)), Pl.bool false, Pl.bool false, Pl.bool false, Pl.is (.pointer (some ⟨b6, 0 + 7, none⟩)), Pl.is (v17_1) (Sl.yl h17_1), Pl.is (I (k : Int)), Pl.is (.pointer (some ⟨b98, o98, none⟩)), Pl.is (.pointer (some ⟨b98, o98 + 0, none⟩)), Pl.is (I (r.tasks[k]'hif4d94).state), Pl.bool false, Pl.bool false, Pl.off, Pl.off, Pl.off, Pl.off, Pl.off, Pl.off, Pl.off, Pl.off, Pl.off, Pl.off, Pl.off, Pl.off, Pl.off, Pl.off, Pl.off, Pl.off, Pl.off, Pl.bool false, Pl.bool false] mix (by rfl) st23 ⟨(fun f W hst hbl hd hf => stp_fieldAddr fa_Run_3 ((hf 4 rfl).trans hs24_4) ⟨Below.refl _ _, rfl⟩), (fun f W hst hbl hd hf => stp_load_bx ld_TaskS rfl (hd 0 60 rfl rfl) (hst.get 0 rfl) (i := 7) rfl rfl ⟨Below.refl _ _, rfl⟩), (fun f W hst hbl hd hf => stp_move (v := I (k : Int)) ((hf 7 rfl).trans hs24_7) ⟨Below.refl _ _, rfl⟩), (fun f W hst hbl hd hf => stp_indexAddr sl_TaskS (hd 1 61 rfl rfl) hp98 (hd 2 62 rfl rfl) rfl ⟨Below.refl _ _, rfl⟩), (fun f W hst hbl hd hf => stp_fieldAddr fa_Task_0 (hd 3 63 rfl rfl) ⟨Below.refl _ _, rfl⟩), (fun f W hst hbl hd hf => stp_load_rg ld_int rfl (hd 4 64 rfl rfl) hr98 hst.below (i := 0) rfl rfl ⟨Below.refl _ _, rfl⟩), (fun f W hst hbl hd hf => stp_eql (hd 5 65 rfl rfl) rfl ⟨Below.refl _ _, congrArg Value.bool h68⟩), (fun f W hst hbl hd hf => stp_move (v := .bool true) (hd 6 66 rfl rfl) ⟨Below.refl _ _, rfl⟩), (fun f W hst hbl hd hf => stp_move (v := I ((entN r.id (k : Int) (es.take i) : Nat) : Int)) ((hf 8 rfl).trans hs24_8) ⟨Below.refl _ _, rfl⟩), (fun f W hst hbl hd hf => stp_neq (hd 8 68 rfl rfl) rfl ⟨Below.refl _ _, congrArg Value.bool h94⟩), (fun f W hst hbl hd hf => stp_pick_t (v := .bool false) (hd 7 67 rfl rfl) (hd 9 69 rfl rfl) ⟨Below.refl _ _, rfl⟩), (fun f W hst hbl hd hf => stp_move (v := .bool false) (hd 10 70 rfl rfl) ⟨Below.refl _ _, rfl⟩), (fun f W hst hbl hd hf => stp_fieldAddr fa_Run_3 ((hf 4 rfl).trans hs24_4) ⟨Below.refl _ _, rfl⟩), (fun f W hst hbl hd hf => stp_load_bx ld_TaskS rfl (hd 12 72 rfl rfl) (hst.get 0 rfl) (i := 7) rfl rfl ⟨Below.refl _ _, rfl⟩), (fun f W hst hbl hd hf => stp_move (v := I (k : Int)) ((hf 7 rfl).trans hs24_7) ⟨Below.refl _ _, rfl⟩), (fun f W hst hbl hd hf => stp_indexAddr sl_TaskS (hd 13 73 rfl rfl) hp98 (hd 14 74 rfl rfl) rfl ⟨Below.refl _ _, rfl⟩), (fun f W hst hbl hd hf => stp_fieldAddr fa_Task_0 (hd 15 75 rfl rfl) ⟨Below.refl _ _, rfl⟩), (fun f W hst hbl hd hf => stp_load_rg ld_int rfl (hd 16 76 rfl rfl) hr98 hst.below (i := 0) rfl rfl ⟨Below.refl _ _, rfl⟩), (fun f W hst hbl hd hf => stp_eql (hd 17 77 rfl rfl) rfl ⟨Below.refl _ _, congrArg Value.bool h97⟩), (fun f W hst hbl hd hf => stp_move (v := .bool false) (hd 18 78 rfl rfl) ⟨Below.refl _ _, rfl⟩), (fun f W hst hbl hd hf => rfl), (fun f W hst hbl hd hf => rfl), (fun f W hst hbl hd hf => rfl), (fun f W hst hbl hd hf => rfl), (fun f W hst hbl hd hf => rfl), (fun f W hst hbl hd hf => rfl), (fun f W hst hbl hd hf => rfl), (fun f W hst hbl hd hf => rfl), (fun f W hst hbl hd hf => rfl), (fun f W hst hbl hd hf => rfl), (fun f W hst hbl hd hf => rfl), (fun f W hst hbl hd hf => rfl), (fun f W hst hbl hd hf => rfl), (fun f W hst hbl hd hf => rfl), (fun f W hst hbl hd hf => rfl), (fun f W hst hbl hd hf => rfl), (fun f W hst hbl hd hf => rfl), (fun f W hst hbl hd hf => stp_pick_f (v := .bool false) (hd 19 79 rfl rfl) rfl ⟨Below.refl _ _, rfl⟩), (fun f W hst hbl hd hf => stp_pick_f (v := .bool false) (hd 11 71 rfl rfl) (hd 37 97 rfl rfl) ⟨Below.refl _ _, rfl⟩), trivial⟩ ?_
            intro f100 W101 st102 hb103 hv104 hf105
            refine sx_f (hv104 38 98 (by decide) rfl) rfl ?_
            refine wp_skip ?_
            refine sx_region ?_
            refine sx rfl (stp_move (v := I (k : Int)) ((hf105 7 rfl).trans hs24_7) ?_)
            refine sx rfl (stp_add rfl rfl (by (simp only [I64] at *; omega)) ?_)
            refine sx rfl (stp_assign (v := I ((k : Int) + 1)) rfl ?_)
            refine sx_nil ?_
            exact ⟨_, r.tasks.length - (k + 1), (by omega), rfl, k + 1, (by omega), (runEnt_step (by omega) hPr (fun _ => by omega) hT), rfl, ((hf105 2 rfl).trans hs24_2), ((hf105 3 rfl).trans hs24_3), ((hf105 4 rfl).trans hs24_4), rfl, st102⟩
          · skip
            have h97p := of_decide_eq_true h97
            have hk108 := hc
            obtain ⟨v108_0, v108_1, g108_0, g108_1, rfl, hok108, h108_0, h108_1, rfl⟩ := hk108
            have hif4d94 : k < r.tasks.length := (by omega)
            have hq_ := idx h17_1 (i := k) hif4d94
            obtain ⟨b109, o109, cs109, f109, hp109, hr109, hc109, hm109⟩ := hq_
            have hk110 := hc109
            obtain ⟨he110, rfl, hok110⟩ := hk110
            have he110 : _ = [I (r.tasks[k]'hif4d94).state, I (r.tasks[k]'hif4d94).need, I (r.tasks[k]'hif4d94).try_, I (r.tasks[k]'hif4d94).until_] := he110
            subst he110
            refine sx_any [Pl.is (.pointer (some ⟨b6, 0 + 7, none⟩)), Pl.is (v17_1) (Sl.yl h17_1), Pl.is (I (k : Int)), Pl.is (.pointer (some ⟨b109, o109, none⟩)), Pl.is (.pointer (some ⟨b109, o109 + 0, none⟩)), Pl.is (I (r.tasks[k]'hif4d94).state), Pl.bool true, Pl.bool true, Pl.is (I ((entN r.id (k : Int) (es.take i) : Nat) : Int)), Pl.bool false, Pl.bool false, Pl.bool false, Pl.is (.pointer (some ⟨b6, 0 + 7, none⟩)), Pl.is (v17_1) (Sl.yl h17_1), Pl.is (I (k : Int)), Pl.is (.pointer (some ⟨b109, o109, none⟩)), Pl.is (.pointer (some ⟨b109, o109 + 0, none⟩)), Pl.is (I (r.tasks[k]'hif4d94).state), Pl.bool true, Pl.bool true, Pl.is (.pointer (some ⟨b6, 0 + 7, none⟩)), Pl.is (v17_1) (Sl.yl h17_1), Pl.is (I (k : Int)), Pl.is (.pointer (some ⟨b109, o109, none⟩)), Pl.is (.pointer (some ⟨b109, o109 + 3, none⟩)), Pl.is (I (r.tasks[k]'hif4d94).until_), Pl.is (.pointer (some ⟨b1, 0 + 0, none⟩)), Pl.is (I y.now), Pl.is (I (y.now + 1)), Pl.is (.pointer (some ⟨b1, 0 + 0, none⟩)), Pl.is (I y.now), Pl.is (.pointer (some ⟨b6, 0 + 1, none⟩)), Pl.is (.pointer (some ⟨b6, 0 + 1 + 2, none⟩)), Pl.is (I r.plan.wait), Pl.is (I (y.now + r.plan.wait)), Pl.bool (inB (r.tasks[k]'hif4d94).until_ (y.now + 1) (y.now + r.plan.wait)), Pl.bool (!(inB (r.tasks[k]'hif4d94).until_ (y.now + 1) (y.now + r.plan.wait))), Pl.bool (!(inB (r.tasks[k]'hif4d94).until_ (y.now + 1) (y.now + r.plan.wait))), Pl.bool (!(inB (r.tasks[k]'hif4d94).until_ (y.now + 1) (y.now + r.plan.wait)))] mix (by rfl) st23 ⟨(fun f W hst hbl hd hf => stp_fieldAddr fa_Run_3 ((hf 4 rfl).trans hs24_4) ⟨Below.refl _ _, rfl⟩), (fun f W hst hbl hd hf => stp_load_bx ld_TaskS rfl (hd 0 60 rfl rfl) (hst.get 0 rfl) (i := 7) rfl rfl ⟨Below.refl _ _, rfl⟩), (fun f W hst hbl hd hf => stp_move (v := I (k : Int)) ((hf 7 rfl).trans hs24_7) ⟨Below.refl _ _, rfl⟩), (fun f W hst hbl hd hf => stp_indexAddr sl_TaskS (hd 1 61 rfl rfl) hp109 (hd 2 62 rfl rfl) rfl ⟨Below.refl _ _, rfl⟩), (fun f W hst hbl hd hf => stp_fieldAddr fa_Task_0 (hd 3 63 rfl rfl) ⟨Below.refl _ _, rfl⟩), (fun f W hst hbl hd hf => stp_load_rg ld_int rfl (hd 4 64 rfl rfl) hr109 hst.below (i := 0) rfl rfl ⟨Below.refl _ _, rfl⟩), (fun f W hst hbl hd hf => stp_eql (hd 5 65 rfl rfl) rfl ⟨Below.refl _ _, congrArg Value.bool h68⟩), (fun f W hst hbl hd hf => stp_move (v := .bool true) (hd 6 66 rfl rfl) ⟨Below.refl _ _, rfl⟩), (fun f W hst hbl hd hf => stp_move (v := I ((entN r.id (k : Int) (es.take i) : Nat) : Int)) ((hf 8 rfl).trans hs24_8) ⟨Below.refl _ _, rfl⟩), (fun f W hst hbl hd hf => stp_neq (hd 8 68 rfl rfl) rfl ⟨Below.refl _ _, congrArg Value.bool h94⟩), (fun f W hst hbl hd hf => stp_pick_t (v := .bool false) (hd 7 67 rfl rfl) (hd 9 69 rfl rfl) ⟨Below.refl _ _, rfl⟩), (fun f W hst hbl hd hf => stp_move (v := .bool false) (hd 10 70 rfl rfl) ⟨Below.refl _ _, rfl⟩), (fun f W hst hbl hd hf => stp_fieldAddr fa_Run_3 ((hf 4 rfl).trans hs24_4) ⟨Below.refl _ _, rfl⟩), (fun f W hst hbl hd hf => stp_load_bx ld_TaskS rfl (hd 12 72 rfl rfl) (hst.get 0 rfl) (i := 7) rfl rfl ⟨Below.refl _ _, rfl⟩), (fun f W hst hbl hd hf => stp_move (v := I (k : Int)) ((hf 7 rfl).trans hs24_7) ⟨Below.refl _ _, rfl⟩), (fun f W hst hbl hd hf => stp_indexAddr sl_TaskS (hd 13 73 rfl rfl) hp109 (hd 14 74 rfl rfl) rfl ⟨Below.refl _ _, rfl⟩), (fun f W hst hbl hd hf => stp_fieldAddr fa_Task_0 (hd 15 75 rfl rfl) ⟨Below.refl _ _, rfl⟩), (fun f W hst hbl hd hf => stp_load_rg ld_int rfl (hd 16 76 rfl rfl) hr109 hst.below (i := 0) rfl rfl ⟨Below.refl _ _, rfl⟩), (fun f W hst hbl hd hf => stp_eql (hd 17 77 rfl rfl) rfl ⟨Below.refl _ _, congrArg Value.bool h97⟩), (fun f W hst hbl hd hf => stp_move (v := .bool true) (hd 18 78 rfl rfl) ⟨Below.refl _ _, rfl⟩), (fun f W hst hbl hd hf => stp_fieldAddr fa_Run_3 ((hf 4 rfl).trans hs24_4) ⟨Below.refl _ _, rfl⟩), (fun f W hst hbl hd hf => stp_load_bx ld_TaskS rfl (hd 20 80 rfl rfl) (hst.get 0 rfl) (i := 7) rfl rfl ⟨Below.refl _ _, rfl⟩), (fun f W hst hbl hd hf => stp_move (v := I (k : Int)) ((hf 7 rfl).trans hs24_7) ⟨Below.refl _ _, rfl⟩), (fun f W hst hbl hd hf => stp_indexAddr sl_TaskS (hd 21 81 rfl rfl) hp109 (hd 22 82 rfl rfl) rfl ⟨Below.refl _ _, rfl⟩), (fun f W hst hbl hd hf => stp_fieldAddr fa_Task_3 (hd 23 83 rfl rfl) ⟨Below.refl _ _, rfl⟩), (fun f W hst hbl hd hf => stp_load_rg ld_int rfl (hd 24 84 rfl rfl) hr109 hst.below (i := 3) rfl rfl ⟨Below.refl _ _, rfl⟩), (fun f W hst hbl hd hf => stp_fieldAddr fa_Yard_0 ((hf 3 rfl).trans hs24_3) ⟨Below.refl _ _, rfl⟩), (fun f W hst hbl hd hf => stp_load_bx ld_int rfl (hd 26 86 rfl rfl) (hst.get 1 rfl) (i := 0) rfl rfl ⟨Below.refl _ _, rfl⟩), (fun f W hst hbl hd hf => stp_add (hd 27 87 rfl rfl) rfl (by (simp only [I64] at *; omega)) ⟨Below.refl _ _, rfl⟩), (fun f W hst hbl hd hf => stp_fieldAddr fa_Yard_0 ((hf 3 rfl).trans hs24_3) ⟨Below.refl _ _, rfl⟩), (fun f W hst hbl hd hf => stp_load_bx ld_int rfl (hd 29 89 rfl rfl) (hst.get 1 rfl) (i := 0) rfl rfl ⟨Below.refl _ _, rfl⟩), (fun f W hst hbl hd hf => stp_fieldAddr fa_Run_1 ((hf 4 rfl).trans hs24_4) ⟨Below.refl _ _, rfl⟩), (fun f W hst hbl hd hf => stp_fieldAddr fa_Plan_2 (hd 31 91 rfl rfl) ⟨Below.refl _ _, rfl⟩), (fun f W hst hbl hd hf => stp_load_bx ld_int rfl (hd 32 92 rfl rfl) (hst.get 0 rfl) (i := 3) rfl rfl ⟨Below.refl _ _, rfl⟩), (fun f W hst hbl hd hf => stp_add (hd 30 90 rfl rfl) (hd 33 93 rfl rfl) (by (simp only [I64] at *; omega)) ⟨Below.refl _ _, rfl⟩), (fun f W hst hbl hd hf => stp_call3 Tryz.func43 rfl (hd 25 85 rfl rfl) (hd 28 88 rfl rfl) (hd 34 94 rfl rfl) ((l01In_n W (r.tasks[k]'hif4d94).until_ (y.now + 1) (y.now + r.plan.wait)).mono (by rintro e W2 ⟨rfl, hk⟩; exact ⟨_, rfl, hk.below, rfl⟩))), (fun f W hst hbl hd hf => stp_not (hd 35 95 rfl rfl) ⟨Below.refl _ _, rfl⟩), (fun f W hst hbl hd hf => stp_pick_t (v := .bool (!(inB (r.tasks[k]'hif4d94).until_ (y.now + 1) (y.now + r.plan.wait)))) (hd 19 79 rfl rfl) (hd 36 96 rfl rfl) ⟨Below.refl _ _, rfl⟩), (fun f W hst hbl hd hf => stp_pick_f (v := .bool (!(inB (r.tasks[k]'hif4d94).until_ (y.now + 1) (y.now + r.plan.wait)))) (hd 11 71 rfl rfl) (hd 37 97 rfl rfl) ⟨Below.refl _ _, rfl⟩), trivial⟩ ?_
            intro f111 W112 st113 hb114 hv115 hf116
            refine sx_if (hv115 38 98 (by decide) rfl) (fun h117 => ?_) (fun h117 => ?_)
            · skip
              have h117p := inB_not (bnot_t h117)
              refine wp_seq ?_
              refine sx_region ?_
              refine sx rfl (stp_assign (v := .bool false) rfl ?_)
              refine sx_nil ?_
              refine wp_ret ?_; repeat (first | refine then_ret ?_ | refine blk_ret ?_)
              refine ret1 Tryz.results92 rfl ?_
              have hent : entN r.id (k : Int) es = entN r.id (k : Int) (es.take i) := by rw [show i = es.length by omega, List.take_length]
              exact ⟨(congrArg (fun z => Ending.returned (.bool z)) (by unfold runsOkB; rw [pB_f (fun hz => by have hz2 := (hz k (by omega)).2 (by omega); omega)])), st113.bare⟩
            · skip
              have h117p := inB_iff'.1 (bnot_f h117)
              refine wp_skip ?_
              refine sx_region ?_
              refine sx rfl (stp_move (v := I (k : Int)) ((hf116 7 rfl).trans hs24_7) ?_)
              refine sx rfl (stp_add rfl rfl (by (simp only [I64] at *; omega)) ?_)
              refine sx rfl (stp_assign (v := I ((k : Int) + 1)) rfl ?_)
              refine sx_nil ?_
              exact ⟨_, r.tasks.length - (k + 1), (by omega), rfl, k + 1, (by omega), (runEnt_step (by omega) hPr (fun _ => by omega) hT), rfl, ((hf116 2 rfl).trans hs24_2), ((hf116 3 rfl).trans hs24_3), ((hf116 4 rfl).trans hs24_4), rfl, st113⟩
        · skip
          have h94p := of_decide_eq_false (bnot_t h94)
          have hif4d94 : k < r.tasks.length := (by omega)
          have hq_ := idx h17_1 (i := k) hif4d94
          obtain ⟨b118, o118, cs118, f118, hp118, hr118, hc118, hm118⟩ := hq_
          have hk119 := hc118
          obtain ⟨he119, rfl, hok119⟩ := hk119
          have he119 : _ = [I (r.tasks[k]'hif4d94).state, I (r.tasks[k]'hif4d94).need, I (r.tasks[k]'hif4d94).try_, I (r.tasks[k]'hif4d94).until_] := he119
          subst he119
          refine sx_any [Pl.is (.pointer (some ⟨b6, 0 + 7, none⟩)), Pl.is (v17_1) (Sl.yl h17_1), Pl.is (I (k : Int)), Pl.is (.pointer (some ⟨b118, o118, none⟩)), Pl.is (.pointer (some ⟨b118, o118 + 0, none⟩)), Pl.is (I (r.tasks[k]'hif4d94).state), Pl.bool true, Pl.bool true, Pl.is (I ((entN r.id (k : Int) (es.take i) : Nat) : Int)), Pl.bool true, Pl.bool true, Pl.bool true, Pl.off, Pl.off, Pl.off, Pl.off, Pl.off, Pl.off, Pl.off, Pl.off, Pl.off, Pl.off, Pl.off, Pl.off, Pl.off, Pl.off, Pl.off, Pl.off, Pl.off, Pl.off, Pl.off, Pl.off, Pl.off, Pl.off, Pl.off, Pl.off, Pl.off, Pl.off, Pl.bool true] mix (by rfl) st23 ⟨(fun f W hst hbl hd hf => stp_fieldAddr fa_Run_3 ((hf 4 rfl).trans hs24_4) ⟨Below.refl _ _, rfl⟩), (fun f W hst hbl hd hf => stp_load_bx ld_TaskS rfl (hd 0 60 rfl rfl) (hst.get 0 rfl) (i := 7) rfl rfl ⟨Below.refl _ _, rfl⟩), (fun f W hst hbl hd hf => stp_move (v := I (k : Int)) ((hf 7 rfl).trans hs24_7) ⟨Below.refl _ _, rfl⟩), (fun f W hst hbl hd hf => stp_indexAddr sl_TaskS (hd 1 61 rfl rfl) hp118 (hd 2 62 rfl rfl) rfl ⟨Below.refl _ _, rfl⟩), (fun f W hst hbl hd hf => stp_fieldAddr fa_Task_0 (hd 3 63 rfl rfl) ⟨Below.refl _ _, rfl⟩), (fun f W hst hbl hd hf => stp_load_rg ld_int rfl (hd 4 64 rfl rfl) hr118 hst.below (i := 0) rfl rfl ⟨Below.refl _ _, rfl⟩), (fun f W hst hbl hd hf => stp_eql (hd 5 65 rfl rfl) rfl ⟨Below.refl _ _, congrArg Value.bool h68⟩), (fun f W hst hbl hd hf => stp_move (v := .bool true) (hd 6 66 rfl rfl) ⟨Below.refl _ _, rfl⟩), (fun f W hst hbl hd hf => stp_move (v := I ((entN r.id (k : Int) (es.take i) : Nat) : Int)) ((hf 8 rfl).trans hs24_8) ⟨Below.refl _ _, rfl⟩), (fun f W hst hbl hd hf => stp_neq (hd 8 68 rfl rfl) rfl ⟨Below.refl _ _, congrArg Value.bool h94⟩), (fun f W hst hbl hd hf => stp_pick_t (v := .bool true) (hd 7 67 rfl rfl) (hd 9 69 rfl rfl) ⟨Below.refl _ _, rfl⟩), (fun f W hst hbl hd hf => stp_move (v := .bool true) (hd 10 70 rfl rfl) ⟨Below.refl _ _, rfl⟩), (fun f W hst hbl hd hf => rfl), (fun f W hst hbl hd hf => rfl), (fun f W hst hbl hd hf => rfl), (fun f W hst hbl hd hf => rfl), (fun f W hst hbl hd hf => rfl), (fun f W hst hbl hd hf => rfl), (fun f W hst hbl hd hf => rfl), (fun f W hst hbl hd hf => rfl), (fun f W hst hbl hd hf => rfl), (fun f W hst hbl hd hf => rfl), (fun f W hst hbl hd hf => rfl), (fun f W hst hbl hd hf => rfl), (fun f W hst hbl hd hf => rfl), (fun f W hst hbl hd hf => rfl), (fun f W hst hbl hd hf => rfl), (fun f W hst hbl hd hf => rfl), (fun f W hst hbl hd hf => rfl), (fun f W hst hbl hd hf => rfl), (fun f W hst hbl hd hf => rfl), (fun f W hst hbl hd hf => rfl), (fun f W hst hbl hd hf => rfl), (fun f W hst hbl hd hf => rfl), (fun f W hst hbl hd hf => rfl), (fun f W hst hbl hd hf => rfl), (fun f W hst hbl hd hf => rfl), (fun f W hst hbl hd hf => rfl), (fun f W hst hbl hd hf => stp_pick_t (v := .bool true) (hd 11 71 rfl rfl) rfl ⟨Below.refl _ _, rfl⟩), trivial⟩ ?_
          intro f120 W121 st122 hb123 hv124 hf125
          refine sx_t (hv124 38 98 (by decide) rfl) rfl ?_
          refine wp_seq ?_
          refine sx_region ?_
          refine sx rfl (stp_assign (v := .bool false) rfl ?_)
          refine sx_nil ?_
          refine wp_ret ?_; repeat (first | refine then_ret ?_ | refine blk_ret ?_)
          refine ret1 Tryz.results92 rfl ?_
          have hent : entN r.id (k : Int) es = entN r.id (k : Int) (es.take i) := by rw [show i = es.length by omega, List.take_length]
          exact ⟨(congrArg (fun z => Ending.returned (.bool z)) (by unfold runsOkB; rw [pB_f (fun hz => by have hz2 := (hz k (by omega)).2 (by omega); omega)])), st122.bare⟩
  · skip
    have h18p := of_decide_eq_false h18
    refine wp_exit ?_
    refine wp_seq ?_
    refine sx_region ?_
    refine sx rfl (stp_assign (v := .bool true) rfl ?_)
    refine sx_nil ?_
    refine wp_ret ?_; repeat (first | refine then_ret ?_ | refine blk_ret ?_)
    refine ret1 Tryz.results92 rfl ?_
    exact ⟨(congrArg (fun z => Ending.returned (.bool z)) (by unfold runsOkB; rw [pB_t (fun j hj => hT j (by omega))])), st15.bare⟩
end Go.Proofs.YtchnllpegfbleaaGreat
