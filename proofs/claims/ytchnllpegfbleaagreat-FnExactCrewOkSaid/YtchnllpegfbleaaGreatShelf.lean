/-
  When a shelf is right: of the program and of the reference. (Printed by a program of this project's.)
-/
import Derived.Test.YtchnllpegfbleaaGreatIxOf
import Derived.Test.YtchnllpegfbleaaGreatLeft
import Derived.Test.YtchnllpegfbleaaGreatSxSlice
namespace Go.Proofs.YtchnllpegfbleaaGreat
set_option linter.unusedSimpArgs false
set_option linter.unusedVariables false
set_option maxRecDepth 100000
open Go.RowKit


def aheadB (a b : Entry) : Bool := decide (b.prio < a.prio) || (decide (a.prio = b.prio) && decide (a.seq < b.seq))
def shelfTo (xs : List Entry) (k : Nat) : Prop := ∀ i, i + 1 < k → ∀ h : i + 1 < xs.length, aheadB xs[i] xs[i + 1] = true
noncomputable def shelfOk (xs : List Entry) : Bool := pB (xs.length ≤ 80 ∧ shelfTo xs xs.length)
theorem shelfTo_step {xs : List Entry} {k : Nat} (hk : 1 ≤ k) (h : k < xs.length) (h0 : shelfTo xs k) (h1 : aheadB (xs[k - 1]'(by omega)) xs[k] = true) : shelfTo xs (k + 1) := by
  intro i hi hx
  by_cases h2 : i + 1 < k
  · exact h0 i h2 hx
  · have e : i = k - 1 := by omega
    subst e
    have e2 : k - 1 + 1 = k := by omega
    simp only [e2]
    exact h1
theorem shelfTo_bad {xs : List Entry} {k : Nat} (hk : 1 ≤ k) (h : k < xs.length) (h1 : aheadB (xs[k - 1]'(by omega)) xs[k] = false) : ¬ shelfTo xs xs.length := by
  intro h0
  have := h0 (k - 1) (by omega) (by omega)
  have e2 : k - 1 + 1 = k := by omega
  simp only [e2] at this
  rw [h1] at this
  cases this

set_option maxHeartbeats 2000000 in
theorem IndexN (w : World) {v : Value} {xs : List Int} {fp : List Nat} (h : Sl w v xs fp) (y : Int) :
    Calls Tryz.prog 144 #[v, I y] w fun e w' => e = .returned (I (ixI (ixOf (fun x => eqB y x) xs))) ∧ St w w' [] := by
  have hcap := h.len_le
  refine enter2 Tryz.func144 rfl Tryz.ntmps144 (by decide) ?_
  refine wp_seq ?_
  refine sx_region ?_
  refine sx rfl (stp_assign (v := I 0) rfl ?_)
  refine sx_nil ?_
  refine wp_seq ?_
  refine wp_seq ?_
  refine sx_region ?_
  refine sx rfl (stp_move (v := v) rfl ?_)
  refine sx rfl (stp_len sl_IntS rfl h ?_)
  refine sx rfl (stp_move (v := I 0) rfl ?_)
  refine sx_nil ?_
  refine wp_block ?_
  refine sx_loop (fun (m : Nat) (f : Nat → Value) (W : World) => ∃ (k : Nat), k ≤ xs.length ∧ (xs.take k).any (fun x => eqB y x) = false ∧ m = xs.length - k ∧ f 0 = v ∧ f 1 = I y ∧ f 7 = I (xs.length : Int) ∧ f 8 = I (k : Int) ∧ St w W ([])) (xs.length - 0) ?_ ?_
  · exact ⟨0, Nat.zero_le _, rfl, rfl, rfl, rfl, rfl, rfl, (St.start w)⟩
  intro m1 f2 W3 hJ4
  obtain ⟨k, hk, hany, rfl, hs6_0, hs6_1, hs6_7, hs6_8, st5⟩ := hJ4
  refine wp_seq ?_
  refine sx_region ?_
  refine sx rfl (stp_lss hs6_8 hs6_7 ?_)
  refine sx_nil ?_
  refine wp_seq ?_
  refine sx_if rfl (fun h7 => ?_) (fun h7 => ?_)
  · skip
    have h7p := of_decide_eq_true h7
    refine wp_skip ?_
    refine wp_seq ?_
    refine wp_block ?_
    refine wp_seq ?_
    refine sx_region ?_
    refine sx rfl (stp_move (v := I (k : Int)) hs6_8 ?_)
    refine sx rfl (stp_assign (v := I (k : Int)) rfl ?_)
    refine sx_nil ?_
    refine wp_seq ?_
    refine sx_region ?_
    refine sx rfl (stp_move (v := I y) hs6_1 ?_)
    refine sx rfl (stp_move (v := v) hs6_0 ?_)
    refine sx rfl (stp_move (v := I (k : Int)) rfl ?_)
    have hi51fab : k < xs.length := (by omega)
    have hq_ := idx h (i := k) hi51fab
    obtain ⟨b8, o8, cs8, f8, hp8, hr8, hc8, hm8⟩ := hq_
    have hk8 := hc8
    obtain ⟨rfl, rfl, hok8⟩ := hk8
    refine sx rfl (stp_indexAddr sl_IntS rfl hp8 rfl rfl ?_)
    refine sx rfl (stp_load_rg ld_int rfl rfl hr8 st5.below (i := 0) rfl rfl ?_)
    refine sx rfl (stp_eql rfl rfl ?_)
    refine sx_nil ?_
    refine sx_if rfl (fun h9 => ?_) (fun h9 => ?_)
    · skip
      have h9p := of_decide_eq_true h9
      refine wp_seq ?_
      refine sx_region ?_
      refine sx rfl (stp_move (v := I (k : Int)) rfl ?_)
      refine sx rfl (stp_assign (v := I (k : Int)) rfl ?_)
      refine sx_nil ?_
      refine wp_ret ?_; repeat (first | refine then_ret ?_ | refine blk_ret ?_)
      refine ret1 Tryz.results144 rfl ?_
      exact ⟨(congrArg (fun z => Ending.returned (I z)) (by rw [ixOf_some (by omega) hany (eqB_t h9p)]; try rfl)), st5.bare⟩
    · skip
      have h9p := of_decide_eq_false h9
      refine wp_skip ?_
      refine sx_region ?_
      refine sx rfl (stp_add hs6_8 rfl (by (simp only [I64] at *; omega)) ?_)
      refine sx rfl (stp_move (v := I ((k : Int) + 1)) rfl ?_)
      refine sx_nil ?_
      exact ⟨_, xs.length - (k + 1), (by omega), rfl, k + 1, (by omega), (any_step_f (by omega) hany (eqB_f h9p)), rfl, hs6_0, hs6_1, hs6_7, rfl, st5⟩
  · skip
    have h7p := of_decide_eq_false h7
    refine wp_exit ?_
    refine wp_seq ?_
    refine sx_region ?_
    refine sx rfl (stp_assign (v := I (-1)) rfl ?_)
    refine sx_nil ?_
    refine wp_ret ?_; repeat (first | refine then_ret ?_ | refine blk_ret ?_)
    refine ret1 Tryz.results144 rfl ?_
    obtain rfl : k = xs.length := by omega
    rw [List.take_length] at hany
    exact ⟨(congrArg (fun z => Ending.returned (I z)) (by rw [ixOf_none hany]; try rfl)), st5.bare⟩
set_option maxHeartbeats 2000000 in
theorem ContN (w : World) {v : Value} {xs : List Int} {fp : List Nat} (h : Sl w v xs fp) (y : Int) :
    Calls Tryz.prog 75 #[v, I y] w fun e w' => e = .returned (.bool (decide (y ∈ xs))) ∧ St w w' [] := by
  refine enter2 Tryz.func75 rfl Tryz.ntmps75 (by decide) ?_
  refine wp_seq ?_
  refine sx_region ?_
  refine sx rfl (stp_assign (v := .bool false) rfl ?_)
  refine sx_nil ?_
  refine wp_seq ?_
  refine sx_region ?_
  refine sx rfl (stp_move (v := v) rfl ?_)
  refine sx rfl (stp_move (v := I y) rfl ?_)
  refine sx rfl (stp_call2 Tryz.func144 rfl rfl rfl ((IndexN w (h.below (Below.refl _ _)) y).mono ?_)); rintro _ W1 ⟨rfl, hk2⟩; refine ⟨_, rfl, ?_⟩
  have st3 := St.call (St.start w) hk2
  refine sx rfl (stp_geq rfl rfl ?_)
  refine sx rfl (stp_assign (v := .bool (decide (0 ≤ (ixI (ixOf (fun x => eqB y x) xs))))) rfl ?_)
  refine sx_nil ?_
  refine wp_ret ?_; repeat (first | refine then_ret ?_ | refine blk_ret ?_)
  refine ret1 Tryz.results75 rfl ?_
  exact ⟨(congrArg (fun z => Ending.returned (.bool z)) (ix_mem y xs)), st3.bare⟩
set_option maxHeartbeats 2000000 in
theorem AheadI (w : World) {a b : Entry} {cs ds : List Value} {fp gp : List Nat} (hc : Shape.C w cs a fp) (hd : Shape.C w ds b gp) :
    Calls Tryz.prog 159 #[.agg cs.toArray, .agg ds.toArray] w fun e w' => e = .returned (.bool (aheadB a b)) ∧ St w w' [] := by
  refine enter2 Tryz.func159 rfl Tryz.ntmps159 (by decide) ?_
  refine wp_seq ?_
  refine sx_region ?_
  refine sx rfl (stp_box_agg (cs := cs) rfl (St.start w) ?_); intro b1 W2 hb3 st4
  refine sx rfl (stp_box_agg (cs := ds) rfl st4 ?_); intro b6 W7 hb8 st9
  refine sx rfl (stp_assign (v := .bool false) rfl ?_)
  refine sx_nil ?_
  refine wp_seq ?_
  refine sx_region ?_
  refine sx rfl (stp_fieldAddr fa_Entry_0 rfl ?_)
  have hk11 := hc
  obtain ⟨he11, rfl, hok11⟩ := hk11
  have he11 : _ = [I a.prio, I a.seq, I a.run, I a.task] := he11
  subst he11
  refine sx rfl (stp_load_bx ld_int rfl rfl (st9.get 1 rfl) (i := 0) rfl rfl ?_)
  refine sx rfl (stp_fieldAddr fa_Entry_0 rfl ?_)
  have hk12 := hd
  obtain ⟨he12, rfl, hok12⟩ := hk12
  have he12 : _ = [I b.prio, I b.seq, I b.run, I b.task] := he12
  subst he12
  refine sx rfl (stp_load_bx ld_int rfl rfl (st9.get 0 rfl) (i := 0) rfl rfl ?_)
  refine sx rfl (stp_gtr rfl rfl ?_)
  refine sx rfl (stp_move (v := .bool (decide (b.prio < a.prio))) rfl ?_)
  rcases bd (decide (b.prio < a.prio)) with h13 | h13
  · skip
    have h13p := of_decide_eq_false h13
    refine sx_on (j := 5) (dd := 10) rfl rfl (by decide) (yl_on (e := decide (b.prio < a.prio)) rfl h13) (stp_fieldAddr fa_Entry_0 rfl ?_)
    refine sx_on (j := 5) (dd := 10) rfl rfl (by decide) (yl_on (e := decide (b.prio < a.prio)) rfl h13) (stp_load_bx ld_int rfl rfl (st9.get 1 rfl) (i := 0) rfl rfl ?_)
    refine sx_on (j := 5) (dd := 10) rfl rfl (by decide) (yl_on (e := decide (b.prio < a.prio)) rfl h13) (stp_fieldAddr fa_Entry_0 rfl ?_)
    refine sx_on (j := 5) (dd := 10) rfl rfl (by decide) (yl_on (e := decide (b.prio < a.prio)) rfl h13) (stp_load_bx ld_int rfl rfl (st9.get 0 rfl) (i := 0) rfl rfl ?_)
    refine sx_on (j := 5) (dd := 10) rfl rfl (by decide) (yl_on (e := decide (b.prio < a.prio)) rfl h13) (stp_eql rfl rfl ?_)
    refine sx_on (j := 5) (dd := 10) rfl rfl (by decide) (yl_on (e := decide (b.prio < a.prio)) rfl h13) (stp_move (v := .bool (decide (a.prio = b.prio))) rfl ?_)
    rcases bd (decide (a.prio = b.prio)) with h14 | h14
    · skip
      have h14p := of_decide_eq_false h14
      iterate 5 refine sx_off (j := 11) (dd := 16) rfl rfl (by decide) (yl_off (e := decide (a.prio = b.prio)) rfl h14) ?_
      refine sx_on (j := 5) (dd := 10) rfl rfl (by decide) (yl_on (e := decide (b.prio < a.prio)) rfl h13) (stp_pick_f (v := .bool false) ((rfl : _ = (.bool (decide (a.prio = b.prio)) : Value)).trans (congrArg Value.bool h14)) rfl ?_)
      refine sx rfl (stp_pick_f (v := .bool false) ((rfl : _ = (.bool (decide (b.prio < a.prio)) : Value)).trans (congrArg Value.bool h13)) rfl ?_)
      refine sx rfl (stp_assign (v := .bool false) rfl ?_)
      refine sx_nil ?_
      refine wp_ret ?_; repeat (first | refine then_ret ?_ | refine blk_ret ?_)
      refine ret1 Tryz.results159 rfl ?_
      exact ⟨(congrArg (fun z => Ending.returned (.bool z)) (by unfold aheadB; simp only [h13, h14, decide_true, decide_false, Bool.true_or, Bool.false_or, Bool.false_and, Bool.true_and, Bool.or_false, Bool.or_true, Bool.and_true, Bool.and_false])), st9.bare⟩
    · skip
      have h14p := of_decide_eq_true h14
      refine sx_on (j := 11) (dd := 16) rfl rfl (by decide) (yl_on (e := decide (a.prio = b.prio)) rfl h14) (stp_fieldAddr fa_Entry_1 rfl ?_)
      refine sx_on (j := 11) (dd := 16) rfl rfl (by decide) (yl_on (e := decide (a.prio = b.prio)) rfl h14) (stp_load_bx ld_int rfl rfl (st9.get 1 rfl) (i := 1) rfl rfl ?_)
      refine sx_on (j := 11) (dd := 16) rfl rfl (by decide) (yl_on (e := decide (a.prio = b.prio)) rfl h14) (stp_fieldAddr fa_Entry_1 rfl ?_)
      refine sx_on (j := 11) (dd := 16) rfl rfl (by decide) (yl_on (e := decide (a.prio = b.prio)) rfl h14) (stp_load_bx ld_int rfl rfl (st9.get 0 rfl) (i := 1) rfl rfl ?_)
      refine sx_on (j := 11) (dd := 16) rfl rfl (by decide) (yl_on (e := decide (a.prio = b.prio)) rfl h14) (stp_lss rfl rfl ?_)
      refine sx_on (j := 5) (dd := 10) rfl rfl (by decide) (yl_on (e := decide (b.prio < a.prio)) rfl h13) (stp_pick_t (v := .bool (decide (a.seq < b.seq))) ((rfl : _ = (.bool (decide (a.prio = b.prio)) : Value)).trans (congrArg Value.bool h14)) rfl ?_)
      refine sx rfl (stp_pick_f (v := .bool (decide (a.seq < b.seq))) ((rfl : _ = (.bool (decide (b.prio < a.prio)) : Value)).trans (congrArg Value.bool h13)) rfl ?_)
      refine sx rfl (stp_assign (v := .bool (decide (a.seq < b.seq))) rfl ?_)
      refine sx_nil ?_
      rcases bd (decide (a.seq < b.seq)) with h15 | h15
      · skip
        have h15p := of_decide_eq_false h15
        refine wp_ret ?_; repeat (first | refine then_ret ?_ | refine blk_ret ?_)
        refine ret1 Tryz.results159 ((rfl : _ = (.bool (decide (a.seq < b.seq)) : Value)).trans (congrArg Value.bool h15)) ?_
        exact ⟨(congrArg (fun z => Ending.returned (.bool z)) (by unfold aheadB; simp only [h13, h14, h15, decide_true, decide_false, Bool.true_or, Bool.false_or, Bool.false_and, Bool.true_and, Bool.or_false, Bool.or_true, Bool.and_true, Bool.and_false])), st9.bare⟩
      · skip
        have h15p := of_decide_eq_true h15
        refine wp_ret ?_; repeat (first | refine then_ret ?_ | refine blk_ret ?_)
        refine ret1 Tryz.results159 ((rfl : _ = (.bool (decide (a.seq < b.seq)) : Value)).trans (congrArg Value.bool h15)) ?_
        exact ⟨(congrArg (fun z => Ending.returned (.bool z)) (by unfold aheadB; simp only [h13, h14, h15, decide_true, decide_false, Bool.true_or, Bool.false_or, Bool.false_and, Bool.true_and, Bool.or_false, Bool.or_true, Bool.and_true, Bool.and_false])), st9.bare⟩
  · skip
    have h13p := of_decide_eq_true h13
    iterate 6 refine sx_off (j := 5) (dd := 10) rfl rfl (by decide) (yl_off (e := decide (b.prio < a.prio)) rfl h13) ?_
    iterate 5 refine sx_off rfl rfl (by decide) (yl_und rfl) ?_
    refine sx_off (j := 5) (dd := 10) rfl rfl (by decide) (yl_off (e := decide (b.prio < a.prio)) rfl h13) ?_
    refine sx rfl (stp_pick_t (v := .bool true) ((rfl : _ = (.bool (decide (b.prio < a.prio)) : Value)).trans (congrArg Value.bool h13)) rfl ?_)
    refine sx rfl (stp_assign (v := .bool true) rfl ?_)
    refine sx_nil ?_
    refine wp_ret ?_; repeat (first | refine then_ret ?_ | refine blk_ret ?_)
    refine ret1 Tryz.results159 rfl ?_
    exact ⟨(congrArg (fun z => Ending.returned (.bool z)) (by unfold aheadB; simp only [h13, decide_true, decide_false, Bool.true_or, Bool.false_or, Bool.false_and, Bool.true_and, Bool.or_false, Bool.or_true, Bool.and_true, Bool.and_false])), st9.bare⟩
set_option maxHeartbeats 2000000 in
theorem AheadS (w : World) {a b : Entry} {cs ds : List Value} {fp gp : List Nat} (hc : Shape.C w cs a fp) (hd : Shape.C w ds b gp) :
    Calls Tryz.prog 211 #[.agg cs.toArray, .agg ds.toArray] w fun e w' => e = .returned (.bool (aheadB a b)) ∧ St w w' [] := by
  refine enter2 Tryz.func211 rfl Tryz.ntmps211 (by decide) ?_
  refine wp_seq ?_
  refine sx_region ?_
  refine sx rfl (stp_box_agg (cs := cs) rfl (St.start w) ?_); intro b1 W2 hb3 st4
  refine sx rfl (stp_box_agg (cs := ds) rfl st4 ?_); intro b6 W7 hb8 st9
  refine sx rfl (stp_assign (v := .bool false) rfl ?_)
  refine sx_nil ?_
  refine wp_seq ?_
  refine sx_region ?_
  refine sx rfl (stp_fieldAddr fa_Entry_0 rfl ?_)
  have hk11 := hc
  obtain ⟨he11, rfl, hok11⟩ := hk11
  have he11 : _ = [I a.prio, I a.seq, I a.run, I a.task] := he11
  subst he11
  refine sx rfl (stp_load_bx ld_int rfl rfl (st9.get 1 rfl) (i := 0) rfl rfl ?_)
  refine sx rfl (stp_fieldAddr fa_Entry_0 rfl ?_)
  have hk12 := hd
  obtain ⟨he12, rfl, hok12⟩ := hk12
  have he12 : _ = [I b.prio, I b.seq, I b.run, I b.task] := he12
  subst he12
  refine sx rfl (stp_load_bx ld_int rfl rfl (st9.get 0 rfl) (i := 0) rfl rfl ?_)
  refine sx rfl (stp_gtr rfl rfl ?_)
  refine sx rfl (stp_move (v := .bool (decide (b.prio < a.prio))) rfl ?_)
  rcases bd (decide (b.prio < a.prio)) with h13 | h13
  · skip
    have h13p := of_decide_eq_false h13
    refine sx_on (j := 5) (dd := 10) rfl rfl (by decide) (yl_on (e := decide (b.prio < a.prio)) rfl h13) (stp_fieldAddr fa_Entry_0 rfl ?_)
    refine sx_on (j := 5) (dd := 10) rfl rfl (by decide) (yl_on (e := decide (b.prio < a.prio)) rfl h13) (stp_load_bx ld_int rfl rfl (st9.get 1 rfl) (i := 0) rfl rfl ?_)
    refine sx_on (j := 5) (dd := 10) rfl rfl (by decide) (yl_on (e := decide (b.prio < a.prio)) rfl h13) (stp_fieldAddr fa_Entry_0 rfl ?_)
    refine sx_on (j := 5) (dd := 10) rfl rfl (by decide) (yl_on (e := decide (b.prio < a.prio)) rfl h13) (stp_load_bx ld_int rfl rfl (st9.get 0 rfl) (i := 0) rfl rfl ?_)
    refine sx_on (j := 5) (dd := 10) rfl rfl (by decide) (yl_on (e := decide (b.prio < a.prio)) rfl h13) (stp_eql rfl rfl ?_)
    refine sx_on (j := 5) (dd := 10) rfl rfl (by decide) (yl_on (e := decide (b.prio < a.prio)) rfl h13) (stp_move (v := .bool (decide (a.prio = b.prio))) rfl ?_)
    rcases bd (decide (a.prio = b.prio)) with h14 | h14
    · skip
      have h14p := of_decide_eq_false h14
      iterate 5 refine sx_off (j := 11) (dd := 16) rfl rfl (by decide) (yl_off (e := decide (a.prio = b.prio)) rfl h14) ?_
      refine sx_on (j := 5) (dd := 10) rfl rfl (by decide) (yl_on (e := decide (b.prio < a.prio)) rfl h13) (stp_pick_f (v := .bool false) ((rfl : _ = (.bool (decide (a.prio = b.prio)) : Value)).trans (congrArg Value.bool h14)) rfl ?_)
      refine sx rfl (stp_pick_f (v := .bool false) ((rfl : _ = (.bool (decide (b.prio < a.prio)) : Value)).trans (congrArg Value.bool h13)) rfl ?_)
      refine sx rfl (stp_assign (v := .bool false) rfl ?_)
      refine sx_nil ?_
      refine wp_ret ?_; repeat (first | refine then_ret ?_ | refine blk_ret ?_)
      refine ret1 Tryz.results211 rfl ?_
      exact ⟨(congrArg (fun z => Ending.returned (.bool z)) (by unfold aheadB; simp only [h13, h14, decide_true, decide_false, Bool.true_or, Bool.false_or, Bool.false_and, Bool.true_and, Bool.or_false, Bool.or_true, Bool.and_true, Bool.and_false])), st9.bare⟩
    · skip
      have h14p := of_decide_eq_true h14
      refine sx_on (j := 11) (dd := 16) rfl rfl (by decide) (yl_on (e := decide (a.prio = b.prio)) rfl h14) (stp_fieldAddr fa_Entry_1 rfl ?_)
      refine sx_on (j := 11) (dd := 16) rfl rfl (by decide) (yl_on (e := decide (a.prio = b.prio)) rfl h14) (stp_load_bx ld_int rfl rfl (st9.get 1 rfl) (i := 1) rfl rfl ?_)
      refine sx_on (j := 11) (dd := 16) rfl rfl (by decide) (yl_on (e := decide (a.prio = b.prio)) rfl h14) (stp_fieldAddr fa_Entry_1 rfl ?_)
      refine sx_on (j := 11) (dd := 16) rfl rfl (by decide) (yl_on (e := decide (a.prio = b.prio)) rfl h14) (stp_load_bx ld_int rfl rfl (st9.get 0 rfl) (i := 1) rfl rfl ?_)
      refine sx_on (j := 11) (dd := 16) rfl rfl (by decide) (yl_on (e := decide (a.prio = b.prio)) rfl h14) (stp_lss rfl rfl ?_)
      refine sx_on (j := 5) (dd := 10) rfl rfl (by decide) (yl_on (e := decide (b.prio < a.prio)) rfl h13) (stp_pick_t (v := .bool (decide (a.seq < b.seq))) ((rfl : _ = (.bool (decide (a.prio = b.prio)) : Value)).trans (congrArg Value.bool h14)) rfl ?_)
      refine sx rfl (stp_pick_f (v := .bool (decide (a.seq < b.seq))) ((rfl : _ = (.bool (decide (b.prio < a.prio)) : Value)).trans (congrArg Value.bool h13)) rfl ?_)
      refine sx rfl (stp_assign (v := .bool (decide (a.seq < b.seq))) rfl ?_)
      refine sx_nil ?_
      rcases bd (decide (a.seq < b.seq)) with h15 | h15
      · skip
        have h15p := of_decide_eq_false h15
        refine wp_ret ?_; repeat (first | refine then_ret ?_ | refine blk_ret ?_)
        refine ret1 Tryz.results211 ((rfl : _ = (.bool (decide (a.seq < b.seq)) : Value)).trans (congrArg Value.bool h15)) ?_
        exact ⟨(congrArg (fun z => Ending.returned (.bool z)) (by unfold aheadB; simp only [h13, h14, h15, decide_true, decide_false, Bool.true_or, Bool.false_or, Bool.false_and, Bool.true_and, Bool.or_false, Bool.or_true, Bool.and_true, Bool.and_false])), st9.bare⟩
      · skip
        have h15p := of_decide_eq_true h15
        refine wp_ret ?_; repeat (first | refine then_ret ?_ | refine blk_ret ?_)
        refine ret1 Tryz.results211 ((rfl : _ = (.bool (decide (a.seq < b.seq)) : Value)).trans (congrArg Value.bool h15)) ?_
        exact ⟨(congrArg (fun z => Ending.returned (.bool z)) (by unfold aheadB; simp only [h13, h14, h15, decide_true, decide_false, Bool.true_or, Bool.false_or, Bool.false_and, Bool.true_and, Bool.or_false, Bool.or_true, Bool.and_true, Bool.and_false])), st9.bare⟩
  · skip
    have h13p := of_decide_eq_true h13
    iterate 6 refine sx_off (j := 5) (dd := 10) rfl rfl (by decide) (yl_off (e := decide (b.prio < a.prio)) rfl h13) ?_
    iterate 5 refine sx_off rfl rfl (by decide) (yl_und rfl) ?_
    refine sx_off (j := 5) (dd := 10) rfl rfl (by decide) (yl_off (e := decide (b.prio < a.prio)) rfl h13) ?_
    refine sx rfl (stp_pick_t (v := .bool true) ((rfl : _ = (.bool (decide (b.prio < a.prio)) : Value)).trans (congrArg Value.bool h13)) rfl ?_)
    refine sx rfl (stp_assign (v := .bool true) rfl ?_)
    refine sx_nil ?_
    refine wp_ret ?_; repeat (first | refine then_ret ?_ | refine blk_ret ?_)
    refine ret1 Tryz.results211 rfl ?_
    exact ⟨(congrArg (fun z => Ending.returned (.bool z)) (by unfold aheadB; simp only [h13, decide_true, decide_false, Bool.true_or, Bool.false_or, Bool.false_and, Bool.true_and, Bool.or_false, Bool.or_true, Bool.and_true, Bool.and_false])), st9.bare⟩
set_option maxHeartbeats 2000000 in
theorem ShelfOkI (w : World) {v : Value} {xs : List Entry} {fp : List Nat} (h : Sl w v xs fp) :
    Calls Tryz.prog 95 #[v] w fun e w' => e = .returned (.bool (shelfOk xs)) ∧ St w w' [] := by
  have hcap := h.len_le
  refine enter1 Tryz.func95 rfl Tryz.ntmps95 (by decide) ?_
  refine wp_seq ?_
  refine sx_region ?_
  refine sx rfl (stp_assign (v := .bool false) rfl ?_)
  refine sx_nil ?_
  refine wp_seq ?_
  refine wp_seq ?_
  refine sx_region ?_
  refine sx rfl (stp_assign (v := I 1) rfl ?_)
  refine sx_nil ?_
  refine wp_block ?_
  refine sx_loop (fun (m : Nat) (f : Nat → Value) (W : World) => ∃ (k : Nat), 1 ≤ k ∧ (k ≤ xs.length ∨ k = 1) ∧ shelfTo xs k ∧ m = xs.length - k ∧ f 0 = v ∧ f 3 = I (k : Int) ∧ St w W ([])) (xs.length - 1) ?_ ?_
  · exact ⟨1, (by omega), (by omega), (fun i hi => by omega), rfl, rfl, rfl, (St.start w)⟩
  intro m1 f2 W3 hJ4
  obtain ⟨k, hk1, hk, hS, rfl, hs6_0, hs6_3, st5⟩ := hJ4
  refine wp_seq ?_
  refine wp_seq ?_
  refine sx_region ?_
  refine sx rfl (stp_move (v := I (k : Int)) hs6_3 ?_)
  refine sx rfl (stp_move (v := v) hs6_0 ?_)
  refine sx rfl (stp_len sl_EntryS rfl h ?_)
  refine sx rfl (stp_lss rfl rfl ?_)
  refine sx_nil ?_
  refine sx_if rfl (fun h7 => ?_) (fun h7 => ?_)
  · skip
    have h7p := of_decide_eq_true h7
    refine wp_skip ?_
    refine wp_seq ?_
    refine wp_block ?_
    refine wp_seq ?_
    have hid0318 : ((k : Int) - 1).toNat < xs.length := (by omega)
    have hq_ := idx h (i := ((k : Int) - 1).toNat) hid0318
    obtain ⟨b8, o8, cs8, f8, hp8, hr8, hc8, hm8⟩ := hq_
    have hk9 := hc8
    obtain ⟨he9, rfl, hok9⟩ := hk9
    have he9 : _ = [I (xs[((k : Int) - 1).toNat]'hid0318).prio, I (xs[((k : Int) - 1).toNat]'hid0318).seq, I (xs[((k : Int) - 1).toNat]'hid0318).run, I (xs[((k : Int) - 1).toNat]'hid0318).task] := he9
    subst he9
    have hi51fab : k < xs.length := (by omega)
    have hq_ := idx h (i := k) hi51fab
    obtain ⟨b10, o10, cs10, f10, hp10, hr10, hc10, hm10⟩ := hq_
    have hk11 := hc10
    obtain ⟨he11, rfl, hok11⟩ := hk11
    have he11 : _ = [I (xs[k]'hi51fab).prio, I (xs[k]'hi51fab).seq, I (xs[k]'hi51fab).run, I (xs[k]'hi51fab).task] := he11
    subst he11
    refine sx_any [Pl.is (v) (Sl.yl h), Pl.is (I (k : Int)), Pl.is (I ((k : Int) - 1)), Pl.is (.pointer (some ⟨b8, o8, none⟩)), Pl.is (.agg #[I (xs[((k : Int) - 1).toNat]'hid0318).prio, I (xs[((k : Int) - 1).toNat]'hid0318).seq, I (xs[((k : Int) - 1).toNat]'hid0318).run, I (xs[((k : Int) - 1).toNat]'hid0318).task]), Pl.is (v) (Sl.yl h), Pl.is (I (k : Int)), Pl.is (.pointer (some ⟨b10, o10, none⟩)), Pl.is (.agg #[I (xs[k]'hi51fab).prio, I (xs[k]'hi51fab).seq, I (xs[k]'hi51fab).run, I (xs[k]'hi51fab).task]), Pl.bool (aheadB (xs[((k : Int) - 1).toNat]'hid0318) (xs[k]'hi51fab)), Pl.bool (!(aheadB (xs[((k : Int) - 1).toNat]'hid0318) (xs[k]'hi51fab)))] mix (by rfl) st5 ⟨(fun f W hst hbl hd hf => stp_move (v := v) ((hf 0 rfl).trans hs6_0) ⟨Below.refl _ _, rfl⟩), (fun f W hst hbl hd hf => stp_move (v := I (k : Int)) ((hf 3 rfl).trans hs6_3) ⟨Below.refl _ _, rfl⟩), (fun f W hst hbl hd hf => stp_sub (hd 1 11 rfl rfl) rfl (by (simp only [I64] at *; omega)) ⟨Below.refl _ _, rfl⟩), (fun f W hst hbl hd hf => stp_indexAddr sl_EntryS (hd 0 10 rfl rfl) hp8 (hd 2 12 rfl rfl) (by omega) ⟨Below.refl _ _, rfl⟩), (fun f W hst hbl hd hf => stp_load_rgs (cs := [I (xs[((k : Int) - 1).toNat]'hid0318).prio, I (xs[((k : Int) - 1).toNat]'hid0318).seq, I (xs[((k : Int) - 1).toNat]'hid0318).run, I (xs[((k : Int) - 1).toNat]'hid0318).task]) ld_Entry rfl (hd 3 13 rfl rfl) hr8 hst.below (i := 0) rfl rfl rfl ⟨Below.refl _ _, rfl⟩), (fun f W hst hbl hd hf => stp_move (v := v) ((hf 0 rfl).trans hs6_0) ⟨Below.refl _ _, rfl⟩), (fun f W hst hbl hd hf => stp_move (v := I (k : Int)) ((hf 3 rfl).trans hs6_3) ⟨Below.refl _ _, rfl⟩), (fun f W hst hbl hd hf => stp_indexAddr sl_EntryS (hd 5 15 rfl rfl) hp10 (hd 6 16 rfl rfl) rfl ⟨Below.refl _ _, rfl⟩), (fun f W hst hbl hd hf => stp_load_rgs (cs := [I (xs[k]'hi51fab).prio, I (xs[k]'hi51fab).seq, I (xs[k]'hi51fab).run, I (xs[k]'hi51fab).task]) ld_Entry rfl (hd 7 17 rfl rfl) hr10 hst.below (i := 0) rfl rfl rfl ⟨Below.refl _ _, rfl⟩), (fun f W hst hbl hd hf => stp_call2 Tryz.func159 rfl (hd 4 14 rfl rfl) (hd 8 18 rfl rfl) ((AheadI W hc8 hc10).mono (by rintro e W2 ⟨rfl, hk⟩; exact ⟨_, rfl, hk.below, rfl⟩))), (fun f W hst hbl hd hf => stp_not (hd 9 19 rfl rfl) ⟨Below.refl _ _, rfl⟩), trivial⟩ ?_
    intro f12 W13 st14 hb15 hv16 hf17
    refine sx_if (hv16 10 20 (by decide) rfl) (fun h18 => ?_) (fun h18 => ?_)
    · skip
      refine wp_seq ?_
      refine sx_region ?_
      refine sx rfl (stp_assign (v := .bool false) rfl ?_)
      refine sx_nil ?_
      refine wp_ret ?_; repeat (first | refine then_ret ?_ | refine blk_ret ?_)
      refine ret1 Tryz.results95 rfl ?_
      exact ⟨(congrArg (fun z => Ending.returned (.bool z)) (by unfold shelfOk; rw [pB_f (fun hz => shelfTo_bad (k := k) (by omega) (by omega) ((by have hz := bnot_t h18; rw [← hz]; simp only [show ((k : Int) - 1).toNat = k - 1 by omega])) hz.2)])), st14.bare⟩
    · skip
      refine wp_skip ?_
      refine sx_region ?_
      refine sx rfl (stp_move (v := I (k : Int)) ((hf17 3 rfl).trans hs6_3) ?_)
      refine sx rfl (stp_add rfl rfl (by (simp only [I64] at *; omega)) ?_)
      refine sx rfl (stp_assign (v := I ((k : Int) + 1)) rfl ?_)
      refine sx_nil ?_
      exact ⟨_, xs.length - (k + 1), (by omega), rfl, k + 1, (by omega), (by omega), (shelfTo_step (by omega) (by omega) hS (by have hz := bnot_f h18; rw [← hz]; simp only [show ((k : Int) - 1).toNat = k - 1 by omega])), rfl, ((hf17 0 rfl).trans hs6_0), rfl, st14⟩
  · skip
    have h7p := of_decide_eq_false h7
    refine wp_exit ?_
    refine wp_seq ?_
    refine sx_region ?_
    refine sx rfl (stp_move (v := v) hs6_0 ?_)
    refine sx rfl (stp_len sl_EntryS rfl h ?_)
    refine sx rfl (stp_leq rfl rfl ?_)
    refine sx rfl (stp_assign (v := .bool (decide ((xs.length : Int) ≤ 80))) rfl ?_)
    refine sx_nil ?_
    rcases bd (decide ((xs.length : Int) ≤ 80)) with h19 | h19
    · skip
      have h19p := of_decide_eq_false h19
      refine wp_ret ?_; repeat (first | refine then_ret ?_ | refine blk_ret ?_)
      refine ret1 Tryz.results95 ((rfl : _ = (.bool (decide ((xs.length : Int) ≤ 80)) : Value)).trans (congrArg Value.bool h19)) ?_
      exact ⟨(congrArg (fun z => Ending.returned (.bool z)) (by unfold shelfOk; rw [pB_f (fun hz => by omega)])), st5.bare⟩
    · skip
      have h19p := of_decide_eq_true h19
      refine wp_ret ?_; repeat (first | refine then_ret ?_ | refine blk_ret ?_)
      refine ret1 Tryz.results95 ((rfl : _ = (.bool (decide ((xs.length : Int) ≤ 80)) : Value)).trans (congrArg Value.bool h19)) ?_
      exact ⟨(congrArg (fun z => Ending.returned (.bool z)) (by unfold shelfOk; rw [pB_t ⟨by omega, by intro i hi hx; exact hS i (by omega) hx⟩])), st5.bare⟩
set_option maxHeartbeats 2000000 in
theorem ShelfOkS (w : World) {v : Value} {xs : List Entry} {fp : List Nat} (h : Sl w v xs fp) :
    Calls Tryz.prog 154 #[v] w fun e w' => e = .returned (.bool (shelfOk xs)) ∧ St w w' [] := by
  have hcap := h.len_le
  refine enter1 Tryz.func154 rfl Tryz.ntmps154 (by decide) ?_
  refine wp_seq ?_
  refine sx_region ?_
  refine sx rfl (stp_assign (v := .bool false) rfl ?_)
  refine sx_nil ?_
  refine wp_seq ?_
  refine wp_seq ?_
  refine sx_region ?_
  refine sx rfl (stp_move (v := v) rfl ?_)
  refine sx rfl (stp_len sl_EntryS rfl h ?_)
  refine sx rfl (stp_gtr rfl rfl ?_)
  refine sx_nil ?_
  refine sx_if rfl (fun h1 => ?_) (fun h1 => ?_)
  · skip
    have h1p := of_decide_eq_true h1
    refine wp_seq ?_
    refine sx_region ?_
    refine sx rfl (stp_assign (v := .bool false) rfl ?_)
    refine sx_nil ?_
    refine wp_ret ?_; repeat (first | refine then_ret ?_ | refine blk_ret ?_)
    refine ret1 Tryz.results154 rfl ?_
    exact ⟨(congrArg (fun z => Ending.returned (.bool z)) (by unfold shelfOk; rw [pB_f (fun hz => by omega)])), (St.start w).bare⟩
  · skip
    have h1p := of_decide_eq_false h1
    refine wp_skip ?_
    refine wp_seq ?_
    refine wp_seq ?_
    refine sx_region ?_
    refine sx rfl (stp_assign (v := I 1) rfl ?_)
    refine sx_nil ?_
    refine wp_block ?_
    refine sx_loop (fun (m : Nat) (f : Nat → Value) (W : World) => ∃ (k : Nat), 1 ≤ k ∧ (k ≤ xs.length ∨ k = 1) ∧ shelfTo xs k ∧ m = xs.length - k ∧ f 0 = v ∧ f 3 = I (k : Int) ∧ St w W ([])) (xs.length - 1) ?_ ?_
    · exact ⟨1, (by omega), (by omega), (fun i hi => by omega), rfl, rfl, rfl, (St.start w)⟩
    intro m2 f3 W4 hJ5
    obtain ⟨k, hk1, hk, hS, rfl, hs7_0, hs7_3, st6⟩ := hJ5
    refine wp_seq ?_
    refine wp_seq ?_
    refine sx_region ?_
    refine sx rfl (stp_move (v := I (k : Int)) hs7_3 ?_)
    refine sx rfl (stp_move (v := v) hs7_0 ?_)
    refine sx rfl (stp_len sl_EntryS rfl h ?_)
    refine sx rfl (stp_lss rfl rfl ?_)
    refine sx_nil ?_
    refine sx_if rfl (fun h8 => ?_) (fun h8 => ?_)
    · skip
      have h8p := of_decide_eq_true h8
      refine wp_skip ?_
      refine wp_seq ?_
      refine wp_block ?_
      refine wp_seq ?_
      have hid0318 : ((k : Int) - 1).toNat < xs.length := (by omega)
      have hq_ := idx h (i := ((k : Int) - 1).toNat) hid0318
      obtain ⟨b9, o9, cs9, f9, hp9, hr9, hc9, hm9⟩ := hq_
      have hk10 := hc9
      obtain ⟨he10, rfl, hok10⟩ := hk10
      have he10 : _ = [I (xs[((k : Int) - 1).toNat]'hid0318).prio, I (xs[((k : Int) - 1).toNat]'hid0318).seq, I (xs[((k : Int) - 1).toNat]'hid0318).run, I (xs[((k : Int) - 1).toNat]'hid0318).task] := he10
      subst he10
      have hi51fab : k < xs.length := (by omega)
      have hq_ := idx h (i := k) hi51fab
      obtain ⟨b11, o11, cs11, f11, hp11, hr11, hc11, hm11⟩ := hq_
      have hk12 := hc11
      obtain ⟨he12, rfl, hok12⟩ := hk12
      have he12 : _ = [I (xs[k]'hi51fab).prio, I (xs[k]'hi51fab).seq, I (xs[k]'hi51fab).run, I (xs[k]'hi51fab).task] := he12
      subst he12
      refine sx_any [Pl.is (v) (Sl.yl h), Pl.is (I (k : Int)), Pl.is (I ((k : Int) - 1)), Pl.is (.pointer (some ⟨b9, o9, none⟩)), Pl.is (.agg #[I (xs[((k : Int) - 1).toNat]'hid0318).prio, I (xs[((k : Int) - 1).toNat]'hid0318).seq, I (xs[((k : Int) - 1).toNat]'hid0318).run, I (xs[((k : Int) - 1).toNat]'hid0318).task]), Pl.is (v) (Sl.yl h), Pl.is (I (k : Int)), Pl.is (.pointer (some ⟨b11, o11, none⟩)), Pl.is (.agg #[I (xs[k]'hi51fab).prio, I (xs[k]'hi51fab).seq, I (xs[k]'hi51fab).run, I (xs[k]'hi51fab).task]), Pl.bool (aheadB (xs[((k : Int) - 1).toNat]'hid0318) (xs[k]'hi51fab)), Pl.bool (!(aheadB (xs[((k : Int) - 1).toNat]'hid0318) (xs[k]'hi51fab)))] mix (by rfl) st6 ⟨(fun f W hst hbl hd hf => stp_move (v := v) ((hf 0 rfl).trans hs7_0) ⟨Below.refl _ _, rfl⟩), (fun f W hst hbl hd hf => stp_move (v := I (k : Int)) ((hf 3 rfl).trans hs7_3) ⟨Below.refl _ _, rfl⟩), (fun f W hst hbl hd hf => stp_sub (hd 1 14 rfl rfl) rfl (by (simp only [I64] at *; omega)) ⟨Below.refl _ _, rfl⟩), (fun f W hst hbl hd hf => stp_indexAddr sl_EntryS (hd 0 13 rfl rfl) hp9 (hd 2 15 rfl rfl) (by omega) ⟨Below.refl _ _, rfl⟩), (fun f W hst hbl hd hf => stp_load_rgs (cs := [I (xs[((k : Int) - 1).toNat]'hid0318).prio, I (xs[((k : Int) - 1).toNat]'hid0318).seq, I (xs[((k : Int) - 1).toNat]'hid0318).run, I (xs[((k : Int) - 1).toNat]'hid0318).task]) ld_Entry rfl (hd 3 16 rfl rfl) hr9 hst.below (i := 0) rfl rfl rfl ⟨Below.refl _ _, rfl⟩), (fun f W hst hbl hd hf => stp_move (v := v) ((hf 0 rfl).trans hs7_0) ⟨Below.refl _ _, rfl⟩), (fun f W hst hbl hd hf => stp_move (v := I (k : Int)) ((hf 3 rfl).trans hs7_3) ⟨Below.refl _ _, rfl⟩), (fun f W hst hbl hd hf => stp_indexAddr sl_EntryS (hd 5 18 rfl rfl) hp11 (hd 6 19 rfl rfl) rfl ⟨Below.refl _ _, rfl⟩), (fun f W hst hbl hd hf => stp_load_rgs (cs := [I (xs[k]'hi51fab).prio, I (xs[k]'hi51fab).seq, I (xs[k]'hi51fab).run, I (xs[k]'hi51fab).task]) ld_Entry rfl (hd 7 20 rfl rfl) hr11 hst.below (i := 0) rfl rfl rfl ⟨Below.refl _ _, rfl⟩), (fun f W hst hbl hd hf => stp_call2 Tryz.func211 rfl (hd 4 17 rfl rfl) (hd 8 21 rfl rfl) ((AheadS W hc9 hc11).mono (by rintro e W2 ⟨rfl, hk⟩; exact ⟨_, rfl, hk.below, rfl⟩))), (fun f W hst hbl hd hf => stp_not (hd 9 22 rfl rfl) ⟨Below.refl _ _, rfl⟩), trivial⟩ ?_
      intro f13 W14 st15 hb16 hv17 hf18
      refine sx_if (hv17 10 23 (by decide) rfl) (fun h19 => ?_) (fun h19 => ?_)
      · skip
        refine wp_seq ?_
        refine sx_region ?_
        refine sx rfl (stp_assign (v := .bool false) rfl ?_)
        refine sx_nil ?_
        refine wp_ret ?_; repeat (first | refine then_ret ?_ | refine blk_ret ?_)
        refine ret1 Tryz.results154 rfl ?_
        exact ⟨(congrArg (fun z => Ending.returned (.bool z)) (by unfold shelfOk; rw [pB_f (fun hz => shelfTo_bad (k := k) (by omega) (by omega) ((by have hz := bnot_t h19; rw [← hz]; simp only [show ((k : Int) - 1).toNat = k - 1 by omega])) hz.2)])), st15.bare⟩
      · skip
        refine wp_skip ?_
        refine sx_region ?_
        refine sx rfl (stp_move (v := I (k : Int)) ((hf18 3 rfl).trans hs7_3) ?_)
        refine sx rfl (stp_add rfl rfl (by (simp only [I64] at *; omega)) ?_)
        refine sx rfl (stp_assign (v := I ((k : Int) + 1)) rfl ?_)
        refine sx_nil ?_
        exact ⟨_, xs.length - (k + 1), (by omega), rfl, k + 1, (by omega), (by omega), (shelfTo_step (by omega) (by omega) hS (by have hz := bnot_f h19; rw [← hz]; simp only [show ((k : Int) - 1).toNat = k - 1 by omega])), rfl, ((hf18 0 rfl).trans hs7_0), rfl, st15⟩
    · skip
      have h8p := of_decide_eq_false h8
      refine wp_exit ?_
      refine wp_seq ?_
      refine sx_region ?_
      refine sx rfl (stp_assign (v := .bool true) rfl ?_)
      refine sx_nil ?_
      refine wp_ret ?_; repeat (first | refine then_ret ?_ | refine blk_ret ?_)
      refine ret1 Tryz.results154 rfl ?_
      exact ⟨(congrArg (fun z => Ending.returned (.bool z)) (by unfold shelfOk; rw [pB_t ⟨by omega, by intro i hi hx; exact hS i (by omega) hx⟩])), st6.bare⟩
end Go.Proofs.YtchnllpegfbleaaGreat
