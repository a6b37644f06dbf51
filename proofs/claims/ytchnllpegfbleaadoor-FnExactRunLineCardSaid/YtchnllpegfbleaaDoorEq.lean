/-
  The laws' comparisons. (Printed by a program of this project's.)
-/
import Derived.Test.YtchnllpegfbleaaDoorSxStr
import Derived.Test.YtchnllpegfbleaaDoorKBase
namespace Go.Proofs.YtchnllpegfbleaaDoor
set_option linter.unusedSimpArgs false
set_option linter.unusedVariables false
set_option maxRecDepth 100000
open Go.RowKit

theorem Edge_ext {x y : Edge} (h0 : x.from_ = y.from_) (h1 : x.to_ = y.to_) : x = y := by
  cases x; cases y; simp only at *; subst_vars; rfl
set_option maxHeartbeats 2000000 in
theorem eqEdge_n (w : World) {x y : Edge} {cs ds : List Value} {fp gp : List Nat} (hc : Shape.C w cs x fp) (hd : Shape.C w ds y gp) :
    Calls Tryd.prog 69 #[.agg cs.toArray, .agg ds.toArray] w fun e w' => e = .returned (.bool (eqB x y)) ∧ St w w' [] := by
  refine enter2 Tryd.func69 rfl Tryd.ntmps69 (by decide) ?_
  refine wp_seq ?_
  refine sx_region ?_
  refine sx rfl (stp_box_agg (cs := cs) rfl (St.start w) ?_); intro b1 W2 hb3 st4
  refine sx rfl (stp_box_agg (cs := ds) rfl st4 ?_); intro b6 W7 hb8 st9
  refine sx rfl (stp_assign (v := .bool false) rfl ?_)
  refine sx_nil ?_
  refine wp_seq ?_
  refine wp_seq ?_
  refine sx_region ?_
  refine sx rfl (stp_fieldAddr fa_Edge_0 rfl ?_)
  have hk11 := hc
  obtain ⟨he11, rfl, hok11⟩ := hk11
  have he11 : _ = [I x.from_, I x.to_] := he11
  subst he11
  refine sx rfl (stp_load_bx ld_int rfl rfl (st9.get 1 rfl) (i := 0) rfl rfl ?_)
  refine sx rfl (stp_fieldAddr fa_Edge_0 rfl ?_)
  have hk12 := hd
  obtain ⟨he12, rfl, hok12⟩ := hk12
  have he12 : _ = [I y.from_, I y.to_] := he12
  subst he12
  refine sx rfl (stp_load_bx ld_int rfl rfl (st9.get 0 rfl) (i := 0) rfl rfl ?_)
  refine sx rfl (stp_neq rfl rfl ?_)
  refine sx_nil ?_
  refine sx_if rfl (fun h13 => ?_) (fun h13 => ?_)
  · skip
    have h13p := of_decide_eq_false (bnot_t h13)
    refine wp_seq ?_
    refine sx_region ?_
    refine sx rfl (stp_assign (v := .bool false) rfl ?_)
    refine sx_nil ?_
    refine wp_ret ?_; repeat (first | refine then_ret ?_ | refine blk_ret ?_)
    refine ret1 Tryd.results69 rfl ?_
    exact ⟨congrArg (fun z => Ending.returned (.bool z)) (eqB_f (fun e => by subst e; first | exact h13p rfl | exact absurd (bnot_t h13) (by rw [eqB_t rfl]; decide) | exact absurd (bnot_t h13) (by simp))).symm, st9.bare⟩
  · skip
    have h13p := of_decide_eq_true (bnot_f h13)
    refine wp_skip ?_
    refine wp_seq ?_
    refine wp_seq ?_
    refine sx_region ?_
    refine sx rfl (stp_fieldAddr fa_Edge_1 rfl ?_)
    refine sx rfl (stp_load_bx ld_int rfl rfl (st9.get 1 rfl) (i := 1) rfl rfl ?_)
    refine sx rfl (stp_fieldAddr fa_Edge_1 rfl ?_)
    refine sx rfl (stp_load_bx ld_int rfl rfl (st9.get 0 rfl) (i := 1) rfl rfl ?_)
    refine sx rfl (stp_neq rfl rfl ?_)
    refine sx_nil ?_
    refine sx_if rfl (fun h14 => ?_) (fun h14 => ?_)
    · skip
      have h14p := of_decide_eq_false (bnot_t h14)
      refine wp_seq ?_
      refine sx_region ?_
      refine sx rfl (stp_assign (v := .bool false) rfl ?_)
      refine sx_nil ?_
      refine wp_ret ?_; repeat (first | refine then_ret ?_ | refine blk_ret ?_)
      refine ret1 Tryd.results69 rfl ?_
      exact ⟨congrArg (fun z => Ending.returned (.bool z)) (eqB_f (fun e => by subst e; first | exact h14p rfl | exact absurd (bnot_t h14) (by rw [eqB_t rfl]; decide) | exact absurd (bnot_t h14) (by simp))).symm, st9.bare⟩
    · skip
      have h14p := of_decide_eq_true (bnot_f h14)
      refine wp_skip ?_
      refine wp_seq ?_
      refine sx_region ?_
      refine sx rfl (stp_assign (v := .bool true) rfl ?_)
      refine sx_nil ?_
      refine wp_ret ?_; repeat (first | refine then_ret ?_ | refine blk_ret ?_)
      refine ret1 Tryd.results69 rfl ?_
      exact ⟨congrArg (fun z => Ending.returned (.bool z)) (eqB_t (Edge_ext h13p h14p)).symm, st9.bare⟩
set_option maxHeartbeats 2000000 in
theorem eqEdgeS_n (w : World) {v u : Value} {xs ys : List Edge} {fp gp : List Nat} (h : Sl w v xs fp) (g : Sl w u ys gp) :
    Calls Tryd.prog 54 #[v, u] w fun e w' => e = .returned (.bool (eqB xs ys)) ∧ St w w' [] := by
  have hcap := h.len_le
  have hcap2 := g.len_le
  refine enter2 Tryd.func54 rfl Tryd.ntmps54 (by decide) ?_
  refine wp_seq ?_
  refine sx_region ?_
  refine sx rfl (stp_assign (v := .bool false) rfl ?_)
  refine sx_nil ?_
  refine wp_seq ?_
  refine wp_seq ?_
  refine sx_region ?_
  refine sx rfl (stp_move (v := v) rfl ?_)
  refine sx rfl (stp_len sl_EdgeS rfl h ?_)
  refine sx rfl (stp_move (v := u) rfl ?_)
  refine sx rfl (stp_len sl_EdgeS rfl g ?_)
  refine sx rfl (stp_neq rfl rfl ?_)
  refine sx_nil ?_
  refine sx_if rfl (fun h1 => ?_) (fun h1 => ?_)
  · skip
    have h1p := of_decide_eq_false (bnot_t h1)
    refine wp_seq ?_
    refine sx_region ?_
    refine sx rfl (stp_assign (v := .bool false) rfl ?_)
    refine sx_nil ?_
    refine wp_ret ?_; repeat (first | refine then_ret ?_ | refine blk_ret ?_)
    refine ret1 Tryd.results54 rfl ?_
    exact ⟨congrArg (fun z => Ending.returned (.bool z)) (eqB_f (fun e => h1p (by rw [e]))).symm, (St.start w).bare⟩
  · skip
    have h1p := of_decide_eq_true (bnot_f h1)
    refine wp_skip ?_
    refine wp_seq ?_
    refine wp_seq ?_
    refine sx_region ?_
    refine sx rfl (stp_assign (v := I 0) rfl ?_)
    refine sx_nil ?_
    refine wp_block ?_
    refine sx_loop (fun (m : Nat) (f : Nat → Value) (W : World) => ∃ (k : Nat), k ≤ xs.length ∧ xs.take k = ys.take k ∧ m = xs.length - k ∧ f 0 = v ∧ f 1 = u ∧ f 5 = I (k : Int) ∧ St w W ([])) (xs.length - 0) ?_ ?_
    · exact ⟨0, Nat.zero_le _, rfl, rfl, rfl, rfl, rfl, (St.start w)⟩
    intro m2 f3 W4 hJ5
    obtain ⟨k, hk, htk, rfl, hs7_0, hs7_1, hs7_5, st6⟩ := hJ5
    refine wp_seq ?_
    refine wp_seq ?_
    refine sx_region ?_
    refine sx rfl (stp_move (v := I (k : Int)) hs7_5 ?_)
    refine sx rfl (stp_move (v := v) hs7_0 ?_)
    refine sx rfl (stp_len sl_EdgeS rfl h ?_)
    refine sx rfl (stp_lss rfl rfl ?_)
    refine sx_nil ?_
    refine sx_if rfl (fun h8 => ?_) (fun h8 => ?_)
    · skip
      have h8p := of_decide_eq_true h8
      refine wp_skip ?_
      refine wp_seq ?_
      refine wp_block ?_
      refine wp_seq ?_
      have hi51fab : k < xs.length := (by omega)
      have hq_ := idx h (i := k) hi51fab
      obtain ⟨b9, o9, cs9, f9, hp9, hr9, hc9, hm9⟩ := hq_
      have hk10 := hc9
      obtain ⟨he10, rfl, hok10⟩ := hk10
      have he10 : _ = [I (xs[k]'hi51fab).from_, I (xs[k]'hi51fab).to_] := he10
      subst he10
      have hi28e79 : k < ys.length := (by omega)
      have hq_ := idx g (i := k) hi28e79
      obtain ⟨b11, o11, cs11, f11, hp11, hr11, hc11, hm11⟩ := hq_
      have hk12 := hc11
      obtain ⟨he12, rfl, hok12⟩ := hk12
      have he12 : _ = [I (ys[k]'hi28e79).from_, I (ys[k]'hi28e79).to_] := he12
      subst he12
      refine sx_any [Pl.is (v) (Sl.yl h), Pl.is (I (k : Int)), Pl.is (.pointer (some ⟨b9, o9, none⟩)), Pl.is (.agg #[I (xs[k]'hi51fab).from_, I (xs[k]'hi51fab).to_]), Pl.is (u) (Sl.yl g), Pl.is (I (k : Int)), Pl.is (.pointer (some ⟨b11, o11, none⟩)), Pl.is (.agg #[I (ys[k]'hi28e79).from_, I (ys[k]'hi28e79).to_]), Pl.bool (eqB (xs[k]'hi51fab) (ys[k]'hi28e79)), Pl.bool (!(eqB (xs[k]'hi51fab) (ys[k]'hi28e79)))] mix (by rfl) st6 ⟨(fun f W hst hbl hd hf => stp_move (v := v) ((hf 0 rfl).trans hs7_0) ⟨Below.refl _ _, rfl⟩), (fun f W hst hbl hd hf => stp_move (v := I (k : Int)) ((hf 5 rfl).trans hs7_5) ⟨Below.refl _ _, rfl⟩), (fun f W hst hbl hd hf => stp_indexAddr sl_EdgeS (hd 0 17 rfl rfl) hp9 (hd 1 18 rfl rfl) rfl ⟨Below.refl _ _, rfl⟩), (fun f W hst hbl hd hf => stp_load_rgs (cs := [I (xs[k]'hi51fab).from_, I (xs[k]'hi51fab).to_]) ld_Edge rfl (hd 2 19 rfl rfl) hr9 hst.below (i := 0) rfl rfl rfl ⟨Below.refl _ _, rfl⟩), (fun f W hst hbl hd hf => stp_move (v := u) ((hf 1 rfl).trans hs7_1) ⟨Below.refl _ _, rfl⟩), (fun f W hst hbl hd hf => stp_move (v := I (k : Int)) ((hf 5 rfl).trans hs7_5) ⟨Below.refl _ _, rfl⟩), (fun f W hst hbl hd hf => stp_indexAddr sl_EdgeS (hd 4 21 rfl rfl) hp11 (hd 5 22 rfl rfl) rfl ⟨Below.refl _ _, rfl⟩), (fun f W hst hbl hd hf => stp_load_rgs (cs := [I (ys[k]'hi28e79).from_, I (ys[k]'hi28e79).to_]) ld_Edge rfl (hd 6 23 rfl rfl) hr11 hst.below (i := 0) rfl rfl rfl ⟨Below.refl _ _, rfl⟩), (fun f W hst hbl hd hf => stp_call2 Tryd.func69 rfl (hd 3 20 rfl rfl) (hd 7 24 rfl rfl) ((eqEdge_n W hc9 hc11).mono (by rintro e W2 ⟨rfl, hk⟩; exact ⟨_, rfl, hk.below, rfl⟩))), (fun f W hst hbl hd hf => stp_not (hd 8 25 rfl rfl) ⟨Below.refl _ _, rfl⟩), trivial⟩ ?_
      intro f13 W14 st15 hb16 hv17 hf18
      refine sx_if (hv17 9 26 (by decide) rfl) (fun h19 => ?_) (fun h19 => ?_)
      · skip
        refine wp_seq ?_
        refine sx_region ?_
        refine sx rfl (stp_assign (v := .bool false) rfl ?_)
        refine sx_nil ?_
        refine wp_ret ?_; repeat (first | refine then_ret ?_ | refine blk_ret ?_)
        refine ret1 Tryd.results54 rfl ?_
        have hne : ¬ xs[k] = ys[k]'(by omega) := fun e => absurd (bnot_t h19) (by rw [eqB_t e]; decide)
        exact ⟨congrArg (fun z => Ending.returned (.bool z)) (eqB_f (fun e => hne (by subst e; rfl))).symm, st15.bare⟩
      · skip
        refine wp_skip ?_
        refine sx_region ?_
        refine sx rfl (stp_move (v := I (k : Int)) ((hf18 5 rfl).trans hs7_5) ?_)
        refine sx rfl (stp_add rfl rfl (by (simp only [I64] at *; omega)) ?_)
        refine sx rfl (stp_assign (v := I ((k : Int) + 1)) rfl ?_)
        refine sx_nil ?_
        exact ⟨_, xs.length - (k + 1), (by omega), rfl, k + 1, (by omega), (take_eq_succ (by omega) (by omega) htk (eqB_iff.1 (bnot_f h19))), rfl, ((hf18 0 rfl).trans hs7_0), ((hf18 1 rfl).trans hs7_1), rfl, st15⟩
    · skip
      have h8p := of_decide_eq_false h8
      refine wp_exit ?_
      refine wp_seq ?_
      refine sx_region ?_
      refine sx rfl (stp_assign (v := .bool true) rfl ?_)
      refine sx_nil ?_
      refine wp_ret ?_; repeat (first | refine then_ret ?_ | refine blk_ret ?_)
      refine ret1 Tryd.results54 rfl ?_
      obtain rfl : k = xs.length := by omega
      rw [List.take_length, List.take_of_length_le (by omega)] at htk
      exact ⟨congrArg (fun z => Ending.returned (.bool z)) (eqB_t htk).symm, st6.bare⟩
theorem Plan_ext {x y : Plan} (h0 : x.prio = y.prio) (h1 : x.most = y.most) (h2 : x.wait = y.wait) (h3 : x.tasks = y.tasks) (h4 : x.edges = y.edges) : x = y := by
  cases x; cases y; simp only at *; subst_vars; rfl
set_option maxHeartbeats 2000000 in
theorem eqPlan_n (w : World) {x y : Plan} {cs ds : List Value} {fp gp : List Nat} (hc : Shape.C w cs x fp) (hd : Shape.C w ds y gp) :
    Calls Tryd.prog 33 #[.agg cs.toArray, .agg ds.toArray] w fun e w' => e = .returned (.bool (eqB x y)) ∧ St w w' [] := by
  refine enter2 Tryd.func33 rfl Tryd.ntmps33 (by decide) ?_
  refine wp_seq ?_
  refine sx_region ?_
  refine sx rfl (stp_box_agg (cs := cs) rfl (St.start w) ?_); intro b1 W2 hb3 st4
  refine sx rfl (stp_box_agg (cs := ds) rfl st4 ?_); intro b6 W7 hb8 st9
  refine sx rfl (stp_assign (v := .bool false) rfl ?_)
  refine sx_nil ?_
  refine wp_seq ?_
  refine wp_seq ?_
  refine sx_region ?_
  refine sx rfl (stp_fieldAddr fa_Plan_0 rfl ?_)
  have hk11 := hc
  obtain ⟨v11_0, g11_0, rfl, hok11, h11_0, rfl⟩ := hk11
  refine sx rfl (stp_load_bx ld_int rfl rfl (st9.get 1 rfl) (i := 0) rfl rfl ?_)
  refine sx rfl (stp_fieldAddr fa_Plan_0 rfl ?_)
  have hk12 := hd
  obtain ⟨v12_0, g12_0, rfl, hok12, h12_0, rfl⟩ := hk12
  refine sx rfl (stp_load_bx ld_int rfl rfl (st9.get 0 rfl) (i := 0) rfl rfl ?_)
  refine sx rfl (stp_neq rfl rfl ?_)
  refine sx_nil ?_
  refine sx_if rfl (fun h13 => ?_) (fun h13 => ?_)
  · skip
    have h13p := of_decide_eq_false (bnot_t h13)
    refine wp_seq ?_
    refine sx_region ?_
    refine sx rfl (stp_assign (v := .bool false) rfl ?_)
    refine sx_nil ?_
    refine wp_ret ?_; repeat (first | refine then_ret ?_ | refine blk_ret ?_)
    refine ret1 Tryd.results33 rfl ?_
    exact ⟨congrArg (fun z => Ending.returned (.bool z)) (eqB_f (fun e => by subst e; first | exact h13p rfl | exact absurd (bnot_t h13) (by rw [eqB_t rfl]; decide) | exact absurd (bnot_t h13) (by simp))).symm, st9.bare⟩
  · skip
    have h13p := of_decide_eq_true (bnot_f h13)
    refine wp_skip ?_
    refine wp_seq ?_
    refine wp_seq ?_
    refine sx_region ?_
    refine sx rfl (stp_fieldAddr fa_Plan_1 rfl ?_)
    refine sx rfl (stp_load_bx ld_int rfl rfl (st9.get 1 rfl) (i := 1) rfl rfl ?_)
    refine sx rfl (stp_fieldAddr fa_Plan_1 rfl ?_)
    refine sx rfl (stp_load_bx ld_int rfl rfl (st9.get 0 rfl) (i := 1) rfl rfl ?_)
    refine sx rfl (stp_neq rfl rfl ?_)
    refine sx_nil ?_
    refine sx_if rfl (fun h14 => ?_) (fun h14 => ?_)
    · skip
      have h14p := of_decide_eq_false (bnot_t h14)
      refine wp_seq ?_
      refine sx_region ?_
      refine sx rfl (stp_assign (v := .bool false) rfl ?_)
      refine sx_nil ?_
      refine wp_ret ?_; repeat (first | refine then_ret ?_ | refine blk_ret ?_)
      refine ret1 Tryd.results33 rfl ?_
      exact ⟨congrArg (fun z => Ending.returned (.bool z)) (eqB_f (fun e => by subst e; first | exact h14p rfl | exact absurd (bnot_t h14) (by rw [eqB_t rfl]; decide) | exact absurd (bnot_t h14) (by simp))).symm, st9.bare⟩
    · skip
      have h14p := of_decide_eq_true (bnot_f h14)
      refine wp_skip ?_
      refine wp_seq ?_
      refine wp_seq ?_
      refine sx_region ?_
      refine sx rfl (stp_fieldAddr fa_Plan_2 rfl ?_)
      refine sx rfl (stp_load_bx ld_int rfl rfl (st9.get 1 rfl) (i := 2) rfl rfl ?_)
      refine sx rfl (stp_fieldAddr fa_Plan_2 rfl ?_)
      refine sx rfl (stp_load_bx ld_int rfl rfl (st9.get 0 rfl) (i := 2) rfl rfl ?_)
      refine sx rfl (stp_neq rfl rfl ?_)
      refine sx_nil ?_
      refine sx_if rfl (fun h15 => ?_) (fun h15 => ?_)
      · skip
        have h15p := of_decide_eq_false (bnot_t h15)
        refine wp_seq ?_
        refine sx_region ?_
        refine sx rfl (stp_assign (v := .bool false) rfl ?_)
        refine sx_nil ?_
        refine wp_ret ?_; repeat (first | refine then_ret ?_ | refine blk_ret ?_)
        refine ret1 Tryd.results33 rfl ?_
        exact ⟨congrArg (fun z => Ending.returned (.bool z)) (eqB_f (fun e => by subst e; first | exact h15p rfl | exact absurd (bnot_t h15) (by rw [eqB_t rfl]; decide) | exact absurd (bnot_t h15) (by simp))).symm, st9.bare⟩
      · skip
        have h15p := of_decide_eq_true (bnot_f h15)
        refine wp_skip ?_
        refine wp_seq ?_
        refine wp_seq ?_
        refine sx_region ?_
        refine sx rfl (stp_fieldAddr fa_Plan_3 rfl ?_)
        refine sx rfl (stp_load_bx ld_int rfl rfl (st9.get 1 rfl) (i := 3) rfl rfl ?_)
        refine sx rfl (stp_fieldAddr fa_Plan_3 rfl ?_)
        refine sx rfl (stp_load_bx ld_int rfl rfl (st9.get 0 rfl) (i := 3) rfl rfl ?_)
        refine sx rfl (stp_neq rfl rfl ?_)
        refine sx_nil ?_
        refine sx_if rfl (fun h16 => ?_) (fun h16 => ?_)
        · skip
          have h16p := of_decide_eq_false (bnot_t h16)
          refine wp_seq ?_
          refine sx_region ?_
          refine sx rfl (stp_assign (v := .bool false) rfl ?_)
          refine sx_nil ?_
          refine wp_ret ?_; repeat (first | refine then_ret ?_ | refine blk_ret ?_)
          refine ret1 Tryd.results33 rfl ?_
          exact ⟨congrArg (fun z => Ending.returned (.bool z)) (eqB_f (fun e => by subst e; first | exact h16p rfl | exact absurd (bnot_t h16) (by rw [eqB_t rfl]; decide) | exact absurd (bnot_t h16) (by simp))).symm, st9.bare⟩
        · skip
          have h16p := of_decide_eq_true (bnot_f h16)
          refine wp_skip ?_
          refine wp_seq ?_
          refine wp_seq ?_
          refine sx_region ?_
          refine sx rfl (stp_fieldAddr fa_Plan_4 rfl ?_)
          refine sx rfl (stp_load_bx ld_EdgeS rfl rfl (st9.get 1 rfl) (i := 4) rfl rfl ?_)
          refine sx rfl (stp_fieldAddr fa_Plan_4 rfl ?_)
          refine sx rfl (stp_load_bx ld_EdgeS rfl rfl (st9.get 0 rfl) (i := 4) rfl rfl ?_)
          refine sx rfl (stp_call2 Tryd.func54 rfl rfl rfl ((eqEdgeS_n W7 (h11_0.below st9.below) (h12_0.below st9.below)).mono ?_)); rintro _ W17 ⟨rfl, hk18⟩; refine ⟨_, rfl, ?_⟩
          have st19 := St.call st9 hk18
          refine sx rfl (stp_not rfl ?_)
          refine sx_nil ?_
          refine sx_if rfl (fun h21 => ?_) (fun h21 => ?_)
          · skip
            refine wp_seq ?_
            refine sx_region ?_
            refine sx rfl (stp_assign (v := .bool false) rfl ?_)
            refine sx_nil ?_
            refine wp_ret ?_; repeat (first | refine then_ret ?_ | refine blk_ret ?_)
            refine ret1 Tryd.results33 rfl ?_
            exact ⟨congrArg (fun z => Ending.returned (.bool z)) (eqB_f (fun e => by subst e; first | exact absurd (bnot_t h21) (by rw [eqB_t rfl]; decide) | exact absurd (bnot_t h21) (by simp))).symm, st19.bare⟩
          · skip
            refine wp_skip ?_
            refine wp_seq ?_
            refine sx_region ?_
            refine sx rfl (stp_assign (v := .bool true) rfl ?_)
            refine sx_nil ?_
            refine wp_ret ?_; repeat (first | refine then_ret ?_ | refine blk_ret ?_)
            refine ret1 Tryd.results33 rfl ?_
            exact ⟨congrArg (fun z => Ending.returned (.bool z)) (eqB_t (Plan_ext h13p h14p h15p h16p (eqB_iff.1 (bnot_f h21)))).symm, st19.bare⟩
theorem Task_ext {x y : Task} (h0 : x.state = y.state) (h1 : x.need = y.need) (h2 : x.try_ = y.try_) (h3 : x.until_ = y.until_) : x = y := by
  cases x; cases y; simp only at *; subst_vars; rfl
set_option maxHeartbeats 2000000 in
theorem eqTask_n (w : World) {x y : Task} {cs ds : List Value} {fp gp : List Nat} (hc : Shape.C w cs x fp) (hd : Shape.C w ds y gp) :
    Calls Tryd.prog 55 #[.agg cs.toArray, .agg ds.toArray] w fun e w' => e = .returned (.bool (eqB x y)) ∧ St w w' [] := by
  refine enter2 Tryd.func55 rfl Tryd.ntmps55 (by decide) ?_
  refine wp_seq ?_
  refine sx_region ?_
  refine sx rfl (stp_box_agg (cs := cs) rfl (St.start w) ?_); intro b1 W2 hb3 st4
  refine sx rfl (stp_box_agg (cs := ds) rfl st4 ?_); intro b6 W7 hb8 st9
  refine sx rfl (stp_assign (v := .bool false) rfl ?_)
  refine sx_nil ?_
  refine wp_seq ?_
  refine wp_seq ?_
  refine sx_region ?_
  refine sx rfl (stp_fieldAddr fa_Task_0 rfl ?_)
  have hk11 := hc
  obtain ⟨he11, rfl, hok11⟩ := hk11
  have he11 : _ = [I x.state, I x.need, I x.try_, I x.until_] := he11
  subst he11
  refine sx rfl (stp_load_bx ld_int rfl rfl (st9.get 1 rfl) (i := 0) rfl rfl ?_)
  refine sx rfl (stp_fieldAddr fa_Task_0 rfl ?_)
  have hk12 := hd
  obtain ⟨he12, rfl, hok12⟩ := hk12
  have he12 : _ = [I y.state, I y.need, I y.try_, I y.until_] := he12
  subst he12
  refine sx rfl (stp_load_bx ld_int rfl rfl (st9.get 0 rfl) (i := 0) rfl rfl ?_)
  refine sx rfl (stp_neq rfl rfl ?_)
  refine sx_nil ?_
  refine sx_if rfl (fun h13 => ?_) (fun h13 => ?_)
  · skip
    have h13p := of_decide_eq_false (bnot_t h13)
    refine wp_seq ?_
    refine sx_region ?_
    refine sx rfl (stp_assign (v := .bool false) rfl ?_)
    refine sx_nil ?_
    refine wp_ret ?_; repeat (first | refine then_ret ?_ | refine blk_ret ?_)
    refine ret1 Tryd.results55 rfl ?_
    exact ⟨congrArg (fun z => Ending.returned (.bool z)) (eqB_f (fun e => by subst e; first | exact h13p rfl | exact absurd (bnot_t h13) (by rw [eqB_t rfl]; decide) | exact absurd (bnot_t h13) (by simp))).symm, st9.bare⟩
  · skip
    have h13p := of_decide_eq_true (bnot_f h13)
    refine wp_skip ?_
    refine wp_seq ?_
    refine wp_seq ?_
    refine sx_region ?_
    refine sx rfl (stp_fieldAddr fa_Task_1 rfl ?_)
    refine sx rfl (stp_load_bx ld_int rfl rfl (st9.get 1 rfl) (i := 1) rfl rfl ?_)
    refine sx rfl (stp_fieldAddr fa_Task_1 rfl ?_)
    refine sx rfl (stp_load_bx ld_int rfl rfl (st9.get 0 rfl) (i := 1) rfl rfl ?_)
    refine sx rfl (stp_neq rfl rfl ?_)
    refine sx_nil ?_
    refine sx_if rfl (fun h14 => ?_) (fun h14 => ?_)
    · skip
      have h14p := of_decide_eq_false (bnot_t h14)
      refine wp_seq ?_
      refine sx_region ?_
      refine sx rfl (stp_assign (v := .bool false) rfl ?_)
      refine sx_nil ?_
      refine wp_ret ?_; repeat (first | refine then_ret ?_ | refine blk_ret ?_)
      refine ret1 Tryd.results55 rfl ?_
      exact ⟨congrArg (fun z => Ending.returned (.bool z)) (eqB_f (fun e => by subst e; first | exact h14p rfl | exact absurd (bnot_t h14) (by rw [eqB_t rfl]; decide) | exact absurd (bnot_t h14) (by simp))).symm, st9.bare⟩
    · skip
      have h14p := of_decide_eq_true (bnot_f h14)
      refine wp_skip ?_
      refine wp_seq ?_
      refine wp_seq ?_
      refine sx_region ?_
      refine sx rfl (stp_fieldAddr fa_Task_2 rfl ?_)
      refine sx rfl (stp_load_bx ld_int rfl rfl (st9.get 1 rfl) (i := 2) rfl rfl ?_)
      refine sx rfl (stp_fieldAddr fa_Task_2 rfl ?_)
      refine sx rfl (stp_load_bx ld_int rfl rfl (st9.get 0 rfl) (i := 2) rfl rfl ?_)
      refine sx rfl (stp_neq rfl rfl ?_)
      refine sx_nil ?_
      refine sx_if rfl (fun h15 => ?_) (fun h15 => ?_)
      · skip
        have h15p := of_decide_eq_false (bnot_t h15)
        refine wp_seq ?_
        refine sx_region ?_
        refine sx rfl (stp_assign (v := .bool false) rfl ?_)
        refine sx_nil ?_
        refine wp_ret ?_; repeat (first | refine then_ret ?_ | refine blk_ret ?_)
        refine ret1 Tryd.results55 rfl ?_
        exact ⟨congrArg (fun z => Ending.returned (.bool z)) (eqB_f (fun e => by subst e; first | exact h15p rfl | exact absurd (bnot_t h15) (by rw [eqB_t rfl]; decide) | exact absurd (bnot_t h15) (by simp))).symm, st9.bare⟩
      · skip
        have h15p := of_decide_eq_true (bnot_f h15)
        refine wp_skip ?_
        refine wp_seq ?_
        refine wp_seq ?_
        refine sx_region ?_
        refine sx rfl (stp_fieldAddr fa_Task_3 rfl ?_)
        refine sx rfl (stp_load_bx ld_int rfl rfl (st9.get 1 rfl) (i := 3) rfl rfl ?_)
        refine sx rfl (stp_fieldAddr fa_Task_3 rfl ?_)
        refine sx rfl (stp_load_bx ld_int rfl rfl (st9.get 0 rfl) (i := 3) rfl rfl ?_)
        refine sx rfl (stp_neq rfl rfl ?_)
        refine sx_nil ?_
        refine sx_if rfl (fun h16 => ?_) (fun h16 => ?_)
        · skip
          have h16p := of_decide_eq_false (bnot_t h16)
          refine wp_seq ?_
          refine sx_region ?_
          refine sx rfl (stp_assign (v := .bool false) rfl ?_)
          refine sx_nil ?_
          refine wp_ret ?_; repeat (first | refine then_ret ?_ | refine blk_ret ?_)
          refine ret1 Tryd.results55 rfl ?_
          exact ⟨congrArg (fun z => Ending.returned (.bool z)) (eqB_f (fun e => by subst e; first | exact h16p rfl | exact absurd (bnot_t h16) (by rw [eqB_t rfl]; decide) | exact absurd (bnot_t h16) (by simp))).symm, st9.bare⟩
        · skip
          have h16p := of_decide_eq_true (bnot_f h16)
          refine wp_skip ?_
          refine wp_seq ?_
          refine sx_region ?_
          refine sx rfl (stp_assign (v := .bool true) rfl ?_)
          refine sx_nil ?_
          refine wp_ret ?_; repeat (first | refine then_ret ?_ | refine blk_ret ?_)
          refine ret1 Tryd.results55 rfl ?_
          exact ⟨congrArg (fun z => Ending.returned (.bool z)) (eqB_t (Task_ext h13p h14p h15p h16p)).symm, st9.bare⟩
set_option maxHeartbeats 2000000 in
theorem eqTaskS_n (w : World) {v u : Value} {xs ys : List Task} {fp gp : List Nat} (h : Sl w v xs fp) (g : Sl w u ys gp) :
    Calls Tryd.prog 34 #[v, u] w fun e w' => e = .returned (.bool (eqB xs ys)) ∧ St w w' [] := by
  have hcap := h.len_le
  have hcap2 := g.len_le
  refine enter2 Tryd.func34 rfl Tryd.ntmps34 (by decide) ?_
  refine wp_seq ?_
  refine sx_region ?_
  refine sx rfl (stp_assign (v := .bool false) rfl ?_)
  refine sx_nil ?_
  refine wp_seq ?_
  refine wp_seq ?_
  refine sx_region ?_
  refine sx rfl (stp_move (v := v) rfl ?_)
  refine sx rfl (stp_len sl_TaskS rfl h ?_)
  refine sx rfl (stp_move (v := u) rfl ?_)
  refine sx rfl (stp_len sl_TaskS rfl g ?_)
  refine sx rfl (stp_neq rfl rfl ?_)
  refine sx_nil ?_
  refine sx_if rfl (fun h1 => ?_) (fun h1 => ?_)
  · skip
    have h1p := of_decide_eq_false (bnot_t h1)
    refine wp_seq ?_
    refine sx_region ?_
    refine sx rfl (stp_assign (v := .bool false) rfl ?_)
    refine sx_nil ?_
    refine wp_ret ?_; repeat (first | refine then_ret ?_ | refine blk_ret ?_)
    refine ret1 Tryd.results34 rfl ?_
    exact ⟨congrArg (fun z => Ending.returned (.bool z)) (eqB_f (fun e => h1p (by rw [e]))).symm, (St.start w).bare⟩
  · skip
    have h1p := of_decide_eq_true (bnot_f h1)
    refine wp_skip ?_
    refine wp_seq ?_
    refine wp_seq ?_
    refine sx_region ?_
    refine sx rfl (stp_assign (v := I 0) rfl ?_)
    refine sx_nil ?_
    refine wp_block ?_
    refine sx_loop (fun (m : Nat) (f : Nat → Value) (W : World) => ∃ (k : Nat), k ≤ xs.length ∧ xs.take k = ys.take k ∧ m = xs.length - k ∧ f 0 = v ∧ f 1 = u ∧ f 5 = I (k : Int) ∧ St w W ([])) (xs.length - 0) ?_ ?_
    · exact ⟨0, Nat.zero_le _, rfl, rfl, rfl, rfl, rfl, (St.start w)⟩
    intro m2 f3 W4 hJ5
    obtain ⟨k, hk, htk, rfl, hs7_0, hs7_1, hs7_5, st6⟩ := hJ5
    refine wp_seq ?_
    refine wp_seq ?_
    refine sx_region ?_
    refine sx rfl (stp_move (v := I (k : Int)) hs7_5 ?_)
    refine sx rfl (stp_move (v := v) hs7_0 ?_)
    refine sx rfl (stp_len sl_TaskS rfl h ?_)
    refine sx rfl (stp_lss rfl rfl ?_)
    refine sx_nil ?_
    refine sx_if rfl (fun h8 => ?_) (fun h8 => ?_)
    · skip
      have h8p := of_decide_eq_true h8
      refine wp_skip ?_
      refine wp_seq ?_
      refine wp_block ?_
      refine wp_seq ?_
      have hi51fab : k < xs.length := (by omega)
      have hq_ := idx h (i := k) hi51fab
      obtain ⟨b9, o9, cs9, f9, hp9, hr9, hc9, hm9⟩ := hq_
      have hk10 := hc9
      obtain ⟨he10, rfl, hok10⟩ := hk10
      have he10 : _ = [I (xs[k]'hi51fab).state, I (xs[k]'hi51fab).need, I (xs[k]'hi51fab).try_, I (xs[k]'hi51fab).until_] := he10
      subst he10
      have hi28e79 : k < ys.length := (by omega)
      have hq_ := idx g (i := k) hi28e79
      obtain ⟨b11, o11, cs11, f11, hp11, hr11, hc11, hm11⟩ := hq_
      have hk12 := hc11
      obtain ⟨he12, rfl, hok12⟩ := hk12
      have he12 : _ = [I (ys[k]'hi28e79).state, I (ys[k]'hi28e79).need, I (ys[k]'hi28e79).try_, I (ys[k]'hi28e79).until_] := he12
      subst he12
      refine sx_any [Pl.is (v) (Sl.yl h), Pl.is (I (k : Int)), Pl.is (.pointer (some ⟨b9, o9, none⟩)), Pl.is (.agg #[I (xs[k]'hi51fab).state, I (xs[k]'hi51fab).need, I (xs[k]'hi51fab).try_, I (xs[k]'hi51fab).until_]), Pl.is (u) (Sl.yl g), Pl.is (I (k : Int)), Pl.is (.pointer (some ⟨b11, o11, none⟩)), Pl.is (.agg #[I (ys[k]'hi28e79).state, I (ys[k]'hi28e79).need, I (ys[k]'hi28e79).try_, I (ys[k]'hi28e79).until_]), Pl.bool (eqB (xs[k]'hi51fab) (ys[k]'hi28e79)), Pl.bool (!(eqB (xs[k]'hi51fab) (ys[k]'hi28e79)))] mix (by rfl) st6 ⟨(fun f W hst hbl hd hf => stp_move (v := v) ((hf 0 rfl).trans hs7_0) ⟨Below.refl _ _, rfl⟩), (fun f W hst hbl hd hf => stp_move (v := I (k : Int)) ((hf 5 rfl).trans hs7_5) ⟨Below.refl _ _, rfl⟩), (fun f W hst hbl hd hf => stp_indexAddr sl_TaskS (hd 0 17 rfl rfl) hp9 (hd 1 18 rfl rfl) rfl ⟨Below.refl _ _, rfl⟩), (fun f W hst hbl hd hf => stp_load_rgs (cs := [I (xs[k]'hi51fab).state, I (xs[k]'hi51fab).need, I (xs[k]'hi51fab).try_, I (xs[k]'hi51fab).until_]) ld_Task rfl (hd 2 19 rfl rfl) hr9 hst.below (i := 0) rfl rfl rfl ⟨Below.refl _ _, rfl⟩), (fun f W hst hbl hd hf => stp_move (v := u) ((hf 1 rfl).trans hs7_1) ⟨Below.refl _ _, rfl⟩), (fun f W hst hbl hd hf => stp_move (v := I (k : Int)) ((hf 5 rfl).trans hs7_5) ⟨Below.refl _ _, rfl⟩), (fun f W hst hbl hd hf => stp_indexAddr sl_TaskS (hd 4 21 rfl rfl) hp11 (hd 5 22 rfl rfl) rfl ⟨Below.refl _ _, rfl⟩), (fun f W hst hbl hd hf => stp_load_rgs (cs := [I (ys[k]'hi28e79).state, I (ys[k]'hi28e79).need, I (ys[k]'hi28e79).try_, I (ys[k]'hi28e79).until_]) ld_Task rfl (hd 6 23 rfl rfl) hr11 hst.below (i := 0) rfl rfl rfl ⟨Below.refl _ _, rfl⟩), (fun f W hst hbl hd hf => stp_call2 Tryd.func55 rfl (hd 3 20 rfl rfl) (hd 7 24 rfl rfl) ((eqTask_n W hc9 hc11).mono (by rintro e W2 ⟨rfl, hk⟩; exact ⟨_, rfl, hk.below, rfl⟩))), (fun f W hst hbl hd hf => stp_not (hd 8 25 rfl rfl) ⟨Below.refl _ _, rfl⟩), trivial⟩ ?_
      intro f13 W14 st15 hb16 hv17 hf18
      refine sx_if (hv17 9 26 (by decide) rfl) (fun h19 => ?_) (fun h19 => ?_)
      · skip
        refine wp_seq ?_
        refine sx_region ?_
        refine sx rfl (stp_assign (v := .bool false) rfl ?_)
        refine sx_nil ?_
        refine wp_ret ?_; repeat (first | refine then_ret ?_ | refine blk_ret ?_)
        refine ret1 Tryd.results34 rfl ?_
        have hne : ¬ xs[k] = ys[k]'(by omega) := fun e => absurd (bnot_t h19) (by rw [eqB_t e]; decide)
        exact ⟨congrArg (fun z => Ending.returned (.bool z)) (eqB_f (fun e => hne (by subst e; rfl))).symm, st15.bare⟩
      · skip
        refine wp_skip ?_
        refine sx_region ?_
        refine sx rfl (stp_move (v := I (k : Int)) ((hf18 5 rfl).trans hs7_5) ?_)
        refine sx rfl (stp_add rfl rfl (by (simp only [I64] at *; omega)) ?_)
        refine sx rfl (stp_assign (v := I ((k : Int) + 1)) rfl ?_)
        refine sx_nil ?_
        exact ⟨_, xs.length - (k + 1), (by omega), rfl, k + 1, (by omega), (take_eq_succ (by omega) (by omega) htk (eqB_iff.1 (bnot_f h19))), rfl, ((hf18 0 rfl).trans hs7_0), ((hf18 1 rfl).trans hs7_1), rfl, st15⟩
    · skip
      have h8p := of_decide_eq_false h8
      refine wp_exit ?_
      refine wp_seq ?_
      refine sx_region ?_
      refine sx rfl (stp_assign (v := .bool true) rfl ?_)
      refine sx_nil ?_
      refine wp_ret ?_; repeat (first | refine then_ret ?_ | refine blk_ret ?_)
      refine ret1 Tryd.results34 rfl ?_
      obtain rfl : k = xs.length := by omega
      rw [List.take_length, List.take_of_length_le (by omega)] at htk
      exact ⟨congrArg (fun z => Ending.returned (.bool z)) (eqB_t htk).symm, st6.bare⟩
theorem Run_ext {x y : Run} (h0 : x.id = y.id) (h1 : x.plan = y.plan) (h2 : x.state = y.state) (h3 : x.tasks = y.tasks) : x = y := by
  cases x; cases y; simp only at *; subst_vars; rfl
set_option maxHeartbeats 2000000 in
theorem eqRun_n (w : World) {x y : Run} {cs ds : List Value} {fp gp : List Nat} (hc : Shape.C w cs x fp) (hd : Shape.C w ds y gp) :
    Calls Tryd.prog 14 #[.agg cs.toArray, .agg ds.toArray] w fun e w' => e = .returned (.bool (eqB x y)) ∧ St w w' [] := by
  refine enter2 Tryd.func14 rfl Tryd.ntmps14 (by decide) ?_
  refine wp_seq ?_
  refine sx_region ?_
  refine sx rfl (stp_box_agg (cs := cs) rfl (St.start w) ?_); intro b1 W2 hb3 st4
  refine sx rfl (stp_box_agg (cs := ds) rfl st4 ?_); intro b6 W7 hb8 st9
  refine sx rfl (stp_assign (v := .bool false) rfl ?_)
  refine sx_nil ?_
  refine wp_seq ?_
  refine wp_seq ?_
  refine sx_region ?_
  refine sx rfl (stp_fieldAddr fa_Run_0 rfl ?_)
  have hk11 := hc
  obtain ⟨v11_0, v11_1, g11_0, g11_1, rfl, hok11, h11_0, h11_1, rfl⟩ := hk11
  refine sx rfl (stp_load_bx ld_int rfl rfl (st9.get 1 rfl) (i := 0) rfl rfl ?_)
  refine sx rfl (stp_fieldAddr fa_Run_0 rfl ?_)
  have hk12 := hd
  obtain ⟨v12_0, v12_1, g12_0, g12_1, rfl, hok12, h12_0, h12_1, rfl⟩ := hk12
  refine sx rfl (stp_load_bx ld_int rfl rfl (st9.get 0 rfl) (i := 0) rfl rfl ?_)
  refine sx rfl (stp_neq rfl rfl ?_)
  refine sx_nil ?_
  refine sx_if rfl (fun h13 => ?_) (fun h13 => ?_)
  · skip
    have h13p := of_decide_eq_false (bnot_t h13)
    refine wp_seq ?_
    refine sx_region ?_
    refine sx rfl (stp_assign (v := .bool false) rfl ?_)
    refine sx_nil ?_
    refine wp_ret ?_; repeat (first | refine then_ret ?_ | refine blk_ret ?_)
    refine ret1 Tryd.results14 rfl ?_
    exact ⟨congrArg (fun z => Ending.returned (.bool z)) (eqB_f (fun e => by subst e; first | exact h13p rfl | exact absurd (bnot_t h13) (by rw [eqB_t rfl]; decide) | exact absurd (bnot_t h13) (by simp))).symm, st9.bare⟩
  · skip
    have h13p := of_decide_eq_true (bnot_f h13)
    refine wp_skip ?_
    refine wp_seq ?_
    refine wp_seq ?_
    refine sx_region ?_
    refine sx rfl (stp_fieldAddr fa_Run_1 rfl ?_)
    refine sx rfl (stp_load_bxs (cs := [I x.plan.prio, I x.plan.most, I x.plan.wait, I x.plan.tasks, v11_0]) ld_Plan rfl rfl (st9.get 1 rfl) rfl rfl ?_)
    refine sx rfl (stp_fieldAddr fa_Run_1 rfl ?_)
    refine sx rfl (stp_load_bxs (cs := [I y.plan.prio, I y.plan.most, I y.plan.wait, I y.plan.tasks, v12_0]) ld_Plan rfl rfl (st9.get 0 rfl) rfl rfl ?_)
    refine sx rfl (stp_call2 Tryd.func33 rfl rfl rfl ((eqPlan_n W7 (show Shape.C _ [I x.plan.prio, I x.plan.most, I x.plan.wait, I x.plan.tasks, v11_0] x.plan _ from ⟨_, _, rfl, (by first | exact True.intro | (simp only [Edge.ok, Plan.ok, Entry.ok, Task.ok, Run.ok, Yard.ok, Reply.ok, Deed.ok, Note.ok, Wait.ok, File.ok, Disk.ok, Engine.ok, WorldD.ok, ActD.ok, Hand.ok, Span.ok, Crew.ok, View.ok, I64] at *; omega)), (h11_0.below st9.below), rfl⟩) (show Shape.C _ [I y.plan.prio, I y.plan.most, I y.plan.wait, I y.plan.tasks, v12_0] y.plan _ from ⟨_, _, rfl, (by first | exact True.intro | (simp only [Edge.ok, Plan.ok, Entry.ok, Task.ok, Run.ok, Yard.ok, Reply.ok, Deed.ok, Note.ok, Wait.ok, File.ok, Disk.ok, Engine.ok, WorldD.ok, ActD.ok, Hand.ok, Span.ok, Crew.ok, View.ok, I64] at *; omega)), (h12_0.below st9.below), rfl⟩)).mono ?_)); rintro _ W14 ⟨rfl, hk15⟩; refine ⟨_, rfl, ?_⟩
    have st16 := St.call st9 hk15
    refine sx rfl (stp_not rfl ?_)
    refine sx_nil ?_
    refine sx_if rfl (fun h18 => ?_) (fun h18 => ?_)
    · skip
      refine wp_seq ?_
      refine sx_region ?_
      refine sx rfl (stp_assign (v := .bool false) rfl ?_)
      refine sx_nil ?_
      refine wp_ret ?_; repeat (first | refine then_ret ?_ | refine blk_ret ?_)
      refine ret1 Tryd.results14 rfl ?_
      exact ⟨congrArg (fun z => Ending.returned (.bool z)) (eqB_f (fun e => by subst e; first | exact absurd (bnot_t h18) (by rw [eqB_t rfl]; decide) | exact absurd (bnot_t h18) (by simp))).symm, st16.bare⟩
    · skip
      refine wp_skip ?_
      refine wp_seq ?_
      refine wp_seq ?_
      refine sx_region ?_
      refine sx rfl (stp_fieldAddr fa_Run_2 rfl ?_)
      refine sx rfl (stp_load_bx ld_int rfl rfl (st16.get 1 rfl) (i := 6) rfl rfl ?_)
      refine sx rfl (stp_fieldAddr fa_Run_2 rfl ?_)
      refine sx rfl (stp_load_bx ld_int rfl rfl (st16.get 0 rfl) (i := 6) rfl rfl ?_)
      refine sx rfl (stp_neq rfl rfl ?_)
      refine sx_nil ?_
      refine sx_if rfl (fun h19 => ?_) (fun h19 => ?_)
      · skip
        have h19p := of_decide_eq_false (bnot_t h19)
        refine wp_seq ?_
        refine sx_region ?_
        refine sx rfl (stp_assign (v := .bool false) rfl ?_)
        refine sx_nil ?_
        refine wp_ret ?_; repeat (first | refine then_ret ?_ | refine blk_ret ?_)
        refine ret1 Tryd.results14 rfl ?_
        exact ⟨congrArg (fun z => Ending.returned (.bool z)) (eqB_f (fun e => by subst e; first | exact h19p rfl | exact absurd (bnot_t h19) (by rw [eqB_t rfl]; decide) | exact absurd (bnot_t h19) (by simp))).symm, st16.bare⟩
      · skip
        have h19p := of_decide_eq_true (bnot_f h19)
        refine wp_skip ?_
        refine wp_seq ?_
        refine wp_seq ?_
        refine sx_region ?_
        refine sx rfl (stp_fieldAddr fa_Run_3 rfl ?_)
        refine sx rfl (stp_load_bx ld_TaskS rfl rfl (st16.get 1 rfl) (i := 7) rfl rfl ?_)
        refine sx rfl (stp_fieldAddr fa_Run_3 rfl ?_)
        refine sx rfl (stp_load_bx ld_TaskS rfl rfl (st16.get 0 rfl) (i := 7) rfl rfl ?_)
        refine sx rfl (stp_call2 Tryd.func34 rfl rfl rfl ((eqTaskS_n W14 (h11_1.below st16.below) (h12_1.below st16.below)).mono ?_)); rintro _ W20 ⟨rfl, hk21⟩; refine ⟨_, rfl, ?_⟩
        have st22 := St.call st16 hk21
        refine sx rfl (stp_not rfl ?_)
        refine sx_nil ?_
        refine sx_if rfl (fun h24 => ?_) (fun h24 => ?_)
        · skip
          refine wp_seq ?_
          refine sx_region ?_
          refine sx rfl (stp_assign (v := .bool false) rfl ?_)
          refine sx_nil ?_
          refine wp_ret ?_; repeat (first | refine then_ret ?_ | refine blk_ret ?_)
          refine ret1 Tryd.results14 rfl ?_
          exact ⟨congrArg (fun z => Ending.returned (.bool z)) (eqB_f (fun e => by subst e; first | exact absurd (bnot_t h24) (by rw [eqB_t rfl]; decide) | exact absurd (bnot_t h24) (by simp))).symm, st22.bare⟩
        · skip
          refine wp_skip ?_
          refine wp_seq ?_
          refine sx_region ?_
          refine sx rfl (stp_assign (v := .bool true) rfl ?_)
          refine sx_nil ?_
          refine wp_ret ?_; repeat (first | refine then_ret ?_ | refine blk_ret ?_)
          refine ret1 Tryd.results14 rfl ?_
          exact ⟨congrArg (fun z => Ending.returned (.bool z)) (eqB_t (Run_ext h13p (eqB_iff.1 (bnot_f h18)) h19p (eqB_iff.1 (bnot_f h24)))).symm, st22.bare⟩
theorem Deed_ext {x y : Deed} (h0 : x.kind = y.kind) (h1 : x.run = y.run) (h2 : x.plan = y.plan) (h3 : x.task = y.task) (h4 : x.try_ = y.try_) (h5 : x.worker = y.worker) (h6 : x.draw = y.draw) : x = y := by
  cases x; cases y; simp only at *; subst_vars; rfl
set_option maxHeartbeats 2000000 in
theorem eqDeed_n (w : World) {x y : Deed} {cs ds : List Value} {fp gp : List Nat} (hc : Shape.C w cs x fp) (hd : Shape.C w ds y gp) :
    Calls Tryd.prog 19 #[.agg cs.toArray, .agg ds.toArray] w fun e w' => e = .returned (.bool (eqB x y)) ∧ St w w' [] := by
  refine enter2 Tryd.func19 rfl Tryd.ntmps19 (by decide) ?_
  refine wp_seq ?_
  refine sx_region ?_
  refine sx rfl (stp_box_agg (cs := cs) rfl (St.start w) ?_); intro b1 W2 hb3 st4
  refine sx rfl (stp_box_agg (cs := ds) rfl st4 ?_); intro b6 W7 hb8 st9
  refine sx rfl (stp_assign (v := .bool false) rfl ?_)
  refine sx_nil ?_
  refine wp_seq ?_
  refine wp_seq ?_
  refine sx_region ?_
  refine sx rfl (stp_fieldAddr fa_Deed_0 rfl ?_)
  have hk11 := hc
  obtain ⟨v11_0, g11_0, rfl, hok11, h11_0, rfl⟩ := hk11
  refine sx rfl (stp_load_bx ld_int rfl rfl (st9.get 1 rfl) (i := 0) rfl rfl ?_)
  refine sx rfl (stp_fieldAddr fa_Deed_0 rfl ?_)
  have hk12 := hd
  obtain ⟨v12_0, g12_0, rfl, hok12, h12_0, rfl⟩ := hk12
  refine sx rfl (stp_load_bx ld_int rfl rfl (st9.get 0 rfl) (i := 0) rfl rfl ?_)
  refine sx rfl (stp_neq rfl rfl ?_)
  refine sx_nil ?_
  refine sx_if rfl (fun h13 => ?_) (fun h13 => ?_)
  · skip
    have h13p := of_decide_eq_false (bnot_t h13)
    refine wp_seq ?_
    refine sx_region ?_
    refine sx rfl (stp_assign (v := .bool false) rfl ?_)
    refine sx_nil ?_
    refine wp_ret ?_; repeat (first | refine then_ret ?_ | refine blk_ret ?_)
    refine ret1 Tryd.results19 rfl ?_
    exact ⟨congrArg (fun z => Ending.returned (.bool z)) (eqB_f (fun e => by subst e; first | exact h13p rfl | exact absurd (bnot_t h13) (by rw [eqB_t rfl]; decide) | exact absurd (bnot_t h13) (by simp))).symm, st9.bare⟩
  · skip
    have h13p := of_decide_eq_true (bnot_f h13)
    refine wp_skip ?_
    refine wp_seq ?_
    refine wp_seq ?_
    refine sx_region ?_
    refine sx rfl (stp_fieldAddr fa_Deed_1 rfl ?_)
    refine sx rfl (stp_load_bx ld_int rfl rfl (st9.get 1 rfl) (i := 1) rfl rfl ?_)
    refine sx rfl (stp_fieldAddr fa_Deed_1 rfl ?_)
    refine sx rfl (stp_load_bx ld_int rfl rfl (st9.get 0 rfl) (i := 1) rfl rfl ?_)
    refine sx rfl (stp_neq rfl rfl ?_)
    refine sx_nil ?_
    refine sx_if rfl (fun h14 => ?_) (fun h14 => ?_)
    · skip
      have h14p := of_decide_eq_false (bnot_t h14)
      refine wp_seq ?_
      refine sx_region ?_
      refine sx rfl (stp_assign (v := .bool false) rfl ?_)
      refine sx_nil ?_
      refine wp_ret ?_; repeat (first | refine then_ret ?_ | refine blk_ret ?_)
      refine ret1 Tryd.results19 rfl ?_
      exact ⟨congrArg (fun z => Ending.returned (.bool z)) (eqB_f (fun e => by subst e; first | exact h14p rfl | exact absurd (bnot_t h14) (by rw [eqB_t rfl]; decide) | exact absurd (bnot_t h14) (by simp))).symm, st9.bare⟩
    · skip
      have h14p := of_decide_eq_true (bnot_f h14)
      refine wp_skip ?_
      refine wp_seq ?_
      refine wp_seq ?_
      refine sx_region ?_
      refine sx rfl (stp_fieldAddr fa_Deed_2 rfl ?_)
      refine sx rfl (stp_load_bxs (cs := [I x.plan.prio, I x.plan.most, I x.plan.wait, I x.plan.tasks, v11_0]) ld_Plan rfl rfl (st9.get 1 rfl) rfl rfl ?_)
      refine sx rfl (stp_fieldAddr fa_Deed_2 rfl ?_)
      refine sx rfl (stp_load_bxs (cs := [I y.plan.prio, I y.plan.most, I y.plan.wait, I y.plan.tasks, v12_0]) ld_Plan rfl rfl (st9.get 0 rfl) rfl rfl ?_)
      refine sx rfl (stp_call2 Tryd.func33 rfl rfl rfl ((eqPlan_n W7 (show Shape.C _ [I x.plan.prio, I x.plan.most, I x.plan.wait, I x.plan.tasks, v11_0] x.plan _ from ⟨_, _, rfl, (by first | exact True.intro | (simp only [Edge.ok, Plan.ok, Entry.ok, Task.ok, Run.ok, Yard.ok, Reply.ok, Deed.ok, Note.ok, Wait.ok, File.ok, Disk.ok, Engine.ok, WorldD.ok, ActD.ok, Hand.ok, Span.ok, Crew.ok, View.ok, I64] at *; omega)), (h11_0.below st9.below), rfl⟩) (show Shape.C _ [I y.plan.prio, I y.plan.most, I y.plan.wait, I y.plan.tasks, v12_0] y.plan _ from ⟨_, _, rfl, (by first | exact True.intro | (simp only [Edge.ok, Plan.ok, Entry.ok, Task.ok, Run.ok, Yard.ok, Reply.ok, Deed.ok, Note.ok, Wait.ok, File.ok, Disk.ok, Engine.ok, WorldD.ok, ActD.ok, Hand.ok, Span.ok, Crew.ok, View.ok, I64] at *; omega)), (h12_0.below st9.below), rfl⟩)).mono ?_)); rintro _ W15 ⟨rfl, hk16⟩; refine ⟨_, rfl, ?_⟩
      have st17 := St.call st9 hk16
      refine sx rfl (stp_not rfl ?_)
      refine sx_nil ?_
      refine sx_if rfl (fun h19 => ?_) (fun h19 => ?_)
      · skip
        refine wp_seq ?_
        refine sx_region ?_
        refine sx rfl (stp_assign (v := .bool false) rfl ?_)
        refine sx_nil ?_
        refine wp_ret ?_; repeat (first | refine then_ret ?_ | refine blk_ret ?_)
        refine ret1 Tryd.results19 rfl ?_
        exact ⟨congrArg (fun z => Ending.returned (.bool z)) (eqB_f (fun e => by subst e; first | exact absurd (bnot_t h19) (by rw [eqB_t rfl]; decide) | exact absurd (bnot_t h19) (by simp))).symm, st17.bare⟩
      · skip
        refine wp_skip ?_
        refine wp_seq ?_
        refine wp_seq ?_
        refine sx_region ?_
        refine sx rfl (stp_fieldAddr fa_Deed_3 rfl ?_)
        refine sx rfl (stp_load_bx ld_int rfl rfl (st17.get 1 rfl) (i := 7) rfl rfl ?_)
        refine sx rfl (stp_fieldAddr fa_Deed_3 rfl ?_)
        refine sx rfl (stp_load_bx ld_int rfl rfl (st17.get 0 rfl) (i := 7) rfl rfl ?_)
        refine sx rfl (stp_neq rfl rfl ?_)
        refine sx_nil ?_
        refine sx_if rfl (fun h20 => ?_) (fun h20 => ?_)
        · skip
          have h20p := of_decide_eq_false (bnot_t h20)
          refine wp_seq ?_
          refine sx_region ?_
          refine sx rfl (stp_assign (v := .bool false) rfl ?_)
          refine sx_nil ?_
          refine wp_ret ?_; repeat (first | refine then_ret ?_ | refine blk_ret ?_)
          refine ret1 Tryd.results19 rfl ?_
          exact ⟨congrArg (fun z => Ending.returned (.bool z)) (eqB_f (fun e => by subst e; first | exact h20p rfl | exact absurd (bnot_t h20) (by rw [eqB_t rfl]; decide) | exact absurd (bnot_t h20) (by simp))).symm, st17.bare⟩
        · skip
          have h20p := of_decide_eq_true (bnot_f h20)
          refine wp_skip ?_
          refine wp_seq ?_
          refine wp_seq ?_
          refine sx_region ?_
          refine sx rfl (stp_fieldAddr fa_Deed_4 rfl ?_)
          refine sx rfl (stp_load_bx ld_int rfl rfl (st17.get 1 rfl) (i := 8) rfl rfl ?_)
          refine sx rfl (stp_fieldAddr fa_Deed_4 rfl ?_)
          refine sx rfl (stp_load_bx ld_int rfl rfl (st17.get 0 rfl) (i := 8) rfl rfl ?_)
          refine sx rfl (stp_neq rfl rfl ?_)
          refine sx_nil ?_
          refine sx_if rfl (fun h21 => ?_) (fun h21 => ?_)
          · skip
            have h21p := of_decide_eq_false (bnot_t h21)
            refine wp_seq ?_
            refine sx_region ?_
            refine sx rfl (stp_assign (v := .bool false) rfl ?_)
            refine sx_nil ?_
            refine wp_ret ?_; repeat (first | refine then_ret ?_ | refine blk_ret ?_)
            refine ret1 Tryd.results19 rfl ?_
            exact ⟨congrArg (fun z => Ending.returned (.bool z)) (eqB_f (fun e => by subst e; first | exact h21p rfl | exact absurd (bnot_t h21) (by rw [eqB_t rfl]; decide) | exact absurd (bnot_t h21) (by simp))).symm, st17.bare⟩
          · skip
            have h21p := of_decide_eq_true (bnot_f h21)
            refine wp_skip ?_
            refine wp_seq ?_
            refine wp_seq ?_
            refine sx_region ?_
            refine sx rfl (stp_fieldAddr fa_Deed_5 rfl ?_)
            refine sx rfl (stp_load_bx ld_int rfl rfl (st17.get 1 rfl) (i := 9) rfl rfl ?_)
            refine sx rfl (stp_fieldAddr fa_Deed_5 rfl ?_)
            refine sx rfl (stp_load_bx ld_int rfl rfl (st17.get 0 rfl) (i := 9) rfl rfl ?_)
            refine sx rfl (stp_neq rfl rfl ?_)
            refine sx_nil ?_
            refine sx_if rfl (fun h22 => ?_) (fun h22 => ?_)
            · skip
              have h22p := of_decide_eq_false (bnot_t h22)
              refine wp_seq ?_
              refine sx_region ?_
              refine sx rfl (stp_assign (v := .bool false) rfl ?_)
              refine sx_nil ?_
              refine wp_ret ?_; repeat (first | refine then_ret ?_ | refine blk_ret ?_)
              refine ret1 Tryd.results19 rfl ?_
              exact ⟨congrArg (fun z => Ending.returned (.bool z)) (eqB_f (fun e => by subst e; first | exact h22p rfl | exact absurd (bnot_t h22) (by rw [eqB_t rfl]; decide) | exact absurd (bnot_t h22) (by simp))).symm, st17.bare⟩
            · skip
              have h22p := of_decide_eq_true (bnot_f h22)
              refine wp_skip ?_
              refine wp_seq ?_
              refine wp_seq ?_
              refine sx_region ?_
              refine sx rfl (stp_fieldAddr fa_Deed_6 rfl ?_)
              refine sx rfl (stp_load_bx ld_int rfl rfl (st17.get 1 rfl) (i := 10) rfl rfl ?_)
              refine sx rfl (stp_fieldAddr fa_Deed_6 rfl ?_)
              refine sx rfl (stp_load_bx ld_int rfl rfl (st17.get 0 rfl) (i := 10) rfl rfl ?_)
              refine sx rfl (stp_neq rfl rfl ?_)
              refine sx_nil ?_
              refine sx_if rfl (fun h23 => ?_) (fun h23 => ?_)
              · skip
                have h23p := of_decide_eq_false (bnot_t h23)
                refine wp_seq ?_
                refine sx_region ?_
                refine sx rfl (stp_assign (v := .bool false) rfl ?_)
                refine sx_nil ?_
                refine wp_ret ?_; repeat (first | refine then_ret ?_ | refine blk_ret ?_)
                refine ret1 Tryd.results19 rfl ?_
                exact ⟨congrArg (fun z => Ending.returned (.bool z)) (eqB_f (fun e => by subst e; first | exact h23p rfl | exact absurd (bnot_t h23) (by rw [eqB_t rfl]; decide) | exact absurd (bnot_t h23) (by simp))).symm, st17.bare⟩
              · skip
                have h23p := of_decide_eq_true (bnot_f h23)
                refine wp_skip ?_
                refine wp_seq ?_
                refine sx_region ?_
                refine sx rfl (stp_assign (v := .bool true) rfl ?_)
                refine sx_nil ?_
                refine wp_ret ?_; repeat (first | refine then_ret ?_ | refine blk_ret ?_)
                refine ret1 Tryd.results19 rfl ?_
                exact ⟨congrArg (fun z => Ending.returned (.bool z)) (eqB_t (Deed_ext h13p h14p (eqB_iff.1 (bnot_f h19)) h20p h21p h22p h23p)).symm, st17.bare⟩
end Go.Proofs.YtchnllpegfbleaaDoor
