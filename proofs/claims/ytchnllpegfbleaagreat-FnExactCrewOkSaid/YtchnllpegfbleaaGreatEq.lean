/-
  The laws' comparisons. (Printed by a program of this project's.)
-/
import Derived.Test.YtchnllpegfbleaaGreatSxStr
import Derived.Test.YtchnllpegfbleaaGreatKBase
namespace Go.Proofs.YtchnllpegfbleaaGreat
set_option linter.unusedSimpArgs false
set_option linter.unusedVariables false
set_option maxRecDepth 100000
open Go.RowKit

theorem Edge_ext {x y : Edge} (h0 : x.from_ = y.from_) (h1 : x.to_ = y.to_) : x = y := by
  cases x; cases y; simp only at *; subst_vars; rfl
set_option maxHeartbeats 2000000 in
theorem eqEdge_n (w : World) {x y : Edge} {cs ds : List Value} {fp gp : List Nat} (hc : Shape.C w cs x fp) (hd : Shape.C w ds y gp) :
    Calls Tryz.prog 238 #[.agg cs.toArray, .agg ds.toArray] w fun e w' => e = .returned (.bool (eqB x y)) ∧ St w w' [] := by
  refine enter2 Tryz.func238 rfl Tryz.ntmps238 (by decide) ?_
  refine wp_seq ?_
  refine sx_region ?_
  refine sx rfl (stp_box_agg (cs := cs) rfl (St.start w) ?_); intro b1 W2 hb3 st4
  refine sx rfl (stp_box_agg (cs := ds) rfl st4 ?_); intro b6 W7 hb8 st9
  refine sx rfl (stp_assign (v := .bool false) rfl ?_)
  refine sx_nil ?_
  refine wp_seq ?_
  refine wp_seq ?_
  refine sx_region ?_
  refine sx rfl (stp_fieldAddr fa_Edge_0 rfl ?_)
  have hk11 := hc
  obtain ⟨he11, rfl, hok11⟩ := hk11
  have he11 : _ = [I x.from_, I x.to_] := he11
  subst he11
  refine sx rfl (stp_load_bx ld_int rfl rfl (st9.get 1 rfl) (i := 0) rfl rfl ?_)
  refine sx rfl (stp_fieldAddr fa_Edge_0 rfl ?_)
  have hk12 := hd
  obtain ⟨he12, rfl, hok12⟩ := hk12
  have he12 : _ = [I y.from_, I y.to_] := he12
  subst he12
  refine sx rfl (stp_load_bx ld_int rfl rfl (st9.get 0 rfl) (i := 0) rfl rfl ?_)
  refine sx rfl (stp_neq rfl rfl ?_)
  refine sx_nil ?_
  refine sx_if rfl (fun h13 => ?_) (fun h13 => ?_)
  · skip
    have h13p := of_decide_eq_false (bnot_t h13)
    refine wp_seq ?_
    refine sx_region ?_
    refine sx rfl (stp_assign (v := .bool false) rfl ?_)
    refine sx_nil ?_
    refine wp_ret ?_; repeat (first | refine then_ret ?_ | refine blk_ret ?_)
    refine ret1 Tryz.results238 rfl ?_
    exact ⟨congrArg (fun z => Ending.returned (.bool z)) (eqB_f (fun e => by subst e; first | exact h13p rfl | exact absurd (bnot_t h13) (by rw [eqB_t rfl]; decide) | exact absurd (bnot_t h13) (by simp))).symm, st9.bare⟩
  · skip
    have h13p := of_decide_eq_true (bnot_f h13)
    refine wp_skip ?_
    refine wp_seq ?_
    refine wp_seq ?_
    refine sx_region ?_
    refine sx rfl (stp_fieldAddr fa_Edge_1 rfl ?_)
    refine sx rfl (stp_load_bx ld_int rfl rfl (st9.get 1 rfl) (i := 1) rfl rfl ?_)
    refine sx rfl (stp_fieldAddr fa_Edge_1 rfl ?_)
    refine sx rfl (stp_load_bx ld_int rfl rfl (st9.get 0 rfl) (i := 1) rfl rfl ?_)
    refine sx rfl (stp_neq rfl rfl ?_)
    refine sx_nil ?_
    refine sx_if rfl (fun h14 => ?_) (fun h14 => ?_)
    · skip
      have h14p := of_decide_eq_false (bnot_t h14)
      refine wp_seq ?_
      refine sx_region ?_
      refine sx rfl (stp_assign (v := .bool false) rfl ?_)
      refine sx_nil ?_
      refine wp_ret ?_; repeat (first | refine then_ret ?_ | refine blk_ret ?_)
      refine ret1 Tryz.results238 rfl ?_
      exact ⟨congrArg (fun z => Ending.returned (.bool z)) (eqB_f (fun e => by subst e; first | exact h14p rfl | exact absurd (bnot_t h14) (by rw [eqB_t rfl]; decide) | exact absurd (bnot_t h14) (by simp))).symm, st9.bare⟩
    · skip
      have h14p := of_decide_eq_true (bnot_f h14)
      refine wp_skip ?_
      refine wp_seq ?_
      refine sx_region ?_
      refine sx rfl (stp_assign (v := .bool true) rfl ?_)
      refine sx_nil ?_
      refine wp_ret ?_; repeat (first | refine then_ret ?_ | refine blk_ret ?_)
      refine ret1 Tryz.results238 rfl ?_
      exact ⟨congrArg (fun z => Ending.returned (.bool z)) (eqB_t (Edge_ext h13p h14p)).symm, st9.bare⟩
set_option maxHeartbeats 2000000 in
theorem eqEdgeS_n (w : World) {v u : Value} {xs ys : List Edge} {fp gp : List Nat} (h : Sl w v xs fp) (g : Sl w u ys gp) :
    Calls Tryz.prog 224 #[v, u] w fun e w' => e = .returned (.bool (eqB xs ys)) ∧ St w w' [] := by
  have hcap := h.len_le
  have hcap2 := g.len_le
  refine enter2 Tryz.func224 rfl Tryz.ntmps224 (by decide) ?_
  refine wp_seq ?_
  refine sx_region ?_
  refine sx rfl (stp_assign (v := .bool false) rfl ?_)
  refine sx_nil ?_
  refine wp_seq ?_
  refine wp_seq ?_
  refine sx_region ?_
  refine sx rfl (stp_move (v := v) rfl ?_)
  refine sx rfl (stp_len sl_EdgeS rfl h ?_)
  refine sx rfl (stp_move (v := u) rfl ?_)
  refine sx rfl (stp_len sl_EdgeS rfl g ?_)
  refine sx rfl (stp_neq rfl rfl ?_)
  refine sx_nil ?_
  refine sx_if rfl (fun h1 => ?_) (fun h1 => ?_)
  · skip
    have h1p := of_decide_eq_false (bnot_t h1)
    refine wp_seq ?_
    refine sx_region ?_
    refine sx rfl (stp_assign (v := .bool false) rfl ?_)
    refine sx_nil ?_
    refine wp_ret ?_; repeat (first | refine then_ret ?_ | refine blk_ret ?_)
    refine ret1 Tryz.results224 rfl ?_
    exact ⟨congrArg (fun z => Ending.returned (.bool z)) (eqB_f (fun e => h1p (by rw [e]))).symm, (St.start w).bare⟩
  · skip
    have h1p := of_decide_eq_true (bnot_f h1)
    refine wp_skip ?_
    refine wp_seq ?_
    refine wp_seq ?_
    refine sx_region ?_
    refine sx rfl (stp_assign (v := I 0) rfl ?_)
    refine sx_nil ?_
    refine wp_block ?_
    refine sx_loop (fun (m : Nat) (f : Nat → Value) (W : World) => ∃ (k : Nat), k ≤ xs.length ∧ xs.take k = ys.take k ∧ m = xs.length - k ∧ f 0 = v ∧ f 1 = u ∧ f 5 = I (k : Int) ∧ St w W ([])) (xs.length - 0) ?_ ?_
    · exact ⟨0, Nat.zero_le _, rfl, rfl, rfl, rfl, rfl, (St.start w)⟩
    intro m2 f3 W4 hJ5
    obtain ⟨k, hk, htk, rfl, hs7_0, hs7_1, hs7_5, st6⟩ := hJ5
    refine wp_seq ?_
    refine wp_seq ?_
    refine sx_region ?_
    refine sx rfl (stp_move (v := I (k : Int)) hs7_5 ?_)
    refine sx rfl (stp_move (v := v) hs7_0 ?_)
    refine sx rfl (stp_len sl_EdgeS rfl h ?_)
    refine sx rfl (stp_lss rfl rfl ?_)
    refine sx_nil ?_
    refine sx_if rfl (fun h8 => ?_) (fun h8 => ?_)
    · skip
      have h8p := of_decide_eq_true h8
      refine wp_skip ?_
      refine wp_seq ?_
      refine wp_block ?_
      refine wp_seq ?_
      have hi51fab : k < xs.length := (by omega)
      have hq_ := idx h (i := k) hi51fab
      obtain ⟨b9, o9, cs9, f9, hp9, hr9, hc9, hm9⟩ := hq_
      have hk10 := hc9
      obtain ⟨he10, rfl, hok10⟩ := hk10
      have he10 : _ = [I (xs[k]'hi51fab).from_, I (xs[k]'hi51fab).to_] := he10
      subst he10
      have hi28e79 : k < ys.length := (by omega)
      have hq_ := idx g (i := k) hi28e79
      obtain ⟨b11, o11, cs11, f11, hp11, hr11, hc11, hm11⟩ := hq_
      have hk12 := hc11
      obtain ⟨he12, rfl, hok12⟩ := hk12
      have he12 : _ = [I (ys[k]'hi28e79).from_, I (ys[k]'hi28e79).to_] := he12
      subst he12
      refine sx_any [Pl.is (v) (Sl.yl h), Pl.is (I (k : Int)), Pl.is (.pointer (some ⟨b9, o9, none⟩)), Pl.is (.agg #[I (xs[k]'hi51fab).from_, I (xs[k]'hi51fab).to_]), Pl.is (u) (Sl.yl g), Pl.is (I (k : Int)), Pl.is (.pointer (some ⟨b11, o11, none⟩)), Pl.is (.agg #[I (ys[k]'hi28e79).from_, I (ys[k]'hi28e79).to_]), Pl.bool (eqB (xs[k]'hi51fab) (ys[k]'hi28e79)), Pl.bool (!(eqB (xs[k]'hi51fab) (ys[k]'hi28e79)))] mix (by rfl) st6 ⟨(fun f W hst hbl hd hf => stp_move (v := v) ((hf 0 rfl).trans hs7_0) ⟨Below.refl _ _, rfl⟩), (fun f W hst hbl hd hf => stp_move (v := I (k : Int)) ((hf 5 rfl).trans hs7_5) ⟨Below.refl _ _, rfl⟩), (fun f W hst hbl hd hf => stp_indexAddr sl_EdgeS (hd 0 17 rfl rfl) hp9 (hd 1 18 rfl rfl) rfl ⟨Below.refl _ _, rfl⟩), (fun f W hst hbl hd hf => stp_load_rgs (cs := [I (xs[k]'hi51fab).from_, I (xs[k]'hi51fab).to_]) ld_Edge rfl (hd 2 19 rfl rfl) hr9 hst.below (i := 0) rfl rfl rfl ⟨Below.refl _ _, rfl⟩), (fun f W hst hbl hd hf => stp_move (v := u) ((hf 1 rfl).trans hs7_1) ⟨Below.refl _ _, rfl⟩), (fun f W hst hbl hd hf => stp_move (v := I (k : Int)) ((hf 5 rfl).trans hs7_5) ⟨Below.refl _ _, rfl⟩), (fun f W hst hbl hd hf => stp_indexAddr sl_EdgeS (hd 4 21 rfl rfl) hp11 (hd 5 22 rfl rfl) rfl ⟨Below.refl _ _, rfl⟩), (fun f W hst hbl hd hf => stp_load_rgs (cs := [I (ys[k]'hi28e79).from_, I (ys[k]'hi28e79).to_]) ld_Edge rfl (hd 6 23 rfl rfl) hr11 hst.below (i := 0) rfl rfl rfl ⟨Below.refl _ _, rfl⟩), (fun f W hst hbl hd hf => stp_call2 Tryz.func238 rfl (hd 3 20 rfl rfl) (hd 7 24 rfl rfl) ((eqEdge_n W hc9 hc11).mono (by rintro e W2 ⟨rfl, hk⟩; exact ⟨_, rfl, hk.below, rfl⟩))), (fun f W hst hbl hd hf => stp_not (hd 8 25 rfl rfl) ⟨Below.refl _ _, rfl⟩), trivial⟩ ?_
      intro f13 W14 st15 hb16 hv17 hf18
      refine sx_if (hv17 9 26 (by decide) rfl) (fun h19 => ?_) (fun h19 => ?_)
      · skip
        refine wp_seq ?_
        refine sx_region ?_
        refine sx rfl (stp_assign (v := .bool false) rfl ?_)
        refine sx_nil ?_
        refine wp_ret ?_; repeat (first | refine then_ret ?_ | refine blk_ret ?_)
        refine ret1 Tryz.results224 rfl ?_
        have hne : ¬ xs[k] = ys[k]'(by omega) := fun e => absurd (bnot_t h19) (by rw [eqB_t e]; decide)
        exact ⟨congrArg (fun z => Ending.returned (.bool z)) (eqB_f (fun e => hne (by subst e; rfl))).symm, st15.bare⟩
      · skip
        refine wp_skip ?_
        refine sx_region ?_
        refine sx rfl (stp_move (v := I (k : Int)) ((hf18 5 rfl).trans hs7_5) ?_)
        refine sx rfl (stp_add rfl rfl (by (simp only [I64] at *; omega)) ?_)
        refine sx rfl (stp_assign (v := I ((k : Int) + 1)) rfl ?_)
        refine sx_nil ?_
        exact ⟨_, xs.length - (k + 1), (by omega), rfl, k + 1, (by omega), (take_eq_succ (by omega) (by omega) htk (eqB_iff.1 (bnot_f h19))), rfl, ((hf18 0 rfl).trans hs7_0), ((hf18 1 rfl).trans hs7_1), rfl, st15⟩
    · skip
      have h8p := of_decide_eq_false h8
      refine wp_exit ?_
      refine wp_seq ?_
      refine sx_region ?_
      refine sx rfl (stp_assign (v := .bool true) rfl ?_)
      refine sx_nil ?_
      refine wp_ret ?_; repeat (first | refine then_ret ?_ | refine blk_ret ?_)
      refine ret1 Tryz.results224 rfl ?_
      obtain rfl : k = xs.length := by omega
      rw [List.take_length, List.take_of_length_le (by omega)] at htk
      exact ⟨congrArg (fun z => Ending.returned (.bool z)) (eqB_t htk).symm, st6.bare⟩
theorem Plan_ext {x y : Plan} (h0 : x.prio = y.prio) (h1 : x.most = y.most) (h2 : x.wait = y.wait) (h3 : x.tasks = y.tasks) (h4 : x.edges = y.edges) : x = y := by
  cases x; cases y; simp only at *; subst_vars; rfl
set_option maxHeartbeats 2000000 in
theorem eqPlan_n (w : World) {x y : Plan} {cs ds : List Value} {fp gp : List Nat} (hc : Shape.C w cs x fp) (hd : Shape.C w ds y gp) :
    Calls Tryz.prog 179 #[.agg cs.toArray, .agg ds.toArray] w fun e w' => e = .returned (.bool (eqB x y)) ∧ St w w' [] := by
  refine enter2 Tryz.func179 rfl Tryz.ntmps179 (by decide) ?_
  refine wp_seq ?_
  refine sx_region ?_
  refine sx rfl (stp_box_agg (cs := cs) rfl (St.start w) ?_); intro b1 W2 hb3 st4
  refine sx rfl (stp_box_agg (cs := ds) rfl st4 ?_); intro b6 W7 hb8 st9
  refine sx rfl (stp_assign (v := .bool false) rfl ?_)
  refine sx_nil ?_
  refine wp_seq ?_
  refine wp_seq ?_
  refine sx_region ?_
  refine sx rfl (stp_fieldAddr fa_Plan_0 rfl ?_)
  have hk11 := hc
  obtain ⟨v11_0, g11_0, rfl, hok11, h11_0, rfl⟩ := hk11
  refine sx rfl (stp_load_bx ld_int rfl rfl (st9.get 1 rfl) (i := 0) rfl rfl ?_)
  refine sx rfl (stp_fieldAddr fa_Plan_0 rfl ?_)
  have hk12 := hd
  obtain ⟨v12_0, g12_0, rfl, hok12, h12_0, rfl⟩ := hk12
  refine sx rfl (stp_load_bx ld_int rfl rfl (st9.get 0 rfl) (i := 0) rfl rfl ?_)
  refine sx rfl (stp_neq rfl rfl ?_)
  refine sx_nil ?_
  refine sx_if rfl (fun h13 => ?_) (fun h13 => ?_)
  · skip
    have h13p := of_decide_eq_false (bnot_t h13)
    refine wp_seq ?_
    refine sx_region ?_
    refine sx rfl (stp_assign (v := .bool false) rfl ?_)
    refine sx_nil ?_
    refine wp_ret ?_; repeat (first | refine then_ret ?_ | refine blk_ret ?_)
    refine ret1 Tryz.results179 rfl ?_
    exact ⟨congrArg (fun z => Ending.returned (.bool z)) (eqB_f (fun e => by subst e; first | exact h13p rfl | exact absurd (bnot_t h13) (by rw [eqB_t rfl]; decide) | exact absurd (bnot_t h13) (by simp))).symm, st9.bare⟩
  · skip
    have h13p := of_decide_eq_true (bnot_f h13)
    refine wp_skip ?_
    refine wp_seq ?_
    refine wp_seq ?_
    refine sx_region ?_
    refine sx rfl (stp_fieldAddr fa_Plan_1 rfl ?_)
    refine sx rfl (stp_load_bx ld_int rfl rfl (st9.get 1 rfl) (i := 1) rfl rfl ?_)
    refine sx rfl (stp_fieldAddr fa_Plan_1 rfl ?_)
    refine sx rfl (stp_load_bx ld_int rfl rfl (st9.get 0 rfl) (i := 1) rfl rfl ?_)
    refine sx rfl (stp_neq rfl rfl ?_)
    refine sx_nil ?_
    refine sx_if rfl (fun h14 => ?_) (fun h14 => ?_)
    · skip
      have h14p := of_decide_eq_false (bnot_t h14)
      refine wp_seq ?_
      refine sx_region ?_
      refine sx rfl (stp_assign (v := .bool false) rfl ?_)
      refine sx_nil ?_
      refine wp_ret ?_; repeat (first | refine then_ret ?_ | refine blk_ret ?_)
      refine ret1 Tryz.results179 rfl ?_
      exact ⟨congrArg (fun z => Ending.returned (.bool z)) (eqB_f (fun e => by subst e; first | exact h14p rfl | exact absurd (bnot_t h14) (by rw [eqB_t rfl]; decide) | exact absurd (bnot_t h14) (by simp))).symm, st9.bare⟩
    · skip
      have h14p := of_decide_eq_true (bnot_f h14)
      refine wp_skip ?_
      refine wp_seq ?_
      refine wp_seq ?_
      refine sx_region ?_
      refine sx rfl (stp_fieldAddr fa_Plan_2 rfl ?_)
      refine sx rfl (stp_load_bx ld_int rfl rfl (st9.get 1 rfl) (i := 2) rfl rfl ?_)
      refine sx rfl (stp_fieldAddr fa_Plan_2 rfl ?_)
      refine sx rfl (stp_load_bx ld_int rfl rfl (st9.get 0 rfl) (i := 2) rfl rfl ?_)
      refine sx rfl (stp_neq rfl rfl ?_)
      refine sx_nil ?_
      refine sx_if rfl (fun h15 => ?_) (fun h15 => ?_)
      · skip
        have h15p := of_decide_eq_false (bnot_t h15)
        refine wp_seq ?_
        refine sx_region ?_
        refine sx rfl (stp_assign (v := .bool false) rfl ?_)
        refine sx_nil ?_
        refine wp_ret ?_; repeat (first | refine then_ret ?_ | refine blk_ret ?_)
        refine ret1 Tryz.results179 rfl ?_
        exact ⟨congrArg (fun z => Ending.returned (.bool z)) (eqB_f (fun e => by subst e; first | exact h15p rfl | exact absurd (bnot_t h15) (by rw [eqB_t rfl]; decide) | exact absurd (bnot_t h15) (by simp))).symm, st9.bare⟩
      · skip
        have h15p := of_decide_eq_true (bnot_f h15)
        refine wp_skip ?_
        refine wp_seq ?_
        refine wp_seq ?_
        refine sx_region ?_
        refine sx rfl (stp_fieldAddr fa_Plan_3 rfl ?_)
        refine sx rfl (stp_load_bx ld_int rfl rfl (st9.get 1 rfl) (i := 3) rfl rfl ?_)
        refine sx rfl (stp_fieldAddr fa_Plan_3 rfl ?_)
        refine sx rfl (stp_load_bx ld_int rfl rfl (st9.get 0 rfl) (i := 3) rfl rfl ?_)
        refine sx rfl (stp_neq rfl rfl ?_)
        refine sx_nil ?_
        refine sx_if rfl (fun h16 => ?_) (fun h16 => ?_)
        · skip
          have h16p := of_decide_eq_false (bnot_t h16)
          refine wp_seq ?_
          refine sx_region ?_
          refine sx rfl (stp_assign (v := .bool false) rfl ?_)
          refine sx_nil ?_
          refine wp_ret ?_; repeat (first | refine then_ret ?_ | refine blk_ret ?_)
          refine ret1 Tryz.results179 rfl ?_
          exact ⟨congrArg (fun z => Ending.returned (.bool z)) (eqB_f (fun e => by subst e; first | exact h16p rfl | exact absurd (bnot_t h16) (by rw [eqB_t rfl]; decide) | exact absurd (bnot_t h16) (by simp))).symm, st9.bare⟩
        · skip
          have h16p := of_decide_eq_true (bnot_f h16)
          refine wp_skip ?_
          refine wp_seq ?_
          refine wp_seq ?_
          refine sx_region ?_
          refine sx rfl (stp_fieldAddr fa_Plan_4 rfl ?_)
          refine sx rfl (stp_load_bx ld_EdgeS rfl rfl (st9.get 1 rfl) (i := 4) rfl rfl ?_)
          refine sx rfl (stp_fieldAddr fa_Plan_4 rfl ?_)
          refine sx rfl (stp_load_bx ld_EdgeS rfl rfl (st9.get 0 rfl) (i := 4) rfl rfl ?_)
          refine sx rfl (stp_call2 Tryz.func224 rfl rfl rfl ((eqEdgeS_n W7 (h11_0.below st9.below) (h12_0.below st9.below)).mono ?_)); rintro _ W17 ⟨rfl, hk18⟩; refine ⟨_, rfl, ?_⟩
          have st19 := St.call st9 hk18
          refine sx rfl (stp_not rfl ?_)
          refine sx_nil ?_
          refine sx_if rfl (fun h21 => ?_) (fun h21 => ?_)
          · skip
            refine wp_seq ?_
            refine sx_region ?_
            refine sx rfl (stp_assign (v := .bool false) rfl ?_)
            refine sx_nil ?_
            refine wp_ret ?_; repeat (first | refine then_ret ?_ | refine blk_ret ?_)
            refine ret1 Tryz.results179 rfl ?_
            exact ⟨congrArg (fun z => Ending.returned (.bool z)) (eqB_f (fun e => by subst e; first | exact absurd (bnot_t h21) (by rw [eqB_t rfl]; decide) | exact absurd (bnot_t h21) (by simp))).symm, st19.bare⟩
          · skip
            refine wp_skip ?_
            refine wp_seq ?_
            refine sx_region ?_
            refine sx rfl (stp_assign (v := .bool true) rfl ?_)
            refine sx_nil ?_
            refine wp_ret ?_; repeat (first | refine then_ret ?_ | refine blk_ret ?_)
            refine ret1 Tryz.results179 rfl ?_
            exact ⟨congrArg (fun z => Ending.returned (.bool z)) (eqB_t (Plan_ext h13p h14p h15p h16p (eqB_iff.1 (bnot_f h21)))).symm, st19.bare⟩
theorem Entry_ext {x y : Entry} (h0 : x.prio = y.prio) (h1 : x.seq = y.seq) (h2 : x.run = y.run) (h3 : x.task = y.task) : x = y := by
  cases x; cases y; simp only at *; subst_vars; rfl
set_option maxHeartbeats 2000000 in
theorem eqEntry_n (w : World) {x y : Entry} {cs ds : List Value} {fp gp : List Nat} (hc : Shape.C w cs x fp) (hd : Shape.C w ds y gp) :
    Calls Tryz.prog 178 #[.agg cs.toArray, .agg ds.toArray] w fun e w' => e = .returned (.bool (eqB x y)) ∧ St w w' [] := by
  refine enter2 Tryz.func178 rfl Tryz.ntmps178 (by decide) ?_
  refine wp_seq ?_
  refine sx_region ?_
  refine sx rfl (stp_box_agg (cs := cs) rfl (St.start w) ?_); intro b1 W2 hb3 st4
  refine sx rfl (stp_box_agg (cs := ds) rfl st4 ?_); intro b6 W7 hb8 st9
  refine sx rfl (stp_assign (v := .bool false) rfl ?_)
  refine sx_nil ?_
  refine wp_seq ?_
  refine wp_seq ?_
  refine sx_region ?_
  refine sx rfl (stp_fieldAddr fa_Entry_0 rfl ?_)
  have hk11 := hc
  obtain ⟨he11, rfl, hok11⟩ := hk11
  have he11 : _ = [I x.prio, I x.seq, I x.run, I x.task] := he11
  subst he11
  refine sx rfl (stp_load_bx ld_int rfl rfl (st9.get 1 rfl) (i := 0) rfl rfl ?_)
  refine sx rfl (stp_fieldAddr fa_Entry_0 rfl ?_)
  have hk12 := hd
  obtain ⟨he12, rfl, hok12⟩ := hk12
  have he12 : _ = [I y.prio, I y.seq, I y.run, I y.task] := he12
  subst he12
  refine sx rfl (stp_load_bx ld_int rfl rfl (st9.get 0 rfl) (i := 0) rfl rfl ?_)
  refine sx rfl (stp_neq rfl rfl ?_)
  refine sx_nil ?_
  refine sx_if rfl (fun h13 => ?_) (fun h13 => ?_)
  · skip
    have h13p := of_decide_eq_false (bnot_t h13)
    refine wp_seq ?_
    refine sx_region ?_
    refine sx rfl (stp_assign (v := .bool false) rfl ?_)
    refine sx_nil ?_
    refine wp_ret ?_; repeat (first | refine then_ret ?_ | refine blk_ret ?_)
    refine ret1 Tryz.results178 rfl ?_
    exact ⟨congrArg (fun z => Ending.returned (.bool z)) (eqB_f (fun e => by subst e; first | exact h13p rfl | exact absurd (bnot_t h13) (by rw [eqB_t rfl]; decide) | exact absurd (bnot_t h13) (by simp))).symm, st9.bare⟩
  · skip
    have h13p := of_decide_eq_true (bnot_f h13)
    refine wp_skip ?_
    refine wp_seq ?_
    refine wp_seq ?_
    refine sx_region ?_
    refine sx rfl (stp_fieldAddr fa_Entry_1 rfl ?_)
    refine sx rfl (stp_load_bx ld_int rfl rfl (st9.get 1 rfl) (i := 1) rfl rfl ?_)
    refine sx rfl (stp_fieldAddr fa_Entry_1 rfl ?_)
    refine sx rfl (stp_load_bx ld_int rfl rfl (st9.get 0 rfl) (i := 1) rfl rfl ?_)
    refine sx rfl (stp_neq rfl rfl ?_)
    refine sx_nil ?_
    refine sx_if rfl (fun h14 => ?_) (fun h14 => ?_)
    · skip
      have h14p := of_decide_eq_false (bnot_t h14)
      refine wp_seq ?_
      refine sx_region ?_
      refine sx rfl (stp_assign (v := .bool false) rfl ?_)
      refine sx_nil ?_
      refine wp_ret ?_; repeat (first | refine then_ret ?_ | refine blk_ret ?_)
      refine ret1 Tryz.results178 rfl ?_
      exact ⟨congrArg (fun z => Ending.returned (.bool z)) (eqB_f (fun e => by subst e; first | exact h14p rfl | exact absurd (bnot_t h14) (by rw [eqB_t rfl]; decide) | exact absurd (bnot_t h14) (by simp))).symm, st9.bare⟩
    · skip
      have h14p := of_decide_eq_true (bnot_f h14)
      refine wp_skip ?_
      refine wp_seq ?_
      refine wp_seq ?_
      refine sx_region ?_
      refine sx rfl (stp_fieldAddr fa_Entry_2 rfl ?_)
      refine sx rfl (stp_load_bx ld_int rfl rfl (st9.get 1 rfl) (i := 2) rfl rfl ?_)
      refine sx rfl (stp_fieldAddr fa_Entry_2 rfl ?_)
      refine sx rfl (stp_load_bx ld_int rfl rfl (st9.get 0 rfl) (i := 2) rfl rfl ?_)
      refine sx rfl (stp_neq rfl rfl ?_)
      refine sx_nil ?_
      refine sx_if rfl (fun h15 => ?_) (fun h15 => ?_)
      · skip
        have h15p := of_decide_eq_false (bnot_t h15)
        refine wp_seq ?_
        refine sx_region ?_
        refine sx rfl (stp_assign (v := .bool false) rfl ?_)
        refine sx_nil ?_
        refine wp_ret ?_; repeat (first | refine then_ret ?_ | refine blk_ret ?_)
        refine ret1 Tryz.results178 rfl ?_
        exact ⟨congrArg (fun z => Ending.returned (.bool z)) (eqB_f (fun e => by subst e; first | exact h15p rfl | exact absurd (bnot_t h15) (by rw [eqB_t rfl]; decide) | exact absurd (bnot_t h15) (by simp))).symm, st9.bare⟩
      · skip
        have h15p := of_decide_eq_true (bnot_f h15)
        refine wp_skip ?_
        refine wp_seq ?_
        refine wp_seq ?_
        refine sx_region ?_
        refine sx rfl (stp_fieldAddr fa_Entry_3 rfl ?_)
        refine sx rfl (stp_load_bx ld_int rfl rfl (st9.get 1 rfl) (i := 3) rfl rfl ?_)
        refine sx rfl (stp_fieldAddr fa_Entry_3 rfl ?_)
        refine sx rfl (stp_load_bx ld_int rfl rfl (st9.get 0 rfl) (i := 3) rfl rfl ?_)
        refine sx rfl (stp_neq rfl rfl ?_)
        refine sx_nil ?_
        refine sx_if rfl (fun h16 => ?_) (fun h16 => ?_)
        · skip
          have h16p := of_decide_eq_false (bnot_t h16)
          refine wp_seq ?_
          refine sx_region ?_
          refine sx rfl (stp_assign (v := .bool false) rfl ?_)
          refine sx_nil ?_
          refine wp_ret ?_; repeat (first | refine then_ret ?_ | refine blk_ret ?_)
          refine ret1 Tryz.results178 rfl ?_
          exact ⟨congrArg (fun z => Ending.returned (.bool z)) (eqB_f (fun e => by subst e; first | exact h16p rfl | exact absurd (bnot_t h16) (by rw [eqB_t rfl]; decide) | exact absurd (bnot_t h16) (by simp))).symm, st9.bare⟩
        · skip
          have h16p := of_decide_eq_true (bnot_f h16)
          refine wp_skip ?_
          refine wp_seq ?_
          refine sx_region ?_
          refine sx rfl (stp_assign (v := .bool true) rfl ?_)
          refine sx_nil ?_
          refine wp_ret ?_; repeat (first | refine then_ret ?_ | refine blk_ret ?_)
          refine ret1 Tryz.results178 rfl ?_
          exact ⟨congrArg (fun z => Ending.returned (.bool z)) (eqB_t (Entry_ext h13p h14p h15p h16p)).symm, st9.bare⟩
set_option maxHeartbeats 2000000 in
theorem eqEntryS_n (w : World) {v u : Value} {xs ys : List Entry} {fp gp : List Nat} (h : Sl w v xs fp) (g : Sl w u ys gp) :
    Calls Tryz.prog 113 #[v, u] w fun e w' => e = .returned (.bool (eqB xs ys)) ∧ St w w' [] := by
  have hcap := h.len_le
  have hcap2 := g.len_le
  refine enter2 Tryz.func113 rfl Tryz.ntmps113 (by decide) ?_
  refine wp_seq ?_
  refine sx_region ?_
  refine sx rfl (stp_assign (v := .bool false) rfl ?_)
  refine sx_nil ?_
  refine wp_seq ?_
  refine wp_seq ?_
  refine sx_region ?_
  refine sx rfl (stp_move (v := v) rfl ?_)
  refine sx rfl (stp_len sl_EntryS rfl h ?_)
  refine sx rfl (stp_move (v := u) rfl ?_)
  refine sx rfl (stp_len sl_EntryS rfl g ?_)
  refine sx rfl (stp_neq rfl rfl ?_)
  refine sx_nil ?_
  refine sx_if rfl (fun h1 => ?_) (fun h1 => ?_)
  · skip
    have h1p := of_decide_eq_false (bnot_t h1)
    refine wp_seq ?_
    refine sx_region ?_
    refine sx rfl (stp_assign (v := .bool false) rfl ?_)
    refine sx_nil ?_
    refine wp_ret ?_; repeat (first | refine then_ret ?_ | refine blk_ret ?_)
    refine ret1 Tryz.results113 rfl ?_
    exact ⟨congrArg (fun z => Ending.returned (.bool z)) (eqB_f (fun e => h1p (by rw [e]))).symm, (St.start w).bare⟩
  · skip
    have h1p := of_decide_eq_true (bnot_f h1)
    refine wp_skip ?_
    refine wp_seq ?_
    refine wp_seq ?_
    refine sx_region ?_
    refine sx rfl (stp_assign (v := I 0) rfl ?_)
    refine sx_nil ?_
    refine wp_block ?_
    refine sx_loop (fun (m : Nat) (f : Nat → Value) (W : World) => ∃ (k : Nat), k ≤ xs.length ∧ xs.take k = ys.take k ∧ m = xs.length - k ∧ f 0 = v ∧ f 1 = u ∧ f 5 = I (k : Int) ∧ St w W ([])) (xs.length - 0) ?_ ?_
    · exact ⟨0, Nat.zero_le _, rfl, rfl, rfl, rfl, rfl, (St.start w)⟩
    intro m2 f3 W4 hJ5
    obtain ⟨k, hk, htk, rfl, hs7_0, hs7_1, hs7_5, st6⟩ := hJ5
    refine wp_seq ?_
    refine wp_seq ?_
    refine sx_region ?_
    refine sx rfl (stp_move (v := I (k : Int)) hs7_5 ?_)
    refine sx rfl (stp_move (v := v) hs7_0 ?_)
    refine sx rfl (stp_len sl_EntryS rfl h ?_)
    refine sx rfl (stp_lss rfl rfl ?_)
    refine sx_nil ?_
    refine sx_if rfl (fun h8 => ?_) (fun h8 => ?_)
    · skip
      have h8p := of_decide_eq_true h8
      refine wp_skip ?_
      refine wp_seq ?_
      refine wp_block ?_
      refine wp_seq ?_
      have hi51fab : k < xs.length := (by omega)
      have hq_ := idx h (i := k) hi51fab
      obtain ⟨b9, o9, cs9, f9, hp9, hr9, hc9, hm9⟩ := hq_
      have hk10 := hc9
      obtain ⟨he10, rfl, hok10⟩ := hk10
      have he10 : _ = [I (xs[k]'hi51fab).prio, I (xs[k]'hi51fab).seq, I (xs[k]'hi51fab).run, I (xs[k]'hi51fab).task] := he10
      subst he10
      have hi28e79 : k < ys.length := (by omega)
      have hq_ := idx g (i := k) hi28e79
      obtain ⟨b11, o11, cs11, f11, hp11, hr11, hc11, hm11⟩ := hq_
      have hk12 := hc11
      obtain ⟨he12, rfl, hok12⟩ := hk12
      have he12 : _ = [I (ys[k]'hi28e79).prio, I (ys[k]'hi28e79).seq, I (ys[k]'hi28e79).run, I (ys[k]'hi28e79).task] := he12
      subst he12
      refine sx_any [Pl.is (v) (Sl.yl h), Pl.is (I (k : Int)), Pl.is (.pointer (some ⟨b9, o9, none⟩)), Pl.is (.agg #[I (xs[k]'hi51fab).prio, I (xs[k]'hi51fab).seq, I (xs[k]'hi51fab).run, I (xs[k]'hi51fab).task]), Pl.is (u) (Sl.yl g), Pl.is (I (k : Int)), Pl.is (.pointer (some ⟨b11, o11, none⟩)), Pl.is (.agg #[I (ys[k]'hi28e79).prio, I (ys[k]'hi28e79).seq, I (ys[k]'hi28e79).run, I (ys[k]'hi28e79).task]), Pl.bool (eqB (xs[k]'hi51fab) (ys[k]'hi28e79)), Pl.bool (!(eqB (xs[k]'hi51fab) (ys[k]'hi28e79)))] mix (by rfl) st6 ⟨(fun f W hst hbl hd hf => stp_move (v := v) ((hf 0 rfl).trans hs7_0) ⟨Below.refl _ _, rfl⟩), (fun f W hst hbl hd hf => stp_move (v := I (k : Int)) ((hf 5 rfl).trans hs7_5) ⟨Below.refl _ _, rfl⟩), (fun f W hst hbl hd hf => stp_indexAddr sl_EntryS (hd 0 17 rfl rfl) hp9 (hd 1 18 rfl rfl) rfl ⟨Below.refl _ _, rfl⟩), (fun f W hst hbl hd hf => stp_load_rgs (cs := [I (xs[k]'hi51fab).prio, I (xs[k]'hi51fab).seq, I (xs[k]'hi51fab).run, I (xs[k]'hi51fab).task]) ld_Entry rfl (hd 2 19 rfl rfl) hr9 hst.below (i := 0) rfl rfl rfl ⟨Below.refl _ _, rfl⟩), (fun f W hst hbl hd hf => stp_move (v := u) ((hf 1 rfl).trans hs7_1) ⟨Below.refl _ _, rfl⟩), (fun f W hst hbl hd hf => stp_move (v := I (k : Int)) ((hf 5 rfl).trans hs7_5) ⟨Below.refl _ _, rfl⟩), (fun f W hst hbl hd hf => stp_indexAddr sl_EntryS (hd 4 21 rfl rfl) hp11 (hd 5 22 rfl rfl) rfl ⟨Below.refl _ _, rfl⟩), (fun f W hst hbl hd hf => stp_load_rgs (cs := [I (ys[k]'hi28e79).prio, I (ys[k]'hi28e79).seq, I (ys[k]'hi28e79).run, I (ys[k]'hi28e79).task]) ld_Entry rfl (hd 6 23 rfl rfl) hr11 hst.below (i := 0) rfl rfl rfl ⟨Below.refl _ _, rfl⟩), (fun f W hst hbl hd hf => stp_call2 Tryz.func178 rfl (hd 3 20 rfl rfl) (hd 7 24 rfl rfl) ((eqEntry_n W hc9 hc11).mono (by rintro e W2 ⟨rfl, hk⟩; exact ⟨_, rfl, hk.below, rfl⟩))), (fun f W hst hbl hd hf => stp_not (hd 8 25 rfl rfl) ⟨Below.refl _ _, rfl⟩), trivial⟩ ?_
      intro f13 W14 st15 hb16 hv17 hf18
      refine sx_if (hv17 9 26 (by decide) rfl) (fun h19 => ?_) (fun h19 => ?_)
      · skip
        refine wp_seq ?_
        refine sx_region ?_
        refine sx rfl (stp_assign (v := .bool false) rfl ?_)
        refine sx_nil ?_
        refine wp_ret ?_; repeat (first | refine then_ret ?_ | refine blk_ret ?_)
        refine ret1 Tryz.results113 rfl ?_
        have hne : ¬ xs[k] = ys[k]'(by omega) := fun e => absurd (bnot_t h19) (by rw [eqB_t e]; decide)
        exact ⟨congrArg (fun z => Ending.returned (.bool z)) (eqB_f (fun e => hne (by subst e; rfl))).symm, st15.bare⟩
      · skip
        refine wp_skip ?_
        refine sx_region ?_
        refine sx rfl (stp_move (v := I (k : Int)) ((hf18 5 rfl).trans hs7_5) ?_)
        refine sx rfl (stp_add rfl rfl (by (simp only [I64] at *; omega)) ?_)
        refine sx rfl (stp_assign (v := I ((k : Int) + 1)) rfl ?_)
        refine sx_nil ?_
        exact ⟨_, xs.length - (k + 1), (by omega), rfl, k + 1, (by omega), (take_eq_succ (by omega) (by omega) htk (eqB_iff.1 (bnot_f h19))), rfl, ((hf18 0 rfl).trans hs7_0), ((hf18 1 rfl).trans hs7_1), rfl, st15⟩
    · skip
      have h8p := of_decide_eq_false h8
      refine wp_exit ?_
      refine wp_seq ?_
      refine sx_region ?_
      refine sx rfl (stp_assign (v := .bool true) rfl ?_)
      refine sx_nil ?_
      refine wp_ret ?_; repeat (first | refine then_ret ?_ | refine blk_ret ?_)
      refine ret1 Tryz.results113 rfl ?_
      obtain rfl : k = xs.length := by omega
      rw [List.take_length, List.take_of_length_le (by omega)] at htk
      exact ⟨congrArg (fun z => Ending.returned (.bool z)) (eqB_t htk).symm, st6.bare⟩
theorem Task_ext {x y : Task} (h0 : x.state = y.state) (h1 : x.need = y.need) (h2 : x.try_ = y.try_) (h3 : x.until_ = y.until_) : x = y := by
  cases x; cases y; simp only at *; subst_vars; rfl
set_option maxHeartbeats 2000000 in
theorem eqTask_n (w : World) {x y : Task} {cs ds : List Value} {fp gp : List Nat} (hc : Shape.C w cs x fp) (hd : Shape.C w ds y gp) :
    Calls Tryz.prog 225 #[.agg cs.toArray, .agg ds.toArray] w fun e w' => e = .returned (.bool (eqB x y)) ∧ St w w' [] := by
  refine enter2 Tryz.func225 rfl Tryz.ntmps225 (by decide) ?_
  refine wp_seq ?_
  refine sx_region ?_
  refine sx rfl (stp_box_agg (cs := cs) rfl (St.start w) ?_); intro b1 W2 hb3 st4
  refine sx rfl (stp_box_agg (cs := ds) rfl st4 ?_); intro b6 W7 hb8 st9
  refine sx rfl (stp_assign (v := .bool false) rfl ?_)
  refine sx_nil ?_
  refine wp_seq ?_
  refine wp_seq ?_
  refine sx_region ?_
  refine sx rfl (stp_fieldAddr fa_Task_0 rfl ?_)
  have hk11 := hc
  obtain ⟨he11, rfl, hok11⟩ := hk11
  have he11 : _ = [I x.state, I x.need, I x.try_, I x.until_] := he11
  subst he11
  refine sx rfl (stp_load_bx ld_int rfl rfl (st9.get 1 rfl) (i := 0) rfl rfl ?_)
  refine sx rfl (stp_fieldAddr fa_Task_0 rfl ?_)
  have hk12 := hd
  obtain ⟨he12, rfl, hok12⟩ := hk12
  have he12 : _ = [I y.state, I y.need, I y.try_, I y.until_] := he12
  subst he12
  refine sx rfl (stp_load_bx ld_int rfl rfl (st9.get 0 rfl) (i := 0) rfl rfl ?_)
  refine sx rfl (stp_neq rfl rfl ?_)
  refine sx_nil ?_
  refine sx_if rfl (fun h13 => ?_) (fun h13 => ?_)
  · skip
    have h13p := of_decide_eq_false (bnot_t h13)
    refine wp_seq ?_
    refine sx_region ?_
    refine sx rfl (stp_assign (v := .bool false) rfl ?_)
    refine sx_nil ?_
    refine wp_ret ?_; repeat (first | refine then_ret ?_ | refine blk_ret ?_)
    refine ret1 Tryz.results225 rfl ?_
    exact ⟨congrArg (fun z => Ending.returned (.bool z)) (eqB_f (fun e => by subst e; first | exact h13p rfl | exact absurd (bnot_t h13) (by rw [eqB_t rfl]; decide) | exact absurd (bnot_t h13) (by simp))).symm, st9.bare⟩
  · skip
    have h13p := of_decide_eq_true (bnot_f h13)
    refine wp_skip ?_
    refine wp_seq ?_
    refine wp_seq ?_
    refine sx_region ?_
    refine sx rfl (stp_fieldAddr fa_Task_1 rfl ?_)
    refine sx rfl (stp_load_bx ld_int rfl rfl (st9.get 1 rfl) (i := 1) rfl rfl ?_)
    refine sx rfl (stp_fieldAddr fa_Task_1 rfl ?_)
    refine sx rfl (stp_load_bx ld_int rfl rfl (st9.get 0 rfl) (i := 1) rfl rfl ?_)
    refine sx rfl (stp_neq rfl rfl ?_)
    refine sx_nil ?_
    refine sx_if rfl (fun h14 => ?_) (fun h14 => ?_)
    · skip
      have h14p := of_decide_eq_false (bnot_t h14)
      refine wp_seq ?_
      refine sx_region ?_
      refine sx rfl (stp_assign (v := .bool false) rfl ?_)
      refine sx_nil ?_
      refine wp_ret ?_; repeat (first | refine then_ret ?_ | refine blk_ret ?_)
      refine ret1 Tryz.results225 rfl ?_
      exact ⟨congrArg (fun z => Ending.returned (.bool z)) (eqB_f (fun e => by subst e; first | exact h14p rfl | exact absurd (bnot_t h14) (by rw [eqB_t rfl]; decide) | exact absurd (bnot_t h14) (by simp))).symm, st9.bare⟩
    · skip
      have h14p := of_decide_eq_true (bnot_f h14)
      refine wp_skip ?_
      refine wp_seq ?_
      refine wp_seq ?_
      refine sx_region ?_
      refine sx rfl (stp_fieldAddr fa_Task_2 rfl ?_)
      refine sx rfl (stp_load_bx ld_int rfl rfl (st9.get 1 rfl) (i := 2) rfl rfl ?_)
      refine sx rfl (stp_fieldAddr fa_Task_2 rfl ?_)
      refine sx rfl (stp_load_bx ld_int rfl rfl (st9.get 0 rfl) (i := 2) rfl rfl ?_)
      refine sx rfl (stp_neq rfl rfl ?_)
      refine sx_nil ?_
      refine sx_if rfl (fun h15 => ?_) (fun h15 => ?_)
      · skip
        have h15p := of_decide_eq_false (bnot_t h15)
        refine wp_seq ?_
        refine sx_region ?_
        refine sx rfl (stp_assign (v := .bool false) rfl ?_)
        refine sx_nil ?_
        refine wp_ret ?_; repeat (first | refine then_ret ?_ | refine blk_ret ?_)
        refine ret1 Tryz.results225 rfl ?_
        exact ⟨congrArg (fun z => Ending.returned (.bool z)) (eqB_f (fun e => by subst e; first | exact h15p rfl | exact absurd (bnot_t h15) (by rw [eqB_t rfl]; decide) | exact absurd (bnot_t h15) (by simp))).symm, st9.bare⟩
      · skip
        have h15p := of_decide_eq_true (bnot_f h15)
        refine wp_skip ?_
        refine wp_seq ?_
        refine wp_seq ?_
        refine sx_region ?_
        refine sx rfl (stp_fieldAddr fa_Task_3 rfl ?_)
        refine sx rfl (stp_load_bx ld_int rfl rfl (st9.get 1 rfl) (i := 3) rfl rfl ?_)
        refine sx rfl (stp_fieldAddr fa_Task_3 rfl ?_)
        refine sx rfl (stp_load_bx ld_int rfl rfl (st9.get 0 rfl) (i := 3) rfl rfl ?_)
        refine sx rfl (stp_neq rfl rfl ?_)
        refine sx_nil ?_
        refine sx_if rfl (fun h16 => ?_) (fun h16 => ?_)
        · skip
          have h16p := of_decide_eq_false (bnot_t h16)
          refine wp_seq ?_
          refine sx_region ?_
          refine sx rfl (stp_assign (v := .bool false) rfl ?_)
          refine sx_nil ?_
          refine wp_ret ?_; repeat (first | refine then_ret ?_ | refine blk_ret ?_)
          refine ret1 Tryz.results225 rfl ?_
          exact ⟨congrArg (fun z => Ending.returned (.bool z)) (eqB_f (fun e => by subst e; first | exact h16p rfl | exact absurd (bnot_t h16) (by rw [eqB_t rfl]; decide) | exact absurd (bnot_t h16) (by simp))).symm, st9.bare⟩
        · skip
          have h16p := of_decide_eq_true (bnot_f h16)
          refine wp_skip ?_
          refine wp_seq ?_
          refine sx_region ?_
          refine sx rfl (stp_assign (v := .bool true) rfl ?_)
          refine sx_nil ?_
          refine wp_ret ?_; repeat (first | refine then_ret ?_ | refine blk_ret ?_)
          refine ret1 Tryz.results225 rfl ?_
          exact ⟨congrArg (fun z => Ending.returned (.bool z)) (eqB_t (Task_ext h13p h14p h15p h16p)).symm, st9.bare⟩
set_option maxHeartbeats 2000000 in
theorem eqTaskS_n (w : World) {v u : Value} {xs ys : List Task} {fp gp : List Nat} (h : Sl w v xs fp) (g : Sl w u ys gp) :
    Calls Tryz.prog 180 #[v, u] w fun e w' => e = .returned (.bool (eqB xs ys)) ∧ St w w' [] := by
  have hcap := h.len_le
  have hcap2 := g.len_le
  refine enter2 Tryz.func180 rfl Tryz.ntmps180 (by decide) ?_
  refine wp_seq ?_
  refine sx_region ?_
  refine sx rfl (stp_assign (v := .bool false) rfl ?_)
  refine sx_nil ?_
  refine wp_seq ?_
  refine wp_seq ?_
  refine sx_region ?_
  refine sx rfl (stp_move (v := v) rfl ?_)
  refine sx rfl (stp_len sl_TaskS rfl h ?_)
  refine sx rfl (stp_move (v := u) rfl ?_)
  refine sx rfl (stp_len sl_TaskS rfl g ?_)
  refine sx rfl (stp_neq rfl rfl ?_)
  refine sx_nil ?_
  refine sx_if rfl (fun h1 => ?_) (fun h1 => ?_)
  · skip
    have h1p := of_decide_eq_false (bnot_t h1)
    refine wp_seq ?_
    refine sx_region ?_
    refine sx rfl (stp_assign (v := .bool false) rfl ?_)
    refine sx_nil ?_
    refine wp_ret ?_; repeat (first | refine then_ret ?_ | refine blk_ret ?_)
    refine ret1 Tryz.results180 rfl ?_
    exact ⟨congrArg (fun z => Ending.returned (.bool z)) (eqB_f (fun e => h1p (by rw [e]))).symm, (St.start w).bare⟩
  · skip
    have h1p := of_decide_eq_true (bnot_f h1)
    refine wp_skip ?_
    refine wp_seq ?_
    refine wp_seq ?_
    refine sx_region ?_
    refine sx rfl (stp_assign (v := I 0) rfl ?_)
    refine sx_nil ?_
    refine wp_block ?_
    refine sx_loop (fun (m : Nat) (f : Nat → Value) (W : World) => ∃ (k : Nat), k ≤ xs.length ∧ xs.take k = ys.take k ∧ m = xs.length - k ∧ f 0 = v ∧ f 1 = u ∧ f 5 = I (k : Int) ∧ St w W ([])) (xs.length - 0) ?_ ?_
    · exact ⟨0, Nat.zero_le _, rfl, rfl, rfl, rfl, rfl, (St.start w)⟩
    intro m2 f3 W4 hJ5
    obtain ⟨k, hk, htk, rfl, hs7_0, hs7_1, hs7_5, st6⟩ := hJ5
    refine wp_seq ?_
    refine wp_seq ?_
    refine sx_region ?_
    refine sx rfl (stp_move (v := I (k : Int)) hs7_5 ?_)
    refine sx rfl (stp_move (v := v) hs7_0 ?_)
    refine sx rfl (stp_len sl_TaskS rfl h ?_)
    refine sx rfl (stp_lss rfl rfl ?_)
    refine sx_nil ?_
    refine sx_if rfl (fun h8 => ?_) (fun h8 => ?_)
    · skip
      have h8p := of_decide_eq_true h8
      refine wp_skip ?_
      refine wp_seq ?_
      refine wp_block ?_
      refine wp_seq ?_
      have hi51fab : k < xs.length := (by omega)
      have hq_ := idx h (i := k) hi51fab
      obtain ⟨b9, o9, cs9, f9, hp9, hr9, hc9, hm9⟩ := hq_
      have hk10 := hc9
      obtain ⟨he10, rfl, hok10⟩ := hk10
      have he10 : _ = [I (xs[k]'hi51fab).state, I (xs[k]'hi51fab).need, I (xs[k]'hi51fab).try_, I (xs[k]'hi51fab).until_] := he10
      subst he10
      have hi28e79 : k < ys.length := (by omega)
      have hq_ := idx g (i := k) hi28e79
      obtain ⟨b11, o11, cs11, f11, hp11, hr11, hc11, hm11⟩ := hq_
      have hk12 := hc11
      obtain ⟨he12, rfl, hok12⟩ := hk12
      have he12 : _ = [I (ys[k]'hi28e79).state, I (ys[k]'hi28e79).need, I (ys[k]'hi28e79).try_, I (ys[k]'hi28e79).until_] := he12
      subst he12
      refine sx_any [Pl.is (v) (Sl.yl h), Pl.is (I (k : Int)), Pl.is (.pointer (some ⟨b9, o9, none⟩)), Pl.is (.agg #[I (xs[k]'hi51fab).state, I (xs[k]'hi51fab).need, I (xs[k]'hi51fab).try_, I (xs[k]'hi51fab).until_]), Pl.is (u) (Sl.yl g), Pl.is (I (k : Int)), Pl.is (.pointer (some ⟨b11, o11, none⟩)), Pl.is (.agg #[I (ys[k]'hi28e79).state, I (ys[k]'hi28e79).need, I (ys[k]'hi28e79).try_, I (ys[k]'hi28e79).until_]), Pl.bool (eqB (xs[k]'hi51fab) (ys[k]'hi28e79)), Pl.bool (!(eqB (xs[k]'hi51fab) (ys[k]'hi28e79)))] mix (by rfl) st6 ⟨(fun f W hst hbl hd hf => stp_move (v := v) ((hf 0 rfl).trans hs7_0) ⟨Below.refl _ _, rfl⟩), (fun f W hst hbl hd hf => stp_move (v := I (k : Int)) ((hf 5 rfl).trans hs7_5) ⟨Below.refl _ _, rfl⟩), (fun f W hst hbl hd hf => stp_indexAddr sl_TaskS (hd 0 17 rfl rfl) hp9 (hd 1 18 rfl rfl) rfl ⟨Below.refl _ _, rfl⟩), (fun f W hst hbl hd hf => stp_load_rgs (cs := [I (xs[k]'hi51fab).state, I (xs[k]'hi51fab).need, I (xs[k]'hi51fab).try_, I (xs[k]'hi51fab).until_]) ld_Task rfl (hd 2 19 rfl rfl) hr9 hst.below (i := 0) rfl rfl rfl ⟨Below.refl _ _, rfl⟩), (fun f W hst hbl hd hf => stp_move (v := u) ((hf 1 rfl).trans hs7_1) ⟨Below.refl _ _, rfl⟩), (fun f W hst hbl hd hf => stp_move (v := I (k : Int)) ((hf 5 rfl).trans hs7_5) ⟨Below.refl _ _, rfl⟩), (fun f W hst hbl hd hf => stp_indexAddr sl_TaskS (hd 4 21 rfl rfl) hp11 (hd 5 22 rfl rfl) rfl ⟨Below.refl _ _, rfl⟩), (fun f W hst hbl hd hf => stp_load_rgs (cs := [I (ys[k]'hi28e79).state, I (ys[k]'hi28e79).need, I (ys[k]'hi28e79).try_, I (ys[k]'hi28e79).until_]) ld_Task rfl (hd 6 23 rfl rfl) hr11 hst.below (i := 0) rfl rfl rfl ⟨Below.refl _ _, rfl⟩), (fun f W hst hbl hd hf => stp_call2 Tryz.func225 rfl (hd 3 20 rfl rfl) (hd 7 24 rfl rfl) ((eqTask_n W hc9 hc11).mono (by rintro e W2 ⟨rfl, hk⟩; exact ⟨_, rfl, hk.below, rfl⟩))), (fun f W hst hbl hd hf => stp_not (hd 8 25 rfl rfl) ⟨Below.refl _ _, rfl⟩), trivial⟩ ?_
      intro f13 W14 st15 hb16 hv17 hf18
      refine sx_if (hv17 9 26 (by decide) rfl) (fun h19 => ?_) (fun h19 => ?_)
      · skip
        refine wp_seq ?_
        refine sx_region ?_
        refine sx rfl (stp_assign (v := .bool false) rfl ?_)
        refine sx_nil ?_
        refine wp_ret ?_; repeat (first | refine then_ret ?_ | refine blk_ret ?_)
        refine ret1 Tryz.results180 rfl ?_
        have hne : ¬ xs[k] = ys[k]'(by omega) := fun e => absurd (bnot_t h19) (by rw [eqB_t e]; decide)
        exact ⟨congrArg (fun z => Ending.returned (.bool z)) (eqB_f (fun e => hne (by subst e; rfl))).symm, st15.bare⟩
      · skip
        refine wp_skip ?_
        refine sx_region ?_
        refine sx rfl (stp_move (v := I (k : Int)) ((hf18 5 rfl).trans hs7_5) ?_)
        refine sx rfl (stp_add rfl rfl (by (simp only [I64] at *; omega)) ?_)
        refine sx rfl (stp_assign (v := I ((k : Int) + 1)) rfl ?_)
        refine sx_nil ?_
        exact ⟨_, xs.length - (k + 1), (by omega), rfl, k + 1, (by omega), (take_eq_succ (by omega) (by omega) htk (eqB_iff.1 (bnot_f h19))), rfl, ((hf18 0 rfl).trans hs7_0), ((hf18 1 rfl).trans hs7_1), rfl, st15⟩
    · skip
      have h8p := of_decide_eq_false h8
      refine wp_exit ?_
      refine wp_seq ?_
      refine sx_region ?_
      refine sx rfl (stp_assign (v := .bool true) rfl ?_)
      refine sx_nil ?_
      refine wp_ret ?_; repeat (first | refine then_ret ?_ | refine blk_ret ?_)
      refine ret1 Tryz.results180 rfl ?_
      obtain rfl : k = xs.length := by omega
      rw [List.take_length, List.take_of_length_le (by omega)] at htk
      exact ⟨congrArg (fun z => Ending.returned (.bool z)) (eqB_t htk).symm, st6.bare⟩
theorem Run_ext {x y : Run} (h0 : x.id = y.id) (h1 : x.plan = y.plan) (h2 : x.state = y.state) (h3 : x.tasks = y.tasks) : x = y := by
  cases x; cases y; simp only at *; subst_vars; rfl
set_option maxHeartbeats 2000000 in
theorem eqRun_n (w : World) {x y : Run} {cs ds : List Value} {fp gp : List Nat} (hc : Shape.C w cs x fp) (hd : Shape.C w ds y gp) :
    Calls Tryz.prog 114 #[.agg cs.toArray, .agg ds.toArray] w fun e w' => e = .returned (.bool (eqB x y)) ∧ St w w' [] := by
  refine enter2 Tryz.func114 rfl Tryz.ntmps114 (by decide) ?_
  refine wp_seq ?_
  refine sx_region ?_
  refine sx rfl (stp_box_agg (cs := cs) rfl (St.start w) ?_); intro b1 W2 hb3 st4
  refine sx rfl (stp_box_agg (cs := ds) rfl st4 ?_); intro b6 W7 hb8 st9
  refine sx rfl (stp_assign (v := .bool false) rfl ?_)
  refine sx_nil ?_
  refine wp_seq ?_
  refine wp_seq ?_
  refine sx_region ?_
  refine sx rfl (stp_fieldAddr fa_Run_0 rfl ?_)
  have hk11 := hc
  obtain ⟨v11_0, v11_1, g11_0, g11_1, rfl, hok11, h11_0, h11_1, rfl⟩ := hk11
  refine sx rfl (stp_load_bx ld_int rfl rfl (st9.get 1 rfl) (i := 0) rfl rfl ?_)
  refine sx rfl (stp_fieldAddr fa_Run_0 rfl ?_)
  have hk12 := hd
  obtain ⟨v12_0, v12_1, g12_0, g12_1, rfl, hok12, h12_0, h12_1, rfl⟩ := hk12
  refine sx rfl (stp_load_bx ld_int rfl rfl (st9.get 0 rfl) (i := 0) rfl rfl ?_)
  refine sx rfl (stp_neq rfl rfl ?_)
  refine sx_nil ?_
  refine sx_if rfl (fun h13 => ?_) (fun h13 => ?_)
  · skip
    have h13p := of_decide_eq_false (bnot_t h13)
    refine wp_seq ?_
    refine sx_region ?_
    refine sx rfl (stp_assign (v := .bool false) rfl ?_)
    refine sx_nil ?_
    refine wp_ret ?_; repeat (first | refine then_ret ?_ | refine blk_ret ?_)
    refine ret1 Tryz.results114 rfl ?_
    exact ⟨congrArg (fun z => Ending.returned (.bool z)) (eqB_f (fun e => by subst e; first | exact h13p rfl | exact absurd (bnot_t h13) (by rw [eqB_t rfl]; decide) | exact absurd (bnot_t h13) (by simp))).symm, st9.bare⟩
  · skip
    have h13p := of_decide_eq_true (bnot_f h13)
    refine wp_skip ?_
    refine wp_seq ?_
    refine wp_seq ?_
    refine sx_region ?_
    refine sx rfl (stp_fieldAddr fa_Run_1 rfl ?_)
    refine sx rfl (stp_load_bxs (cs := [I x.plan.prio, I x.plan.most, I x.plan.wait, I x.plan.tasks, v11_0]) ld_Plan rfl rfl (st9.get 1 rfl) rfl rfl ?_)
    refine sx rfl (stp_fieldAddr fa_Run_1 rfl ?_)
    refine sx rfl (stp_load_bxs (cs := [I y.plan.prio, I y.plan.most, I y.plan.wait, I y.plan.tasks, v12_0]) ld_Plan rfl rfl (st9.get 0 rfl) rfl rfl ?_)
    refine sx rfl (stp_call2 Tryz.func179 rfl rfl rfl ((eqPlan_n W7 (show Shape.C _ [I x.plan.prio, I x.plan.most, I x.plan.wait, I x.plan.tasks, v11_0] x.plan _ from ⟨_, _, rfl, (by first | exact True.intro | (simp only [Edge.ok, Plan.ok, Entry.ok, Task.ok, Run.ok, Yard.ok, Reply.ok, Deed.ok, Note.ok, Wait.ok, File.ok, Disk.ok, Engine.ok, WorldD.ok, ActD.ok, Hand.ok, Span.ok, Crew.ok, View.ok, I64] at *; omega)), (h11_0.below st9.below), rfl⟩) (show Shape.C _ [I y.plan.prio, I y.plan.most, I y.plan.wait, I y.plan.tasks, v12_0] y.plan _ from ⟨_, _, rfl, (by first | exact True.intro | (simp only [Edge.ok, Plan.ok, Entry.ok, Task.ok, Run.ok, Yard.ok, Reply.ok, Deed.ok, Note.ok, Wait.ok, File.ok, Disk.ok, Engine.ok, WorldD.ok, ActD.ok, Hand.ok, Span.ok, Crew.ok, View.ok, I64] at *; omega)), (h12_0.below st9.below), rfl⟩)).mono ?_)); rintro _ W14 ⟨rfl, hk15⟩; refine ⟨_, rfl, ?_⟩
    have st16 := St.call st9 hk15
    refine sx rfl (stp_not rfl ?_)
    refine sx_nil ?_
    refine sx_if rfl (fun h18 => ?_) (fun h18 => ?_)
    · skip
      refine wp_seq ?_
      refine sx_region ?_
      refine sx rfl (stp_assign (v := .bool false) rfl ?_)
      refine sx_nil ?_
      refine wp_ret ?_; repeat (first | refine then_ret ?_ | refine blk_ret ?_)
      refine ret1 Tryz.results114 rfl ?_
      exact ⟨congrArg (fun z => Ending.returned (.bool z)) (eqB_f (fun e => by subst e; first | exact absurd (bnot_t h18) (by rw [eqB_t rfl]; decide) | exact absurd (bnot_t h18) (by simp))).symm, st16.bare⟩
    · skip
      refine wp_skip ?_
      refine wp_seq ?_
      refine wp_seq ?_
      refine sx_region ?_
      refine sx rfl (stp_fieldAddr fa_Run_2 rfl ?_)
      refine sx rfl (stp_load_bx ld_int rfl rfl (st16.get 1 rfl) (i := 6) rfl rfl ?_)
      refine sx rfl (stp_fieldAddr fa_Run_2 rfl ?_)
      refine sx rfl (stp_load_bx ld_int rfl rfl (st16.get 0 rfl) (i := 6) rfl rfl ?_)
      refine sx rfl (stp_neq rfl rfl ?_)
      refine sx_nil ?_
      refine sx_if rfl (fun h19 => ?_) (fun h19 => ?_)
      · skip
        have h19p := of_decide_eq_false (bnot_t h19)
        refine wp_seq ?_
        refine sx_region ?_
        refine sx rfl (stp_assign (v := .bool false) rfl ?_)
        refine sx_nil ?_
        refine wp_ret ?_; repeat (first | refine then_ret ?_ | refine blk_ret ?_)
        refine ret1 Tryz.results114 rfl ?_
        exact ⟨congrArg (fun z => Ending.returned (.bool z)) (eqB_f (fun e => by subst e; first | exact h19p rfl | exact absurd (bnot_t h19) (by rw [eqB_t rfl]; decide) | exact absurd (bnot_t h19) (by simp))).symm, st16.bare⟩
      · skip
        have h19p := of_decide_eq_true (bnot_f h19)
        refine wp_skip ?_
        refine wp_seq ?_
        refine wp_seq ?_
        refine sx_region ?_
        refine sx rfl (stp_fieldAddr fa_Run_3 rfl ?_)
        refine sx rfl (stp_load_bx ld_TaskS rfl rfl (st16.get 1 rfl) (i := 7) rfl rfl ?_)
        refine sx rfl (stp_fieldAddr fa_Run_3 rfl ?_)
        refine sx rfl (stp_load_bx ld_TaskS rfl rfl (st16.get 0 rfl) (i := 7) rfl rfl ?_)
        refine sx rfl (stp_call2 Tryz.func180 rfl rfl rfl ((eqTaskS_n W14 (h11_1.below st16.below) (h12_1.below st16.below)).mono ?_)); rintro _ W20 ⟨rfl, hk21⟩; refine ⟨_, rfl, ?_⟩
        have st22 := St.call st16 hk21
        refine sx rfl (stp_not rfl ?_)
        refine sx_nil ?_
        refine sx_if rfl (fun h24 => ?_) (fun h24 => ?_)
        · skip
          refine wp_seq ?_
          refine sx_region ?_
          refine sx rfl (stp_assign (v := .bool false) rfl ?_)
          refine sx_nil ?_
          refine wp_ret ?_; repeat (first | refine then_ret ?_ | refine blk_ret ?_)
          refine ret1 Tryz.results114 rfl ?_
          exact ⟨congrArg (fun z => Ending.returned (.bool z)) (eqB_f (fun e => by subst e; first | exact absurd (bnot_t h24) (by rw [eqB_t rfl]; decide) | exact absurd (bnot_t h24) (by simp))).symm, st22.bare⟩
        · skip
          refine wp_skip ?_
          refine wp_seq ?_
          refine sx_region ?_
          refine sx rfl (stp_assign (v := .bool true) rfl ?_)
          refine sx_nil ?_
          refine wp_ret ?_; repeat (first | refine then_ret ?_ | refine blk_ret ?_)
          refine ret1 Tryz.results114 rfl ?_
          exact ⟨congrArg (fun z => Ending.returned (.bool z)) (eqB_t (Run_ext h13p (eqB_iff.1 (bnot_f h18)) h19p (eqB_iff.1 (bnot_f h24)))).symm, st22.bare⟩
set_option maxHeartbeats 2000000 in
theorem eqRunS_n (w : World) {v u : Value} {xs ys : List Run} {fp gp : List Nat} (h : Sl w v xs fp) (g : Sl w u ys gp) :
    Calls Tryz.prog 56 #[v, u] w fun e w' => e = .returned (.bool (eqB xs ys)) ∧ St w w' [] := by
  have hcap := h.len_le
  have hcap2 := g.len_le
  refine enter2 Tryz.func56 rfl Tryz.ntmps56 (by decide) ?_
  refine wp_seq ?_
  refine sx_region ?_
  refine sx rfl (stp_assign (v := .bool false) rfl ?_)
  refine sx_nil ?_
  refine wp_seq ?_
  refine wp_seq ?_
  refine sx_region ?_
  refine sx rfl (stp_move (v := v) rfl ?_)
  refine sx rfl (stp_len sl_RunS rfl h ?_)
  refine sx rfl (stp_move (v := u) rfl ?_)
  refine sx rfl (stp_len sl_RunS rfl g ?_)
  refine sx rfl (stp_neq rfl rfl ?_)
  refine sx_nil ?_
  refine sx_if rfl (fun h1 => ?_) (fun h1 => ?_)
  · skip
    have h1p := of_decide_eq_false (bnot_t h1)
    refine wp_seq ?_
    refine sx_region ?_
    refine sx rfl (stp_assign (v := .bool false) rfl ?_)
    refine sx_nil ?_
    refine wp_ret ?_; repeat (first | refine then_ret ?_ | refine blk_ret ?_)
    refine ret1 Tryz.results56 rfl ?_
    exact ⟨congrArg (fun z => Ending.returned (.bool z)) (eqB_f (fun e => h1p (by rw [e]))).symm, (St.start w).bare⟩
  · skip
    have h1p := of_decide_eq_true (bnot_f h1)
    refine wp_skip ?_
    refine wp_seq ?_
    refine wp_seq ?_
    refine sx_region ?_
    refine sx rfl (stp_assign (v := I 0) rfl ?_)
    refine sx_nil ?_
    refine wp_block ?_
    refine sx_loop (fun (m : Nat) (f : Nat → Value) (W : World) => ∃ (k : Nat), k ≤ xs.length ∧ xs.take k = ys.take k ∧ m = xs.length - k ∧ f 0 = v ∧ f 1 = u ∧ f 5 = I (k : Int) ∧ St w W ([])) (xs.length - 0) ?_ ?_
    · exact ⟨0, Nat.zero_le _, rfl, rfl, rfl, rfl, rfl, (St.start w)⟩
    intro m2 f3 W4 hJ5
    obtain ⟨k, hk, htk, rfl, hs7_0, hs7_1, hs7_5, st6⟩ := hJ5
    refine wp_seq ?_
    refine wp_seq ?_
    refine sx_region ?_
    refine sx rfl (stp_move (v := I (k : Int)) hs7_5 ?_)
    refine sx rfl (stp_move (v := v) hs7_0 ?_)
    refine sx rfl (stp_len sl_RunS rfl h ?_)
    refine sx rfl (stp_lss rfl rfl ?_)
    refine sx_nil ?_
    refine sx_if rfl (fun h8 => ?_) (fun h8 => ?_)
    · skip
      have h8p := of_decide_eq_true h8
      refine wp_skip ?_
      refine wp_seq ?_
      refine wp_block ?_
      refine wp_seq ?_
      have hi51fab : k < xs.length := (by omega)
      have hq_ := idx h (i := k) hi51fab
      obtain ⟨b9, o9, cs9, f9, hp9, hr9, hc9, hm9⟩ := hq_
      have hi28e79 : k < ys.length := (by omega)
      have hq_ := idx g (i := k) hi28e79
      obtain ⟨b10, o10, cs10, f10, hp10, hr10, hc10, hm10⟩ := hq_
      refine sx_any [Pl.is (v) (Sl.yl h), Pl.is (I (k : Int)), Pl.is (.pointer (some ⟨b9, o9, none⟩)), Pl.is (.agg cs9.toArray), Pl.is (u) (Sl.yl g), Pl.is (I (k : Int)), Pl.is (.pointer (some ⟨b10, o10, none⟩)), Pl.is (.agg cs10.toArray), Pl.bool (eqB (xs[k]'hi51fab) (ys[k]'hi28e79)), Pl.bool (!(eqB (xs[k]'hi51fab) (ys[k]'hi28e79)))] mix (by rfl) st6 ⟨(fun f W hst hbl hd hf => stp_move (v := v) ((hf 0 rfl).trans hs7_0) ⟨Below.refl _ _, rfl⟩), (fun f W hst hbl hd hf => stp_move (v := I (k : Int)) ((hf 5 rfl).trans hs7_5) ⟨Below.refl _ _, rfl⟩), (fun f W hst hbl hd hf => stp_indexAddr sl_RunS (hd 0 17 rfl rfl) hp9 (hd 1 18 rfl rfl) rfl ⟨Below.refl _ _, rfl⟩), (fun f W hst hbl hd hf => stp_load_rga ld_Run rfl (hd 2 19 rfl rfl) hr9 hst.below (Shape.len hc9) ⟨Below.refl _ _, rfl⟩), (fun f W hst hbl hd hf => stp_move (v := u) ((hf 1 rfl).trans hs7_1) ⟨Below.refl _ _, rfl⟩), (fun f W hst hbl hd hf => stp_move (v := I (k : Int)) ((hf 5 rfl).trans hs7_5) ⟨Below.refl _ _, rfl⟩), (fun f W hst hbl hd hf => stp_indexAddr sl_RunS (hd 4 21 rfl rfl) hp10 (hd 5 22 rfl rfl) rfl ⟨Below.refl _ _, rfl⟩), (fun f W hst hbl hd hf => stp_load_rga ld_Run rfl (hd 6 23 rfl rfl) hr10 hst.below (Shape.len hc10) ⟨Below.refl _ _, rfl⟩), (fun f W hst hbl hd hf => stp_call2 Tryz.func114 rfl (hd 3 20 rfl rfl) (hd 7 24 rfl rfl) ((eqRun_n W (C_below hc9 hst.below) (C_below hc10 hst.below)).mono (by rintro e W2 ⟨rfl, hk⟩; exact ⟨_, rfl, hk.below, rfl⟩))), (fun f W hst hbl hd hf => stp_not (hd 8 25 rfl rfl) ⟨Below.refl _ _, rfl⟩), trivial⟩ ?_
      intro f11 W12 st13 hb14 hv15 hf16
      refine sx_if (hv15 9 26 (by decide) rfl) (fun h17 => ?_) (fun h17 => ?_)
      · skip
        refine wp_seq ?_
        refine sx_region ?_
        refine sx rfl (stp_assign (v := .bool false) rfl ?_)
        refine sx_nil ?_
        refine wp_ret ?_; repeat (first | refine then_ret ?_ | refine blk_ret ?_)
        refine ret1 Tryz.results56 rfl ?_
        have hne : ¬ xs[k] = ys[k]'(by omega) := fun e => absurd (bnot_t h17) (by rw [eqB_t e]; decide)
        exact ⟨congrArg (fun z => Ending.returned (.bool z)) (eqB_f (fun e => hne (by subst e; rfl))).symm, st13.bare⟩
      · skip
        refine wp_skip ?_
        refine sx_region ?_
        refine sx rfl (stp_move (v := I (k : Int)) ((hf16 5 rfl).trans hs7_5) ?_)
        refine sx rfl (stp_add rfl rfl (by (simp only [I64] at *; omega)) ?_)
        refine sx rfl (stp_assign (v := I ((k : Int) + 1)) rfl ?_)
        refine sx_nil ?_
        exact ⟨_, xs.length - (k + 1), (by omega), rfl, k + 1, (by omega), (take_eq_succ (by omega) (by omega) htk (eqB_iff.1 (bnot_f h17))), rfl, ((hf16 0 rfl).trans hs7_0), ((hf16 1 rfl).trans hs7_1), rfl, st13⟩
    · skip
      have h8p := of_decide_eq_false h8
      refine wp_exit ?_
      refine wp_seq ?_
      refine sx_region ?_
      refine sx rfl (stp_assign (v := .bool true) rfl ?_)
      refine sx_nil ?_
      refine wp_ret ?_; repeat (first | refine then_ret ?_ | refine blk_ret ?_)
      refine ret1 Tryz.results56 rfl ?_
      obtain rfl : k = xs.length := by omega
      rw [List.take_length, List.take_of_length_le (by omega)] at htk
      exact ⟨congrArg (fun z => Ending.returned (.bool z)) (eqB_t htk).symm, st6.bare⟩
set_option maxHeartbeats 2000000 in
theorem eqEntrySS_n (w : World) {v u : Value} {xs ys : List (List Entry)} {fp gp : List Nat} (h : Sl w v xs fp) (g : Sl w u ys gp) :
    Calls Tryz.prog 55 #[v, u] w fun e w' => e = .returned (.bool (eqB xs ys)) ∧ St w w' [] := by
  have hcap := h.len_le
  have hcap2 := g.len_le
  refine enter2 Tryz.func55 rfl Tryz.ntmps55 (by decide) ?_
  refine wp_seq ?_
  refine sx_region ?_
  refine sx rfl (stp_assign (v := .bool false) rfl ?_)
  refine sx_nil ?_
  refine wp_seq ?_
  refine wp_seq ?_
  refine sx_region ?_
  refine sx rfl (stp_move (v := v) rfl ?_)
  refine sx rfl (stp_len sl_EntrySS rfl h ?_)
  refine sx rfl (stp_move (v := u) rfl ?_)
  refine sx rfl (stp_len sl_EntrySS rfl g ?_)
  refine sx rfl (stp_neq rfl rfl ?_)
  refine sx_nil ?_
  refine sx_if rfl (fun h1 => ?_) (fun h1 => ?_)
  · skip
    have h1p := of_decide_eq_false (bnot_t h1)
    refine wp_seq ?_
    refine sx_region ?_
    refine sx rfl (stp_assign (v := .bool false) rfl ?_)
    refine sx_nil ?_
    refine wp_ret ?_; repeat (first | refine then_ret ?_ | refine blk_ret ?_)
    refine ret1 Tryz.results55 rfl ?_
    exact ⟨congrArg (fun z => Ending.returned (.bool z)) (eqB_f (fun e => h1p (by rw [e]))).symm, (St.start w).bare⟩
  · skip
    have h1p := of_decide_eq_true (bnot_f h1)
    refine wp_skip ?_
    refine wp_seq ?_
    refine wp_seq ?_
    refine sx_region ?_
    refine sx rfl (stp_assign (v := I 0) rfl ?_)
    refine sx_nil ?_
    refine wp_block ?_
    refine sx_loop (fun (m : Nat) (f : Nat → Value) (W : World) => ∃ (k : Nat), k ≤ xs.length ∧ xs.take k = ys.take k ∧ m = xs.length - k ∧ f 0 = v ∧ f 1 = u ∧ f 5 = I (k : Int) ∧ St w W ([])) (xs.length - 0) ?_ ?_
    · exact ⟨0, Nat.zero_le _, rfl, rfl, rfl, rfl, rfl, (St.start w)⟩
    intro m2 f3 W4 hJ5
    obtain ⟨k, hk, htk, rfl, hs7_0, hs7_1, hs7_5, st6⟩ := hJ5
    refine wp_seq ?_
    refine wp_seq ?_
    refine sx_region ?_
    refine sx rfl (stp_move (v := I (k : Int)) hs7_5 ?_)
    refine sx rfl (stp_move (v := v) hs7_0 ?_)
    refine sx rfl (stp_len sl_EntrySS rfl h ?_)
    refine sx rfl (stp_lss rfl rfl ?_)
    refine sx_nil ?_
    refine sx_if rfl (fun h8 => ?_) (fun h8 => ?_)
    · skip
      have h8p := of_decide_eq_true h8
      refine wp_skip ?_
      refine wp_seq ?_
      refine wp_block ?_
      refine wp_seq ?_
      have hi51fab : k < xs.length := (by omega)
      have hq_ := idx h (i := k) hi51fab
      obtain ⟨b9, o9, cs9, f9, hp9, hr9, hc9, hm9⟩ := hq_
      have hk9 := hc9
      obtain ⟨v10, rfl, h11⟩ := hk9
      have hi28e79 : k < ys.length := (by omega)
      have hq_ := idx g (i := k) hi28e79
      obtain ⟨b12, o12, cs12, f12, hp12, hr12, hc12, hm12⟩ := hq_
      have hk12 := hc12
      obtain ⟨v13, rfl, h14⟩ := hk12
      refine sx_any [Pl.is (v) (Sl.yl h), Pl.is (I (k : Int)), Pl.is (.pointer (some ⟨b9, o9, none⟩)), Pl.is (v10) (Sl.yl h11), Pl.is (u) (Sl.yl g), Pl.is (I (k : Int)), Pl.is (.pointer (some ⟨b12, o12, none⟩)), Pl.is (v13) (Sl.yl h14), Pl.bool (eqB (xs[k]'hi51fab) (ys[k]'hi28e79)), Pl.bool (!(eqB (xs[k]'hi51fab) (ys[k]'hi28e79)))] mix (by rfl) st6 ⟨(fun f W hst hbl hd hf => stp_move (v := v) ((hf 0 rfl).trans hs7_0) ⟨Below.refl _ _, rfl⟩), (fun f W hst hbl hd hf => stp_move (v := I (k : Int)) ((hf 5 rfl).trans hs7_5) ⟨Below.refl _ _, rfl⟩), (fun f W hst hbl hd hf => stp_indexAddr sl_EntrySS (hd 0 17 rfl rfl) hp9 (hd 1 18 rfl rfl) rfl ⟨Below.refl _ _, rfl⟩), (fun f W hst hbl hd hf => stp_load_rg ld_EntryS rfl (hd 2 19 rfl rfl) hr9 hst.below (i := 0) rfl rfl ⟨Below.refl _ _, rfl⟩), (fun f W hst hbl hd hf => stp_move (v := u) ((hf 1 rfl).trans hs7_1) ⟨Below.refl _ _, rfl⟩), (fun f W hst hbl hd hf => stp_move (v := I (k : Int)) ((hf 5 rfl).trans hs7_5) ⟨Below.refl _ _, rfl⟩), (fun f W hst hbl hd hf => stp_indexAddr sl_EntrySS (hd 4 21 rfl rfl) hp12 (hd 5 22 rfl rfl) rfl ⟨Below.refl _ _, rfl⟩), (fun f W hst hbl hd hf => stp_load_rg ld_EntryS rfl (hd 6 23 rfl rfl) hr12 hst.below (i := 0) rfl rfl ⟨Below.refl _ _, rfl⟩), (fun f W hst hbl hd hf => stp_call2 Tryz.func113 rfl (hd 3 20 rfl rfl) (hd 7 24 rfl rfl) ((eqEntryS_n W (h11.below hst.below) (h14.below hst.below)).mono (by rintro e W2 ⟨rfl, hk⟩; exact ⟨_, rfl, hk.below, rfl⟩))), (fun f W hst hbl hd hf => stp_not (hd 8 25 rfl rfl) ⟨Below.refl _ _, rfl⟩), trivial⟩ ?_
      intro f15 W16 st17 hb18 hv19 hf20
      refine sx_if (hv19 9 26 (by decide) rfl) (fun h21 => ?_) (fun h21 => ?_)
      · skip
        refine wp_seq ?_
        refine sx_region ?_
        refine sx rfl (stp_assign (v := .bool false) rfl ?_)
        refine sx_nil ?_
        refine wp_ret ?_; repeat (first | refine then_ret ?_ | refine blk_ret ?_)
        refine ret1 Tryz.results55 rfl ?_
        have hne : ¬ xs[k] = ys[k]'(by omega) := fun e => absurd (bnot_t h21) (by rw [eqB_t e]; decide)
        exact ⟨congrArg (fun z => Ending.returned (.bool z)) (eqB_f (fun e => hne (by subst e; rfl))).symm, st17.bare⟩
      · skip
        refine wp_skip ?_
        refine sx_region ?_
        refine sx rfl (stp_move (v := I (k : Int)) ((hf20 5 rfl).trans hs7_5) ?_)
        refine sx rfl (stp_add rfl rfl (by (simp only [I64] at *; omega)) ?_)
        refine sx rfl (stp_assign (v := I ((k : Int) + 1)) rfl ?_)
        refine sx_nil ?_
        exact ⟨_, xs.length - (k + 1), (by omega), rfl, k + 1, (by omega), (take_eq_succ (by omega) (by omega) htk (eqB_iff.1 (bnot_f h21))), rfl, ((hf20 0 rfl).trans hs7_0), ((hf20 1 rfl).trans hs7_1), rfl, st17⟩
    · skip
      have h8p := of_decide_eq_false h8
      refine wp_exit ?_
      refine wp_seq ?_
      refine sx_region ?_
      refine sx rfl (stp_assign (v := .bool true) rfl ?_)
      refine sx_nil ?_
      refine wp_ret ?_; repeat (first | refine then_ret ?_ | refine blk_ret ?_)
      refine ret1 Tryz.results55 rfl ?_
      obtain rfl : k = xs.length := by omega
      rw [List.take_length, List.take_of_length_le (by omega)] at htk
      exact ⟨congrArg (fun z => Ending.returned (.bool z)) (eqB_t htk).symm, st6.bare⟩
theorem Yard_ext {x y : Yard} (h0 : x.now = y.now) (h1 : x.seq = y.seq) (h2 : x.shelf = y.shelf) (h3 : x.runs = y.runs) : x = y := by
  cases x; cases y; simp only at *; subst_vars; rfl
set_option maxHeartbeats 2000000 in
theorem eqYard_n (w : World) {x y : Yard} {cs ds : List Value} {fp gp : List Nat} (hc : Shape.C w cs x fp) (hd : Shape.C w ds y gp) :
    Calls Tryz.prog 19 #[.agg cs.toArray, .agg ds.toArray] w fun e w' => e = .returned (.bool (eqB x y)) ∧ St w w' [] := by
  refine enter2 Tryz.func19 rfl Tryz.ntmps19 (by decide) ?_
  refine wp_seq ?_
  refine sx_region ?_
  refine sx rfl (stp_box_agg (cs := cs) rfl (St.start w) ?_); intro b1 W2 hb3 st4
  refine sx rfl (stp_box_agg (cs := ds) rfl st4 ?_); intro b6 W7 hb8 st9
  refine sx rfl (stp_assign (v := .bool false) rfl ?_)
  refine sx_nil ?_
  refine wp_seq ?_
  refine wp_seq ?_
  refine sx_region ?_
  refine sx rfl (stp_fieldAddr fa_Yard_0 rfl ?_)
  have hk11 := hc
  obtain ⟨v11_0, v11_1, g11_0, g11_1, rfl, hok11, h11_0, h11_1, rfl⟩ := hk11
  refine sx rfl (stp_load_bx ld_int rfl rfl (st9.get 1 rfl) (i := 0) rfl rfl ?_)
  refine sx rfl (stp_fieldAddr fa_Yard_0 rfl ?_)
  have hk12 := hd
  obtain ⟨v12_0, v12_1, g12_0, g12_1, rfl, hok12, h12_0, h12_1, rfl⟩ := hk12
  refine sx rfl (stp_load_bx ld_int rfl rfl (st9.get 0 rfl) (i := 0) rfl rfl ?_)
  refine sx rfl (stp_neq rfl rfl ?_)
  refine sx_nil ?_
  refine sx_if rfl (fun h13 => ?_) (fun h13 => ?_)
  · skip
    have h13p := of_decide_eq_false (bnot_t h13)
    refine wp_seq ?_
    refine sx_region ?_
    refine sx rfl (stp_assign (v := .bool false) rfl ?_)
    refine sx_nil ?_
    refine wp_ret ?_; repeat (first | refine then_ret ?_ | refine blk_ret ?_)
    refine ret1 Tryz.results19 rfl ?_
    exact ⟨congrArg (fun z => Ending.returned (.bool z)) (eqB_f (fun e => by subst e; first | exact h13p rfl | exact absurd (bnot_t h13) (by rw [eqB_t rfl]; decide) | exact absurd (bnot_t h13) (by simp))).symm, st9.bare⟩
  · skip
    have h13p := of_decide_eq_true (bnot_f h13)
    refine wp_skip ?_
    refine wp_seq ?_
    refine wp_seq ?_
    refine sx_region ?_
    refine sx rfl (stp_fieldAddr fa_Yard_1 rfl ?_)
    refine sx rfl (stp_load_bx ld_int rfl rfl (st9.get 1 rfl) (i := 1) rfl rfl ?_)
    refine sx rfl (stp_fieldAddr fa_Yard_1 rfl ?_)
    refine sx rfl (stp_load_bx ld_int rfl rfl (st9.get 0 rfl) (i := 1) rfl rfl ?_)
    refine sx rfl (stp_neq rfl rfl ?_)
    refine sx_nil ?_
    refine sx_if rfl (fun h14 => ?_) (fun h14 => ?_)
    · skip
      have h14p := of_decide_eq_false (bnot_t h14)
      refine wp_seq ?_
      refine sx_region ?_
      refine sx rfl (stp_assign (v := .bool false) rfl ?_)
      refine sx_nil ?_
      refine wp_ret ?_; repeat (first | refine then_ret ?_ | refine blk_ret ?_)
      refine ret1 Tryz.results19 rfl ?_
      exact ⟨congrArg (fun z => Ending.returned (.bool z)) (eqB_f (fun e => by subst e; first | exact h14p rfl | exact absurd (bnot_t h14) (by rw [eqB_t rfl]; decide) | exact absurd (bnot_t h14) (by simp))).symm, st9.bare⟩
    · skip
      have h14p := of_decide_eq_true (bnot_f h14)
      refine wp_skip ?_
      refine wp_seq ?_
      refine wp_seq ?_
      refine sx_region ?_
      refine sx rfl (stp_fieldAddr fa_Yard_2 rfl ?_)
      refine sx rfl (stp_load_bx ld_EntrySS rfl rfl (st9.get 1 rfl) (i := 2) rfl rfl ?_)
      refine sx rfl (stp_fieldAddr fa_Yard_2 rfl ?_)
      refine sx rfl (stp_load_bx ld_EntrySS rfl rfl (st9.get 0 rfl) (i := 2) rfl rfl ?_)
      refine sx rfl (stp_call2 Tryz.func55 rfl rfl rfl ((eqEntrySS_n W7 (h11_0.below st9.below) (h12_0.below st9.below)).mono ?_)); rintro _ W15 ⟨rfl, hk16⟩; refine ⟨_, rfl, ?_⟩
      have st17 := St.call st9 hk16
      refine sx rfl (stp_not rfl ?_)
      refine sx_nil ?_
      refine sx_if rfl (fun h19 => ?_) (fun h19 => ?_)
      · skip
        refine wp_seq ?_
        refine sx_region ?_
        refine sx rfl (stp_assign (v := .bool false) rfl ?_)
        refine sx_nil ?_
        refine wp_ret ?_; repeat (first | refine then_ret ?_ | refine blk_ret ?_)
        refine ret1 Tryz.results19 rfl ?_
        exact ⟨congrArg (fun z => Ending.returned (.bool z)) (eqB_f (fun e => by subst e; first | exact absurd (bnot_t h19) (by rw [eqB_t rfl]; decide) | exact absurd (bnot_t h19) (by simp))).symm, st17.bare⟩
      · skip
        refine wp_skip ?_
        refine wp_seq ?_
        refine wp_seq ?_
        refine sx_region ?_
        refine sx rfl (stp_fieldAddr fa_Yard_3 rfl ?_)
        refine sx rfl (stp_load_bx ld_RunS rfl rfl (st17.get 1 rfl) (i := 3) rfl rfl ?_)
        refine sx rfl (stp_fieldAddr fa_Yard_3 rfl ?_)
        refine sx rfl (stp_load_bx ld_RunS rfl rfl (st17.get 0 rfl) (i := 3) rfl rfl ?_)
        refine sx rfl (stp_call2 Tryz.func56 rfl rfl rfl ((eqRunS_n W15 (h11_1.below st17.below) (h12_1.below st17.below)).mono ?_)); rintro _ W20 ⟨rfl, hk21⟩; refine ⟨_, rfl, ?_⟩
        have st22 := St.call st17 hk21
        refine sx rfl (stp_not rfl ?_)
        refine sx_nil ?_
        refine sx_if rfl (fun h24 => ?_) (fun h24 => ?_)
        · skip
          refine wp_seq ?_
          refine sx_region ?_
          refine sx rfl (stp_assign (v := .bool false) rfl ?_)
          refine sx_nil ?_
          refine wp_ret ?_; repeat (first | refine then_ret ?_ | refine blk_ret ?_)
          refine ret1 Tryz.results19 rfl ?_
          exact ⟨congrArg (fun z => Ending.returned (.bool z)) (eqB_f (fun e => by subst e; first | exact absurd (bnot_t h24) (by rw [eqB_t rfl]; decide) | exact absurd (bnot_t h24) (by simp))).symm, st22.bare⟩
        · skip
          refine wp_skip ?_
          refine wp_seq ?_
          refine sx_region ?_
          refine sx rfl (stp_assign (v := .bool true) rfl ?_)
          refine sx_nil ?_
          refine wp_ret ?_; repeat (first | refine then_ret ?_ | refine blk_ret ?_)
          refine ret1 Tryz.results19 rfl ?_
          exact ⟨congrArg (fun z => Ending.returned (.bool z)) (eqB_t (Yard_ext h13p h14p (eqB_iff.1 (bnot_f h19)) (eqB_iff.1 (bnot_f h24)))).symm, st22.bare⟩
theorem Reply_ext {x y : Reply} (h0 : x.code = y.code) (h1 : x.run = y.run) (h2 : x.task = y.task) (h3 : x.try_ = y.try_) : x = y := by
  cases x; cases y; simp only at *; subst_vars; rfl
set_option maxHeartbeats 2000000 in
theorem eqReply_n (w : World) {x y : Reply} {cs ds : List Value} {fp gp : List Nat} (hc : Shape.C w cs x fp) (hd : Shape.C w ds y gp) :
    Calls Tryz.prog 101 #[.agg cs.toArray, .agg ds.toArray] w fun e w' => e = .returned (.bool (eqB x y)) ∧ St w w' [] := by
  refine enter2 Tryz.func101 rfl Tryz.ntmps101 (by decide) ?_
  refine wp_seq ?_
  refine sx_region ?_
  refine sx rfl (stp_box_agg (cs := cs) rfl (St.start w) ?_); intro b1 W2 hb3 st4
  refine sx rfl (stp_box_agg (cs := ds) rfl st4 ?_); intro b6 W7 hb8 st9
  refine sx rfl (stp_assign (v := .bool false) rfl ?_)
  refine sx_nil ?_
  refine wp_seq ?_
  refine wp_seq ?_
  refine sx_region ?_
  refine sx rfl (stp_fieldAddr fa_Reply_0 rfl ?_)
  have hk11 := hc
  obtain ⟨he11, rfl, hok11⟩ := hk11
  have he11 : _ = [I x.code, I x.run, I x.task, I x.try_] := he11
  subst he11
  refine sx rfl (stp_load_bx ld_int rfl rfl (st9.get 1 rfl) (i := 0) rfl rfl ?_)
  refine sx rfl (stp_fieldAddr fa_Reply_0 rfl ?_)
  have hk12 := hd
  obtain ⟨he12, rfl, hok12⟩ := hk12
  have he12 : _ = [I y.code, I y.run, I y.task, I y.try_] := he12
  subst he12
  refine sx rfl (stp_load_bx ld_int rfl rfl (st9.get 0 rfl) (i := 0) rfl rfl ?_)
  refine sx rfl (stp_neq rfl rfl ?_)
  refine sx_nil ?_
  refine sx_if rfl (fun h13 => ?_) (fun h13 => ?_)
  · skip
    have h13p := of_decide_eq_false (bnot_t h13)
    refine wp_seq ?_
    refine sx_region ?_
    refine sx rfl (stp_assign (v := .bool false) rfl ?_)
    refine sx_nil ?_
    refine wp_ret ?_; repeat (first | refine then_ret ?_ | refine blk_ret ?_)
    refine ret1 Tryz.results101 rfl ?_
    exact ⟨congrArg (fun z => Ending.returned (.bool z)) (eqB_f (fun e => by subst e; first | exact h13p rfl | exact absurd (bnot_t h13) (by rw [eqB_t rfl]; decide) | exact absurd (bnot_t h13) (by simp))).symm, st9.bare⟩
  · skip
    have h13p := of_decide_eq_true (bnot_f h13)
    refine wp_skip ?_
    refine wp_seq ?_
    refine wp_seq ?_
    refine sx_region ?_
    refine sx rfl (stp_fieldAddr fa_Reply_1 rfl ?_)
    refine sx rfl (stp_load_bx ld_int rfl rfl (st9.get 1 rfl) (i := 1) rfl rfl ?_)
    refine sx rfl (stp_fieldAddr fa_Reply_1 rfl ?_)
    refine sx rfl (stp_load_bx ld_int rfl rfl (st9.get 0 rfl) (i := 1) rfl rfl ?_)
    refine sx rfl (stp_neq rfl rfl ?_)
    refine sx_nil ?_
    refine sx_if rfl (fun h14 => ?_) (fun h14 => ?_)
    · skip
      have h14p := of_decide_eq_false (bnot_t h14)
      refine wp_seq ?_
      refine sx_region ?_
      refine sx rfl (stp_assign (v := .bool false) rfl ?_)
      refine sx_nil ?_
      refine wp_ret ?_; repeat (first | refine then_ret ?_ | refine blk_ret ?_)
      refine ret1 Tryz.results101 rfl ?_
      exact ⟨congrArg (fun z => Ending.returned (.bool z)) (eqB_f (fun e => by subst e; first | exact h14p rfl | exact absurd (bnot_t h14) (by rw [eqB_t rfl]; decide) | exact absurd (bnot_t h14) (by simp))).symm, st9.bare⟩
    · skip
      have h14p := of_decide_eq_true (bnot_f h14)
      refine wp_skip ?_
      refine wp_seq ?_
      refine wp_seq ?_
      refine sx_region ?_
      refine sx rfl (stp_fieldAddr fa_Reply_2 rfl ?_)
      refine sx rfl (stp_load_bx ld_int rfl rfl (st9.get 1 rfl) (i := 2) rfl rfl ?_)
      refine sx rfl (stp_fieldAddr fa_Reply_2 rfl ?_)
      refine sx rfl (stp_load_bx ld_int rfl rfl (st9.get 0 rfl) (i := 2) rfl rfl ?_)
      refine sx rfl (stp_neq rfl rfl ?_)
      refine sx_nil ?_
      refine sx_if rfl (fun h15 => ?_) (fun h15 => ?_)
      · skip
        have h15p := of_decide_eq_false (bnot_t h15)
        refine wp_seq ?_
        refine sx_region ?_
        refine sx rfl (stp_assign (v := .bool false) rfl ?_)
        refine sx_nil ?_
        refine wp_ret ?_; repeat (first | refine then_ret ?_ | refine blk_ret ?_)
        refine ret1 Tryz.results101 rfl ?_
        exact ⟨congrArg (fun z => Ending.returned (.bool z)) (eqB_f (fun e => by subst e; first | exact h15p rfl | exact absurd (bnot_t h15) (by rw [eqB_t rfl]; decide) | exact absurd (bnot_t h15) (by simp))).symm, st9.bare⟩
      · skip
        have h15p := of_decide_eq_true (bnot_f h15)
        refine wp_skip ?_
        refine wp_seq ?_
        refine wp_seq ?_
        refine sx_region ?_
        refine sx rfl (stp_fieldAddr fa_Reply_3 rfl ?_)
        refine sx rfl (stp_load_bx ld_int rfl rfl (st9.get 1 rfl) (i := 3) rfl rfl ?_)
        refine sx rfl (stp_fieldAddr fa_Reply_3 rfl ?_)
        refine sx rfl (stp_load_bx ld_int rfl rfl (st9.get 0 rfl) (i := 3) rfl rfl ?_)
        refine sx rfl (stp_neq rfl rfl ?_)
        refine sx_nil ?_
        refine sx_if rfl (fun h16 => ?_) (fun h16 => ?_)
        · skip
          have h16p := of_decide_eq_false (bnot_t h16)
          refine wp_seq ?_
          refine sx_region ?_
          refine sx rfl (stp_assign (v := .bool false) rfl ?_)
          refine sx_nil ?_
          refine wp_ret ?_; repeat (first | refine then_ret ?_ | refine blk_ret ?_)
          refine ret1 Tryz.results101 rfl ?_
          exact ⟨congrArg (fun z => Ending.returned (.bool z)) (eqB_f (fun e => by subst e; first | exact h16p rfl | exact absurd (bnot_t h16) (by rw [eqB_t rfl]; decide) | exact absurd (bnot_t h16) (by simp))).symm, st9.bare⟩
        · skip
          have h16p := of_decide_eq_true (bnot_f h16)
          refine wp_skip ?_
          refine wp_seq ?_
          refine sx_region ?_
          refine sx rfl (stp_assign (v := .bool true) rfl ?_)
          refine sx_nil ?_
          refine wp_ret ?_; repeat (first | refine then_ret ?_ | refine blk_ret ?_)
          refine ret1 Tryz.results101 rfl ?_
          exact ⟨congrArg (fun z => Ending.returned (.bool z)) (eqB_t (Reply_ext h13p h14p h15p h16p)).symm, st9.bare⟩
set_option maxHeartbeats 2000000 in
theorem eqReplyS_n (w : World) {v u : Value} {xs ys : List Reply} {fp gp : List Nat} (h : Sl w v xs fp) (g : Sl w u ys gp) :
    Calls Tryz.prog 48 #[v, u] w fun e w' => e = .returned (.bool (eqB xs ys)) ∧ St w w' [] := by
  have hcap := h.len_le
  have hcap2 := g.len_le
  refine enter2 Tryz.func48 rfl Tryz.ntmps48 (by decide) ?_
  refine wp_seq ?_
  refine sx_region ?_
  refine sx rfl (stp_assign (v := .bool false) rfl ?_)
  refine sx_nil ?_
  refine wp_seq ?_
  refine wp_seq ?_
  refine sx_region ?_
  refine sx rfl (stp_move (v := v) rfl ?_)
  refine sx rfl (stp_len sl_ReplyS rfl h ?_)
  refine sx rfl (stp_move (v := u) rfl ?_)
  refine sx rfl (stp_len sl_ReplyS rfl g ?_)
  refine sx rfl (stp_neq rfl rfl ?_)
  refine sx_nil ?_
  refine sx_if rfl (fun h1 => ?_) (fun h1 => ?_)
  · skip
    have h1p := of_decide_eq_false (bnot_t h1)
    refine wp_seq ?_
    refine sx_region ?_
    refine sx rfl (stp_assign (v := .bool false) rfl ?_)
    refine sx_nil ?_
    refine wp_ret ?_; repeat (first | refine then_ret ?_ | refine blk_ret ?_)
    refine ret1 Tryz.results48 rfl ?_
    exact ⟨congrArg (fun z => Ending.returned (.bool z)) (eqB_f (fun e => h1p (by rw [e]))).symm, (St.start w).bare⟩
  · skip
    have h1p := of_decide_eq_true (bnot_f h1)
    refine wp_skip ?_
    refine wp_seq ?_
    refine wp_seq ?_
    refine sx_region ?_
    refine sx rfl (stp_assign (v := I 0) rfl ?_)
    refine sx_nil ?_
    refine wp_block ?_
    refine sx_loop (fun (m : Nat) (f : Nat → Value) (W : World) => ∃ (k : Nat), k ≤ xs.length ∧ xs.take k = ys.take k ∧ m = xs.length - k ∧ f 0 = v ∧ f 1 = u ∧ f 5 = I (k : Int) ∧ St w W ([])) (xs.length - 0) ?_ ?_
    · exact ⟨0, Nat.zero_le _, rfl, rfl, rfl, rfl, rfl, (St.start w)⟩
    intro m2 f3 W4 hJ5
    obtain ⟨k, hk, htk, rfl, hs7_0, hs7_1, hs7_5, st6⟩ := hJ5
    refine wp_seq ?_
    refine wp_seq ?_
    refine sx_region ?_
    refine sx rfl (stp_move (v := I (k : Int)) hs7_5 ?_)
    refine sx rfl (stp_move (v := v) hs7_0 ?_)
    refine sx rfl (stp_len sl_ReplyS rfl h ?_)
    refine sx rfl (stp_lss rfl rfl ?_)
    refine sx_nil ?_
    refine sx_if rfl (fun h8 => ?_) (fun h8 => ?_)
    · skip
      have h8p := of_decide_eq_true h8
      refine wp_skip ?_
      refine wp_seq ?_
      refine wp_block ?_
      refine wp_seq ?_
      have hi51fab : k < xs.length := (by omega)
      have hq_ := idx h (i := k) hi51fab
      obtain ⟨b9, o9, cs9, f9, hp9, hr9, hc9, hm9⟩ := hq_
      have hk10 := hc9
      obtain ⟨he10, rfl, hok10⟩ := hk10
      have he10 : _ = [I (xs[k]'hi51fab).code, I (xs[k]'hi51fab).run, I (xs[k]'hi51fab).task, I (xs[k]'hi51fab).try_] := he10
      subst he10
      have hi28e79 : k < ys.length := (by omega)
      have hq_ := idx g (i := k) hi28e79
      obtain ⟨b11, o11, cs11, f11, hp11, hr11, hc11, hm11⟩ := hq_
      have hk12 := hc11
      obtain ⟨he12, rfl, hok12⟩ := hk12
      have he12 : _ = [I (ys[k]'hi28e79).code, I (ys[k]'hi28e79).run, I (ys[k]'hi28e79).task, I (ys[k]'hi28e79).try_] := he12
      subst he12
      refine sx_any [Pl.is (v) (Sl.yl h), Pl.is (I (k : Int)), Pl.is (.pointer (some ⟨b9, o9, none⟩)), Pl.is (.agg #[I (xs[k]'hi51fab).code, I (xs[k]'hi51fab).run, I (xs[k]'hi51fab).task, I (xs[k]'hi51fab).try_]), Pl.is (u) (Sl.yl g), Pl.is (I (k : Int)), Pl.is (.pointer (some ⟨b11, o11, none⟩)), Pl.is (.agg #[I (ys[k]'hi28e79).code, I (ys[k]'hi28e79).run, I (ys[k]'hi28e79).task, I (ys[k]'hi28e79).try_]), Pl.bool (eqB (xs[k]'hi51fab) (ys[k]'hi28e79)), Pl.bool (!(eqB (xs[k]'hi51fab) (ys[k]'hi28e79)))] mix (by rfl) st6 ⟨(fun f W hst hbl hd hf => stp_move (v := v) ((hf 0 rfl).trans hs7_0) ⟨Below.refl _ _, rfl⟩), (fun f W hst hbl hd hf => stp_move (v := I (k : Int)) ((hf 5 rfl).trans hs7_5) ⟨Below.refl _ _, rfl⟩), (fun f W hst hbl hd hf => stp_indexAddr sl_ReplyS (hd 0 17 rfl rfl) hp9 (hd 1 18 rfl rfl) rfl ⟨Below.refl _ _, rfl⟩), (fun f W hst hbl hd hf => stp_load_rgs (cs := [I (xs[k]'hi51fab).code, I (xs[k]'hi51fab).run, I (xs[k]'hi51fab).task, I (xs[k]'hi51fab).try_]) ld_Reply rfl (hd 2 19 rfl rfl) hr9 hst.below (i := 0) rfl rfl rfl ⟨Below.refl _ _, rfl⟩), (fun f W hst hbl hd hf => stp_move (v := u) ((hf 1 rfl).trans hs7_1) ⟨Below.refl _ _, rfl⟩), (fun f W hst hbl hd hf => stp_move (v := I (k : Int)) ((hf 5 rfl).trans hs7_5) ⟨Below.refl _ _, rfl⟩), (fun f W hst hbl hd hf => stp_indexAddr sl_ReplyS (hd 4 21 rfl rfl) hp11 (hd 5 22 rfl rfl) rfl ⟨Below.refl _ _, rfl⟩), (fun f W hst hbl hd hf => stp_load_rgs (cs := [I (ys[k]'hi28e79).code, I (ys[k]'hi28e79).run, I (ys[k]'hi28e79).task, I (ys[k]'hi28e79).try_]) ld_Reply rfl (hd 6 23 rfl rfl) hr11 hst.below (i := 0) rfl rfl rfl ⟨Below.refl _ _, rfl⟩), (fun f W hst hbl hd hf => stp_call2 Tryz.func101 rfl (hd 3 20 rfl rfl) (hd 7 24 rfl rfl) ((eqReply_n W hc9 hc11).mono (by rintro e W2 ⟨rfl, hk⟩; exact ⟨_, rfl, hk.below, rfl⟩))), (fun f W hst hbl hd hf => stp_not (hd 8 25 rfl rfl) ⟨Below.refl _ _, rfl⟩), trivial⟩ ?_
      intro f13 W14 st15 hb16 hv17 hf18
      refine sx_if (hv17 9 26 (by decide) rfl) (fun h19 => ?_) (fun h19 => ?_)
      · skip
        refine wp_seq ?_
        refine sx_region ?_
        refine sx rfl (stp_assign (v := .bool false) rfl ?_)
        refine sx_nil ?_
        refine wp_ret ?_; repeat (first | refine then_ret ?_ | refine blk_ret ?_)
        refine ret1 Tryz.results48 rfl ?_
        have hne : ¬ xs[k] = ys[k]'(by omega) := fun e => absurd (bnot_t h19) (by rw [eqB_t e]; decide)
        exact ⟨congrArg (fun z => Ending.returned (.bool z)) (eqB_f (fun e => hne (by subst e; rfl))).symm, st15.bare⟩
      · skip
        refine wp_skip ?_
        refine sx_region ?_
        refine sx rfl (stp_move (v := I (k : Int)) ((hf18 5 rfl).trans hs7_5) ?_)
        refine sx rfl (stp_add rfl rfl (by (simp only [I64] at *; omega)) ?_)
        refine sx rfl (stp_assign (v := I ((k : Int) + 1)) rfl ?_)
        refine sx_nil ?_
        exact ⟨_, xs.length - (k + 1), (by omega), rfl, k + 1, (by omega), (take_eq_succ (by omega) (by omega) htk (eqB_iff.1 (bnot_f h19))), rfl, ((hf18 0 rfl).trans hs7_0), ((hf18 1 rfl).trans hs7_1), rfl, st15⟩
    · skip
      have h8p := of_decide_eq_false h8
      refine wp_exit ?_
      refine wp_seq ?_
      refine sx_region ?_
      refine sx rfl (stp_assign (v := .bool true) rfl ?_)
      refine sx_nil ?_
      refine wp_ret ?_; repeat (first | refine then_ret ?_ | refine blk_ret ?_)
      refine ret1 Tryz.results48 rfl ?_
      obtain rfl : k = xs.length := by omega
      rw [List.take_length, List.take_of_length_le (by omega)] at htk
      exact ⟨congrArg (fun z => Ending.returned (.bool z)) (eqB_t htk).symm, st6.bare⟩
theorem Deed_ext {x y : Deed} (h0 : x.kind = y.kind) (h1 : x.run = y.run) (h2 : x.plan = y.plan) (h3 : x.task = y.task) (h4 : x.try_ = y.try_) (h5 : x.worker = y.worker) (h6 : x.draw = y.draw) : x = y := by
  cases x; cases y; simp only at *; subst_vars; rfl
set_option maxHeartbeats 2000000 in
theorem eqDeed_n (w : World) {x y : Deed} {cs ds : List Value} {fp gp : List Nat} (hc : Shape.C w cs x fp) (hd : Shape.C w ds y gp) :
    Calls Tryz.prog 151 #[.agg cs.toArray, .agg ds.toArray] w fun e w' => e = .returned (.bool (eqB x y)) ∧ St w w' [] := by
  refine enter2 Tryz.func151 rfl Tryz.ntmps151 (by decide) ?_
  refine wp_seq ?_
  refine sx_region ?_
  refine sx rfl (stp_box_agg (cs := cs) rfl (St.start w) ?_); intro b1 W2 hb3 st4
  refine sx rfl (stp_box_agg (cs := ds) rfl st4 ?_); intro b6 W7 hb8 st9
  refine sx rfl (stp_assign (v := .bool false) rfl ?_)
  refine sx_nil ?_
  refine wp_seq ?_
  refine wp_seq ?_
  refine sx_region ?_
  refine sx rfl (stp_fieldAddr fa_Deed_0 rfl ?_)
  have hk11 := hc
  obtain ⟨v11_0, g11_0, rfl, hok11, h11_0, rfl⟩ := hk11
  refine sx rfl (stp_load_bx ld_int rfl rfl (st9.get 1 rfl) (i := 0) rfl rfl ?_)
  refine sx rfl (stp_fieldAddr fa_Deed_0 rfl ?_)
  have hk12 := hd
  obtain ⟨v12_0, g12_0, rfl, hok12, h12_0, rfl⟩ := hk12
  refine sx rfl (stp_load_bx ld_int rfl rfl (st9.get 0 rfl) (i := 0) rfl rfl ?_)
  refine sx rfl (stp_neq rfl rfl ?_)
  refine sx_nil ?_
  refine sx_if rfl (fun h13 => ?_) (fun h13 => ?_)
  · skip
    have h13p := of_decide_eq_false (bnot_t h13)
    refine wp_seq ?_
    refine sx_region ?_
    refine sx rfl (stp_assign (v := .bool false) rfl ?_)
    refine sx_nil ?_
    refine wp_ret ?_; repeat (first | refine then_ret ?_ | refine blk_ret ?_)
    refine ret1 Tryz.results151 rfl ?_
    exact ⟨congrArg (fun z => Ending.returned (.bool z)) (eqB_f (fun e => by subst e; first | exact h13p rfl | exact absurd (bnot_t h13) (by rw [eqB_t rfl]; decide) | exact absurd (bnot_t h13) (by simp))).symm, st9.bare⟩
  · skip
    have h13p := of_decide_eq_true (bnot_f h13)
    refine wp_skip ?_
    refine wp_seq ?_
    refine wp_seq ?_
    refine sx_region ?_
    refine sx rfl (stp_fieldAddr fa_Deed_1 rfl ?_)
    refine sx rfl (stp_load_bx ld_int rfl rfl (st9.get 1 rfl) (i := 1) rfl rfl ?_)
    refine sx rfl (stp_fieldAddr fa_Deed_1 rfl ?_)
    refine sx rfl (stp_load_bx ld_int rfl rfl (st9.get 0 rfl) (i := 1) rfl rfl ?_)
    refine sx rfl (stp_neq rfl rfl ?_)
    refine sx_nil ?_
    refine sx_if rfl (fun h14 => ?_) (fun h14 => ?_)
    · skip
      have h14p := of_decide_eq_false (bnot_t h14)
      refine wp_seq ?_
      refine sx_region ?_
      refine sx rfl (stp_assign (v := .bool false) rfl ?_)
      refine sx_nil ?_
      refine wp_ret ?_; repeat (first | refine then_ret ?_ | refine blk_ret ?_)
      refine ret1 Tryz.results151 rfl ?_
      exact ⟨congrArg (fun z => Ending.returned (.bool z)) (eqB_f (fun e => by subst e; first | exact h14p rfl | exact absurd (bnot_t h14) (by rw [eqB_t rfl]; decide) | exact absurd (bnot_t h14) (by simp))).symm, st9.bare⟩
    · skip
      have h14p := of_decide_eq_true (bnot_f h14)
      refine wp_skip ?_
      refine wp_seq ?_
      refine wp_seq ?_
      refine sx_region ?_
      refine sx rfl (stp_fieldAddr fa_Deed_2 rfl ?_)
      refine sx rfl (stp_load_bxs (cs := [I x.plan.prio, I x.plan.most, I x.plan.wait, I x.plan.tasks, v11_0]) ld_Plan rfl rfl (st9.get 1 rfl) rfl rfl ?_)
      refine sx rfl (stp_fieldAddr fa_Deed_2 rfl ?_)
      refine sx rfl (stp_load_bxs (cs := [I y.plan.prio, I y.plan.most, I y.plan.wait, I y.plan.tasks, v12_0]) ld_Plan rfl rfl (st9.get 0 rfl) rfl rfl ?_)
      refine sx rfl (stp_call2 Tryz.func179 rfl rfl rfl ((eqPlan_n W7 (show Shape.C _ [I x.plan.prio, I x.plan.most, I x.plan.wait, I x.plan.tasks, v11_0] x.plan _ from ⟨_, _, rfl, (by first | exact True.intro | (simp only [Edge.ok, Plan.ok, Entry.ok, Task.ok, Run.ok, Yard.ok, Reply.ok, Deed.ok, Note.ok, Wait.ok, File.ok, Disk.ok, Engine.ok, WorldD.ok, ActD.ok, Hand.ok, Span.ok, Crew.ok, View.ok, I64] at *; omega)), (h11_0.below st9.below), rfl⟩) (show Shape.C _ [I y.plan.prio, I y.plan.most, I y.plan.wait, I y.plan.tasks, v12_0] y.plan _ from ⟨_, _, rfl, (by first | exact True.intro | (simp only [Edge.ok, Plan.ok, Entry.ok, Task.ok, Run.ok, Yard.ok, Reply.ok, Deed.ok, Note.ok, Wait.ok, File.ok, Disk.ok, Engine.ok, WorldD.ok, ActD.ok, Hand.ok, Span.ok, Crew.ok, View.ok, I64] at *; omega)), (h12_0.below st9.below), rfl⟩)).mono ?_)); rintro _ W15 ⟨rfl, hk16⟩; refine ⟨_, rfl, ?_⟩
      have st17 := St.call st9 hk16
      refine sx rfl (stp_not rfl ?_)
      refine sx_nil ?_
      refine sx_if rfl (fun h19 => ?_) (fun h19 => ?_)
      · skip
        refine wp_seq ?_
        refine sx_region ?_
        refine sx rfl (stp_assign (v := .bool false) rfl ?_)
        refine sx_nil ?_
        refine wp_ret ?_; repeat (first | refine then_ret ?_ | refine blk_ret ?_)
        refine ret1 Tryz.results151 rfl ?_
        exact ⟨congrArg (fun z => Ending.returned (.bool z)) (eqB_f (fun e => by subst e; first | exact absurd (bnot_t h19) (by rw [eqB_t rfl]; decide) | exact absurd (bnot_t h19) (by simp))).symm, st17.bare⟩
      · skip
        refine wp_skip ?_
        refine wp_seq ?_
        refine wp_seq ?_
        refine sx_region ?_
        refine sx rfl (stp_fieldAddr fa_Deed_3 rfl ?_)
        refine sx rfl (stp_load_bx ld_int rfl rfl (st17.get 1 rfl) (i := 7) rfl rfl ?_)
        refine sx rfl (stp_fieldAddr fa_Deed_3 rfl ?_)
        refine sx rfl (stp_load_bx ld_int rfl rfl (st17.get 0 rfl) (i := 7) rfl rfl ?_)
        refine sx rfl (stp_neq rfl rfl ?_)
        refine sx_nil ?_
        refine sx_if rfl (fun h20 => ?_) (fun h20 => ?_)
        · skip
          have h20p := of_decide_eq_false (bnot_t h20)
          refine wp_seq ?_
          refine sx_region ?_
          refine sx rfl (stp_assign (v := .bool false) rfl ?_)
          refine sx_nil ?_
          refine wp_ret ?_; repeat (first | refine then_ret ?_ | refine blk_ret ?_)
          refine ret1 Tryz.results151 rfl ?_
          exact ⟨congrArg (fun z => Ending.returned (.bool z)) (eqB_f (fun e => by subst e; first | exact h20p rfl | exact absurd (bnot_t h20) (by rw [eqB_t rfl]; decide) | exact absurd (bnot_t h20) (by simp))).symm, st17.bare⟩
        · skip
          have h20p := of_decide_eq_true (bnot_f h20)
          refine wp_skip ?_
          refine wp_seq ?_
          refine wp_seq ?_
          refine sx_region ?_
          refine sx rfl (stp_fieldAddr fa_Deed_4 rfl ?_)
          refine sx rfl (stp_load_bx ld_int rfl rfl (st17.get 1 rfl) (i := 8) rfl rfl ?_)
          refine sx rfl (stp_fieldAddr fa_Deed_4 rfl ?_)
          refine sx rfl (stp_load_bx ld_int rfl rfl (st17.get 0 rfl) (i := 8) rfl rfl ?_)
          refine sx rfl (stp_neq rfl rfl ?_)
          refine sx_nil ?_
          refine sx_if rfl (fun h21 => ?_) (fun h21 => ?_)
          · skip
            have h21p := of_decide_eq_false (bnot_t h21)
            refine wp_seq ?_
            refine sx_region ?_
            refine sx rfl (stp_assign (v := .bool false) rfl ?_)
            refine sx_nil ?_
            refine wp_ret ?_; repeat (first | refine then_ret ?_ | refine blk_ret ?_)
            refine ret1 Tryz.results151 rfl ?_
            exact ⟨congrArg (fun z => Ending.returned (.bool z)) (eqB_f (fun e => by subst e; first | exact h21p rfl | exact absurd (bnot_t h21) (by rw [eqB_t rfl]; decide) | exact absurd (bnot_t h21) (by simp))).symm, st17.bare⟩
          · skip
            have h21p := of_decide_eq_true (bnot_f h21)
            refine wp_skip ?_
            refine wp_seq ?_
            refine wp_seq ?_
            refine sx_region ?_
            refine sx rfl (stp_fieldAddr fa_Deed_5 rfl ?_)
            refine sx rfl (stp_load_bx ld_int rfl rfl (st17.get 1 rfl) (i := 9) rfl rfl ?_)
            refine sx rfl (stp_fieldAddr fa_Deed_5 rfl ?_)
            refine sx rfl (stp_load_bx ld_int rfl rfl (st17.get 0 rfl) (i := 9) rfl rfl ?_)
            refine sx rfl (stp_neq rfl rfl ?_)
            refine sx_nil ?_
            refine sx_if rfl (fun h22 => ?_) (fun h22 => ?_)
            · skip
              have h22p := of_decide_eq_false (bnot_t h22)
              refine wp_seq ?_
              refine sx_region ?_
              refine sx rfl (stp_assign (v := .bool false) rfl ?_)
              refine sx_nil ?_
              refine wp_ret ?_; repeat (first | refine then_ret ?_ | refine blk_ret ?_)
              refine ret1 Tryz.results151 rfl ?_
              exact ⟨congrArg (fun z => Ending.returned (.bool z)) (eqB_f (fun e => by subst e; first | exact h22p rfl | exact absurd (bnot_t h22) (by rw [eqB_t rfl]; decide) | exact absurd (bnot_t h22) (by simp))).symm, st17.bare⟩
            · skip
              have h22p := of_decide_eq_true (bnot_f h22)
              refine wp_skip ?_
              refine wp_seq ?_
              refine wp_seq ?_
              refine sx_region ?_
              refine sx rfl (stp_fieldAddr fa_Deed_6 rfl ?_)
              refine sx rfl (stp_load_bx ld_int rfl rfl (st17.get 1 rfl) (i := 10) rfl rfl ?_)
              refine sx rfl (stp_fieldAddr fa_Deed_6 rfl ?_)
              refine sx rfl (stp_load_bx ld_int rfl rfl (st17.get 0 rfl) (i := 10) rfl rfl ?_)
              refine sx rfl (stp_neq rfl rfl ?_)
              refine sx_nil ?_
              refine sx_if rfl (fun h23 => ?_) (fun h23 => ?_)
              · skip
                have h23p := of_decide_eq_false (bnot_t h23)
                refine wp_seq ?_
                refine sx_region ?_
                refine sx rfl (stp_assign (v := .bool false) rfl ?_)
                refine sx_nil ?_
                refine wp_ret ?_; repeat (first | refine then_ret ?_ | refine blk_ret ?_)
                refine ret1 Tryz.results151 rfl ?_
                exact ⟨congrArg (fun z => Ending.returned (.bool z)) (eqB_f (fun e => by subst e; first | exact h23p rfl | exact absurd (bnot_t h23) (by rw [eqB_t rfl]; decide) | exact absurd (bnot_t h23) (by simp))).symm, st17.bare⟩
              · skip
                have h23p := of_decide_eq_true (bnot_f h23)
                refine wp_skip ?_
                refine wp_seq ?_
                refine sx_region ?_
                refine sx rfl (stp_assign (v := .bool true) rfl ?_)
                refine sx_nil ?_
                refine wp_ret ?_; repeat (first | refine then_ret ?_ | refine blk_ret ?_)
                refine ret1 Tryz.results151 rfl ?_
                exact ⟨congrArg (fun z => Ending.returned (.bool z)) (eqB_t (Deed_ext h13p h14p (eqB_iff.1 (bnot_f h19)) h20p h21p h22p h23p)).symm, st17.bare⟩
set_option maxHeartbeats 2000000 in
theorem eqIntS_n (w : World) {v u : Value} {xs ys : List Int} {fp gp : List Nat} (h : Sl w v xs fp) (g : Sl w u ys gp) :
    Calls Tryz.prog 26 #[v, u] w fun e w' => e = .returned (.bool (eqB xs ys)) ∧ St w w' [] := by
  have hcap := h.len_le
  have hcap2 := g.len_le
  refine enter2 Tryz.func26 rfl Tryz.ntmps26 (by decide) ?_
  refine wp_seq ?_
  refine sx_region ?_
  refine sx rfl (stp_assign (v := .bool false) rfl ?_)
  refine sx_nil ?_
  refine wp_seq ?_
  refine wp_seq ?_
  refine sx_region ?_
  refine sx rfl (stp_move (v := v) rfl ?_)
  refine sx rfl (stp_len sl_IntS rfl h ?_)
  refine sx rfl (stp_move (v := u) rfl ?_)
  refine sx rfl (stp_len sl_IntS rfl g ?_)
  refine sx rfl (stp_neq rfl rfl ?_)
  refine sx_nil ?_
  refine sx_if rfl (fun h1 => ?_) (fun h1 => ?_)
  · skip
    have h1p := of_decide_eq_false (bnot_t h1)
    refine wp_seq ?_
    refine sx_region ?_
    refine sx rfl (stp_assign (v := .bool false) rfl ?_)
    refine sx_nil ?_
    refine wp_ret ?_; repeat (first | refine then_ret ?_ | refine blk_ret ?_)
    refine ret1 Tryz.results26 rfl ?_
    exact ⟨congrArg (fun z => Ending.returned (.bool z)) (eqB_f (fun e => h1p (by rw [e]))).symm, (St.start w).bare⟩
  · skip
    have h1p := of_decide_eq_true (bnot_f h1)
    refine wp_skip ?_
    refine wp_seq ?_
    refine wp_seq ?_
    refine sx_region ?_
    refine sx rfl (stp_assign (v := I 0) rfl ?_)
    refine sx_nil ?_
    refine wp_block ?_
    refine sx_loop (fun (m : Nat) (f : Nat → Value) (W : World) => ∃ (k : Nat), k ≤ xs.length ∧ xs.take k = ys.take k ∧ m = xs.length - k ∧ f 0 = v ∧ f 1 = u ∧ f 5 = I (k : Int) ∧ St w W ([])) (xs.length - 0) ?_ ?_
    · exact ⟨0, Nat.zero_le _, rfl, rfl, rfl, rfl, rfl, (St.start w)⟩
    intro m2 f3 W4 hJ5
    obtain ⟨k, hk, htk, rfl, hs7_0, hs7_1, hs7_5, st6⟩ := hJ5
    refine wp_seq ?_
    refine wp_seq ?_
    refine sx_region ?_
    refine sx rfl (stp_move (v := I (k : Int)) hs7_5 ?_)
    refine sx rfl (stp_move (v := v) hs7_0 ?_)
    refine sx rfl (stp_len sl_IntS rfl h ?_)
    refine sx rfl (stp_lss rfl rfl ?_)
    refine sx_nil ?_
    refine sx_if rfl (fun h8 => ?_) (fun h8 => ?_)
    · skip
      have h8p := of_decide_eq_true h8
      refine wp_skip ?_
      refine wp_seq ?_
      refine wp_block ?_
      refine wp_seq ?_
      have hi51fab : k < xs.length := (by omega)
      have hq_ := idx h (i := k) hi51fab
      obtain ⟨b9, o9, cs9, f9, hp9, hr9, hc9, hm9⟩ := hq_
      have hk9 := hc9
      obtain ⟨rfl, rfl, hok9⟩ := hk9
      have hi28e79 : k < ys.length := (by omega)
      have hq_ := idx g (i := k) hi28e79
      obtain ⟨b10, o10, cs10, f10, hp10, hr10, hc10, hm10⟩ := hq_
      have hk10 := hc10
      obtain ⟨rfl, rfl, hok10⟩ := hk10
      refine sx_any [Pl.is (v) (Sl.yl h), Pl.is (I (k : Int)), Pl.is (.pointer (some ⟨b9, o9, none⟩)), Pl.is (I (xs[k]'hi51fab)), Pl.is (u) (Sl.yl g), Pl.is (I (k : Int)), Pl.is (.pointer (some ⟨b10, o10, none⟩)), Pl.is (I (ys[k]'hi28e79)), Pl.bool (!decide ((xs[k]'hi51fab) = (ys[k]'hi28e79)))] mix (by rfl) st6 ⟨(fun f W hst hbl hd hf => stp_move (v := v) ((hf 0 rfl).trans hs7_0) ⟨Below.refl _ _, rfl⟩), (fun f W hst hbl hd hf => stp_move (v := I (k : Int)) ((hf 5 rfl).trans hs7_5) ⟨Below.refl _ _, rfl⟩), (fun f W hst hbl hd hf => stp_indexAddr sl_IntS (hd 0 17 rfl rfl) hp9 (hd 1 18 rfl rfl) rfl ⟨Below.refl _ _, rfl⟩), (fun f W hst hbl hd hf => stp_load_rg ld_int rfl (hd 2 19 rfl rfl) hr9 hst.below (i := 0) rfl rfl ⟨Below.refl _ _, rfl⟩), (fun f W hst hbl hd hf => stp_move (v := u) ((hf 1 rfl).trans hs7_1) ⟨Below.refl _ _, rfl⟩), (fun f W hst hbl hd hf => stp_move (v := I (k : Int)) ((hf 5 rfl).trans hs7_5) ⟨Below.refl _ _, rfl⟩), (fun f W hst hbl hd hf => stp_indexAddr sl_IntS (hd 4 21 rfl rfl) hp10 (hd 5 22 rfl rfl) rfl ⟨Below.refl _ _, rfl⟩), (fun f W hst hbl hd hf => stp_load_rg ld_int rfl (hd 6 23 rfl rfl) hr10 hst.below (i := 0) rfl rfl ⟨Below.refl _ _, rfl⟩), (fun f W hst hbl hd hf => stp_neq (hd 3 20 rfl rfl) (hd 7 24 rfl rfl) ⟨Below.refl _ _, rfl⟩), trivial⟩ ?_
      intro f11 W12 st13 hb14 hv15 hf16
      refine sx_if (hv15 8 25 (by decide) rfl) (fun h17 => ?_) (fun h17 => ?_)
      · skip
        have h17p := of_decide_eq_false (bnot_t h17)
        refine wp_seq ?_
        refine sx_region ?_
        refine sx rfl (stp_assign (v := .bool false) rfl ?_)
        refine sx_nil ?_
        refine wp_ret ?_; repeat (first | refine then_ret ?_ | refine blk_ret ?_)
        refine ret1 Tryz.results26 rfl ?_
        have hne : ¬ xs[k] = ys[k]'(by omega) := h17p
        exact ⟨congrArg (fun z => Ending.returned (.bool z)) (eqB_f (fun e => hne (by subst e; rfl))).symm, st13.bare⟩
      · skip
        have h17p := of_decide_eq_true (bnot_f h17)
        refine wp_skip ?_
        refine sx_region ?_
        refine sx rfl (stp_move (v := I (k : Int)) ((hf16 5 rfl).trans hs7_5) ?_)
        refine sx rfl (stp_add rfl rfl (by (simp only [I64] at *; omega)) ?_)
        refine sx rfl (stp_assign (v := I ((k : Int) + 1)) rfl ?_)
        refine sx_nil ?_
        exact ⟨_, xs.length - (k + 1), (by omega), rfl, k + 1, (by omega), (take_eq_succ (by omega) (by omega) htk h17p), rfl, ((hf16 0 rfl).trans hs7_0), ((hf16 1 rfl).trans hs7_1), rfl, st13⟩
    · skip
      have h8p := of_decide_eq_false h8
      refine wp_exit ?_
      refine wp_seq ?_
      refine sx_region ?_
      refine sx rfl (stp_assign (v := .bool true) rfl ?_)
      refine sx_nil ?_
      refine wp_ret ?_; repeat (first | refine then_ret ?_ | refine blk_ret ?_)
      refine ret1 Tryz.results26 rfl ?_
      obtain rfl : k = xs.length := by omega
      rw [List.take_length, List.take_of_length_le (by omega)] at htk
      exact ⟨congrArg (fun z => Ending.returned (.bool z)) (eqB_t htk).symm, st6.bare⟩
theorem Span_ext {x y : Span} (h0 : x.deed = y.deed) (h1 : x.begin_ = y.begin_) (h2 : x.end_ = y.end_) (h3 : x.reply = y.reply) : x = y := by
  cases x; cases y; simp only at *; subst_vars; rfl
set_option maxHeartbeats 2000000 in
theorem eqSpan_n (w : World) {x y : Span} {cs ds : List Value} {fp gp : List Nat} (hc : Shape.C w cs x fp) (hd : Shape.C w ds y gp) :
    Calls Tryz.prog 78 #[.agg cs.toArray, .agg ds.toArray] w fun e w' => e = .returned (.bool (eqB x y)) ∧ St w w' [] := by
  refine enter2 Tryz.func78 rfl Tryz.ntmps78 (by decide) ?_
  refine wp_seq ?_
  refine sx_region ?_
  refine sx rfl (stp_box_agg (cs := cs) rfl (St.start w) ?_); intro b1 W2 hb3 st4
  refine sx rfl (stp_box_agg (cs := ds) rfl st4 ?_); intro b6 W7 hb8 st9
  refine sx rfl (stp_assign (v := .bool false) rfl ?_)
  refine sx_nil ?_
  refine wp_seq ?_
  refine wp_seq ?_
  refine sx_region ?_
  refine sx rfl (stp_fieldAddr fa_Span_0 rfl ?_)
  have hk11 := hc
  obtain ⟨v11_0, g11_0, rfl, hok11, h11_0, rfl⟩ := hk11
  refine sx rfl (stp_load_bxs (cs := [I x.deed.kind, I x.deed.run, I x.deed.plan.prio, I x.deed.plan.most, I x.deed.plan.wait, I x.deed.plan.tasks, v11_0, I x.deed.task, I x.deed.try_, I x.deed.worker, I x.deed.draw]) ld_Deed rfl rfl (st9.get 1 rfl) rfl rfl ?_)
  refine sx rfl (stp_fieldAddr fa_Span_0 rfl ?_)
  have hk12 := hd
  obtain ⟨v12_0, g12_0, rfl, hok12, h12_0, rfl⟩ := hk12
  refine sx rfl (stp_load_bxs (cs := [I y.deed.kind, I y.deed.run, I y.deed.plan.prio, I y.deed.plan.most, I y.deed.plan.wait, I y.deed.plan.tasks, v12_0, I y.deed.task, I y.deed.try_, I y.deed.worker, I y.deed.draw]) ld_Deed rfl rfl (st9.get 0 rfl) rfl rfl ?_)
  refine sx rfl (stp_call2 Tryz.func151 rfl rfl rfl ((eqDeed_n W7 (show Shape.C _ [I x.deed.kind, I x.deed.run, I x.deed.plan.prio, I x.deed.plan.most, I x.deed.plan.wait, I x.deed.plan.tasks, v11_0, I x.deed.task, I x.deed.try_, I x.deed.worker, I x.deed.draw] x.deed _ from ⟨_, _, rfl, (by first | exact True.intro | (simp only [Edge.ok, Plan.ok, Entry.ok, Task.ok, Run.ok, Yard.ok, Reply.ok, Deed.ok, Note.ok, Wait.ok, File.ok, Disk.ok, Engine.ok, WorldD.ok, ActD.ok, Hand.ok, Span.ok, Crew.ok, View.ok, I64] at *; omega)), (h11_0.below st9.below), rfl⟩) (show Shape.C _ [I y.deed.kind, I y.deed.run, I y.deed.plan.prio, I y.deed.plan.most, I y.deed.plan.wait, I y.deed.plan.tasks, v12_0, I y.deed.task, I y.deed.try_, I y.deed.worker, I y.deed.draw] y.deed _ from ⟨_, _, rfl, (by first | exact True.intro | (simp only [Edge.ok, Plan.ok, Entry.ok, Task.ok, Run.ok, Yard.ok, Reply.ok, Deed.ok, Note.ok, Wait.ok, File.ok, Disk.ok, Engine.ok, WorldD.ok, ActD.ok, Hand.ok, Span.ok, Crew.ok, View.ok, I64] at *; omega)), (h12_0.below st9.below), rfl⟩)).mono ?_)); rintro _ W13 ⟨rfl, hk14⟩; refine ⟨_, rfl, ?_⟩
  have st15 := St.call st9 hk14
  refine sx rfl (stp_not rfl ?_)
  refine sx_nil ?_
  refine sx_if rfl (fun h17 => ?_) (fun h17 => ?_)
  · skip
    refine wp_seq ?_
    refine sx_region ?_
    refine sx rfl (stp_assign (v := .bool false) rfl ?_)
    refine sx_nil ?_
    refine wp_ret ?_; repeat (first | refine then_ret ?_ | refine blk_ret ?_)
    refine ret1 Tryz.results78 rfl ?_
    exact ⟨congrArg (fun z => Ending.returned (.bool z)) (eqB_f (fun e => by subst e; first | exact absurd (bnot_t h17) (by rw [eqB_t rfl]; decide) | exact absurd (bnot_t h17) (by simp))).symm, st15.bare⟩
  · skip
    refine wp_skip ?_
    refine wp_seq ?_
    refine wp_seq ?_
    refine sx_region ?_
    refine sx rfl (stp_fieldAddr fa_Span_1 rfl ?_)
    refine sx rfl (stp_load_bx ld_int rfl rfl (st15.get 1 rfl) (i := 11) rfl rfl ?_)
    refine sx rfl (stp_fieldAddr fa_Span_1 rfl ?_)
    refine sx rfl (stp_load_bx ld_int rfl rfl (st15.get 0 rfl) (i := 11) rfl rfl ?_)
    refine sx rfl (stp_neq rfl rfl ?_)
    refine sx_nil ?_
    refine sx_if rfl (fun h18 => ?_) (fun h18 => ?_)
    · skip
      have h18p := of_decide_eq_false (bnot_t h18)
      refine wp_seq ?_
      refine sx_region ?_
      refine sx rfl (stp_assign (v := .bool false) rfl ?_)
      refine sx_nil ?_
      refine wp_ret ?_; repeat (first | refine then_ret ?_ | refine blk_ret ?_)
      refine ret1 Tryz.results78 rfl ?_
      exact ⟨congrArg (fun z => Ending.returned (.bool z)) (eqB_f (fun e => by subst e; first | exact h18p rfl | exact absurd (bnot_t h18) (by rw [eqB_t rfl]; decide) | exact absurd (bnot_t h18) (by simp))).symm, st15.bare⟩
    · skip
      have h18p := of_decide_eq_true (bnot_f h18)
      refine wp_skip ?_
      refine wp_seq ?_
      refine wp_seq ?_
      refine sx_region ?_
      refine sx rfl (stp_fieldAddr fa_Span_2 rfl ?_)
      refine sx rfl (stp_load_bx ld_int rfl rfl (st15.get 1 rfl) (i := 12) rfl rfl ?_)
      refine sx rfl (stp_fieldAddr fa_Span_2 rfl ?_)
      refine sx rfl (stp_load_bx ld_int rfl rfl (st15.get 0 rfl) (i := 12) rfl rfl ?_)
      refine sx rfl (stp_neq rfl rfl ?_)
      refine sx_nil ?_
      refine sx_if rfl (fun h19 => ?_) (fun h19 => ?_)
      · skip
        have h19p := of_decide_eq_false (bnot_t h19)
        refine wp_seq ?_
        refine sx_region ?_
        refine sx rfl (stp_assign (v := .bool false) rfl ?_)
        refine sx_nil ?_
        refine wp_ret ?_; repeat (first | refine then_ret ?_ | refine blk_ret ?_)
        refine ret1 Tryz.results78 rfl ?_
        exact ⟨congrArg (fun z => Ending.returned (.bool z)) (eqB_f (fun e => by subst e; first | exact h19p rfl | exact absurd (bnot_t h19) (by rw [eqB_t rfl]; decide) | exact absurd (bnot_t h19) (by simp))).symm, st15.bare⟩
      · skip
        have h19p := of_decide_eq_true (bnot_f h19)
        refine wp_skip ?_
        refine wp_seq ?_
        refine wp_seq ?_
        refine sx_region ?_
        refine sx rfl (stp_fieldAddr fa_Span_3 rfl ?_)
        refine sx rfl (stp_load_bxs (cs := [I x.reply.code, I x.reply.run, I x.reply.task, I x.reply.try_]) ld_Reply rfl rfl (st15.get 1 rfl) rfl rfl ?_)
        refine sx rfl (stp_fieldAddr fa_Span_3 rfl ?_)
        refine sx rfl (stp_load_bxs (cs := [I y.reply.code, I y.reply.run, I y.reply.task, I y.reply.try_]) ld_Reply rfl rfl (st15.get 0 rfl) rfl rfl ?_)
        refine sx rfl (stp_call2 Tryz.func101 rfl rfl rfl ((eqReply_n W13 (show Shape.C _ [I x.reply.code, I x.reply.run, I x.reply.task, I x.reply.try_] x.reply [] from ⟨rfl, rfl, (by first | exact True.intro | (simp only [Edge.ok, Plan.ok, Entry.ok, Task.ok, Run.ok, Yard.ok, Reply.ok, Deed.ok, Note.ok, Wait.ok, File.ok, Disk.ok, Engine.ok, WorldD.ok, ActD.ok, Hand.ok, Span.ok, Crew.ok, View.ok, I64] at *; omega))⟩) (show Shape.C _ [I y.reply.code, I y.reply.run, I y.reply.task, I y.reply.try_] y.reply [] from ⟨rfl, rfl, (by first | exact True.intro | (simp only [Edge.ok, Plan.ok, Entry.ok, Task.ok, Run.ok, Yard.ok, Reply.ok, Deed.ok, Note.ok, Wait.ok, File.ok, Disk.ok, Engine.ok, WorldD.ok, ActD.ok, Hand.ok, Span.ok, Crew.ok, View.ok, I64] at *; omega))⟩)).mono ?_)); rintro _ W20 ⟨rfl, hk21⟩; refine ⟨_, rfl, ?_⟩
        have st22 := St.call st15 hk21
        refine sx rfl (stp_not rfl ?_)
        refine sx_nil ?_
        refine sx_if rfl (fun h24 => ?_) (fun h24 => ?_)
        · skip
          refine wp_seq ?_
          refine sx_region ?_
          refine sx rfl (stp_assign (v := .bool false) rfl ?_)
          refine sx_nil ?_
          refine wp_ret ?_; repeat (first | refine then_ret ?_ | refine blk_ret ?_)
          refine ret1 Tryz.results78 rfl ?_
          exact ⟨congrArg (fun z => Ending.returned (.bool z)) (eqB_f (fun e => by subst e; first | exact absurd (bnot_t h24) (by rw [eqB_t rfl]; decide) | exact absurd (bnot_t h24) (by simp))).symm, st22.bare⟩
        · skip
          refine wp_skip ?_
          refine wp_seq ?_
          refine sx_region ?_
          refine sx rfl (stp_assign (v := .bool true) rfl ?_)
          refine sx_nil ?_
          refine wp_ret ?_; repeat (first | refine then_ret ?_ | refine blk_ret ?_)
          refine ret1 Tryz.results78 rfl ?_
          exact ⟨congrArg (fun z => Ending.returned (.bool z)) (eqB_t (Span_ext (eqB_iff.1 (bnot_f h17)) h18p h19p (eqB_iff.1 (bnot_f h24)))).symm, st22.bare⟩
set_option maxHeartbeats 2000000 in
theorem eqSpanS_n (w : World) {v u : Value} {xs ys : List Span} {fp gp : List Nat} (h : Sl w v xs fp) (g : Sl w u ys gp) :
    Calls Tryz.prog 36 #[v, u] w fun e w' => e = .returned (.bool (eqB xs ys)) ∧ St w w' [] := by
  have hcap := h.len_le
  have hcap2 := g.len_le
  refine enter2 Tryz.func36 rfl Tryz.ntmps36 (by decide) ?_
  refine wp_seq ?_
  refine sx_region ?_
  refine sx rfl (stp_assign (v := .bool false) rfl ?_)
  refine sx_nil ?_
  refine wp_seq ?_
  refine wp_seq ?_
  refine sx_region ?_
  refine sx rfl (stp_move (v := v) rfl ?_)
  refine sx rfl (stp_len sl_SpanS rfl h ?_)
  refine sx rfl (stp_move (v := u) rfl ?_)
  refine sx rfl (stp_len sl_SpanS rfl g ?_)
  refine sx rfl (stp_neq rfl rfl ?_)
  refine sx_nil ?_
  refine sx_if rfl (fun h1 => ?_) (fun h1 => ?_)
  · skip
    have h1p := of_decide_eq_false (bnot_t h1)
    refine wp_seq ?_
    refine sx_region ?_
    refine sx rfl (stp_assign (v := .bool false) rfl ?_)
    refine sx_nil ?_
    refine wp_ret ?_; repeat (first | refine then_ret ?_ | refine blk_ret ?_)
    refine ret1 Tryz.results36 rfl ?_
    exact ⟨congrArg (fun z => Ending.returned (.bool z)) (eqB_f (fun e => h1p (by rw [e]))).symm, (St.start w).bare⟩
  · skip
    have h1p := of_decide_eq_true (bnot_f h1)
    refine wp_skip ?_
    refine wp_seq ?_
    refine wp_seq ?_
    refine sx_region ?_
    refine sx rfl (stp_assign (v := I 0) rfl ?_)
    refine sx_nil ?_
    refine wp_block ?_
    refine sx_loop (fun (m : Nat) (f : Nat → Value) (W : World) => ∃ (k : Nat), k ≤ xs.length ∧ xs.take k = ys.take k ∧ m = xs.length - k ∧ f 0 = v ∧ f 1 = u ∧ f 5 = I (k : Int) ∧ St w W ([])) (xs.length - 0) ?_ ?_
    · exact ⟨0, Nat.zero_le _, rfl, rfl, rfl, rfl, rfl, (St.start w)⟩
    intro m2 f3 W4 hJ5
    obtain ⟨k, hk, htk, rfl, hs7_0, hs7_1, hs7_5, st6⟩ := hJ5
    refine wp_seq ?_
    refine wp_seq ?_
    refine sx_region ?_
    refine sx rfl (stp_move (v := I (k : Int)) hs7_5 ?_)
    refine sx rfl (stp_move (v := v) hs7_0 ?_)
    refine sx rfl (stp_len sl_SpanS rfl h ?_)
    refine sx rfl (stp_lss rfl rfl ?_)
    refine sx_nil ?_
    refine sx_if rfl (fun h8 => ?_) (fun h8 => ?_)
    · skip
      have h8p := of_decide_eq_true h8
      refine wp_skip ?_
      refine wp_seq ?_
      refine wp_block ?_
      refine wp_seq ?_
      have hi51fab : k < xs.length := (by omega)
      have hq_ := idx h (i := k) hi51fab
      obtain ⟨b9, o9, cs9, f9, hp9, hr9, hc9, hm9⟩ := hq_
      have hi28e79 : k < ys.length := (by omega)
      have hq_ := idx g (i := k) hi28e79
      obtain ⟨b10, o10, cs10, f10, hp10, hr10, hc10, hm10⟩ := hq_
      refine sx_any [Pl.is (v) (Sl.yl h), Pl.is (I (k : Int)), Pl.is (.pointer (some ⟨b9, o9, none⟩)), Pl.is (.agg cs9.toArray), Pl.is (u) (Sl.yl g), Pl.is (I (k : Int)), Pl.is (.pointer (some ⟨b10, o10, none⟩)), Pl.is (.agg cs10.toArray), Pl.bool (eqB (xs[k]'hi51fab) (ys[k]'hi28e79)), Pl.bool (!(eqB (xs[k]'hi51fab) (ys[k]'hi28e79)))] mix (by rfl) st6 ⟨(fun f W hst hbl hd hf => stp_move (v := v) ((hf 0 rfl).trans hs7_0) ⟨Below.refl _ _, rfl⟩), (fun f W hst hbl hd hf => stp_move (v := I (k : Int)) ((hf 5 rfl).trans hs7_5) ⟨Below.refl _ _, rfl⟩), (fun f W hst hbl hd hf => stp_indexAddr sl_SpanS (hd 0 17 rfl rfl) hp9 (hd 1 18 rfl rfl) rfl ⟨Below.refl _ _, rfl⟩), (fun f W hst hbl hd hf => stp_load_rga ld_Span rfl (hd 2 19 rfl rfl) hr9 hst.below (Shape.len hc9) ⟨Below.refl _ _, rfl⟩), (fun f W hst hbl hd hf => stp_move (v := u) ((hf 1 rfl).trans hs7_1) ⟨Below.refl _ _, rfl⟩), (fun f W hst hbl hd hf => stp_move (v := I (k : Int)) ((hf 5 rfl).trans hs7_5) ⟨Below.refl _ _, rfl⟩), (fun f W hst hbl hd hf => stp_indexAddr sl_SpanS (hd 4 21 rfl rfl) hp10 (hd 5 22 rfl rfl) rfl ⟨Below.refl _ _, rfl⟩), (fun f W hst hbl hd hf => stp_load_rga ld_Span rfl (hd 6 23 rfl rfl) hr10 hst.below (Shape.len hc10) ⟨Below.refl _ _, rfl⟩), (fun f W hst hbl hd hf => stp_call2 Tryz.func78 rfl (hd 3 20 rfl rfl) (hd 7 24 rfl rfl) ((eqSpan_n W (C_below hc9 hst.below) (C_below hc10 hst.below)).mono (by rintro e W2 ⟨rfl, hk⟩; exact ⟨_, rfl, hk.below, rfl⟩))), (fun f W hst hbl hd hf => stp_not (hd 8 25 rfl rfl) ⟨Below.refl _ _, rfl⟩), trivial⟩ ?_
      intro f11 W12 st13 hb14 hv15 hf16
      refine sx_if (hv15 9 26 (by decide) rfl) (fun h17 => ?_) (fun h17 => ?_)
      · skip
        refine wp_seq ?_
        refine sx_region ?_
        refine sx rfl (stp_assign (v := .bool false) rfl ?_)
        refine sx_nil ?_
        refine wp_ret ?_; repeat (first | refine then_ret ?_ | refine blk_ret ?_)
        refine ret1 Tryz.results36 rfl ?_
        have hne : ¬ xs[k] = ys[k]'(by omega) := fun e => absurd (bnot_t h17) (by rw [eqB_t e]; decide)
        exact ⟨congrArg (fun z => Ending.returned (.bool z)) (eqB_f (fun e => hne (by subst e; rfl))).symm, st13.bare⟩
      · skip
        refine wp_skip ?_
        refine sx_region ?_
        refine sx rfl (stp_move (v := I (k : Int)) ((hf16 5 rfl).trans hs7_5) ?_)
        refine sx rfl (stp_add rfl rfl (by (simp only [I64] at *; omega)) ?_)
        refine sx rfl (stp_assign (v := I ((k : Int) + 1)) rfl ?_)
        refine sx_nil ?_
        exact ⟨_, xs.length - (k + 1), (by omega), rfl, k + 1, (by omega), (take_eq_succ (by omega) (by omega) htk (eqB_iff.1 (bnot_f h17))), rfl, ((hf16 0 rfl).trans hs7_0), ((hf16 1 rfl).trans hs7_1), rfl, st13⟩
    · skip
      have h8p := of_decide_eq_false h8
      refine wp_exit ?_
      refine wp_seq ?_
      refine sx_region ?_
      refine sx rfl (stp_assign (v := .bool true) rfl ?_)
      refine sx_nil ?_
      refine wp_ret ?_; repeat (first | refine then_ret ?_ | refine blk_ret ?_)
      refine ret1 Tryz.results36 rfl ?_
      obtain rfl : k = xs.length := by omega
      rw [List.take_length, List.take_of_length_le (by omega)] at htk
      exact ⟨congrArg (fun z => Ending.returned (.bool z)) (eqB_t htk).symm, st6.bare⟩
theorem Crew_ext {x y : Crew} (h0 : x.yard = y.yard) (h1 : x.holds = y.holds) (h2 : x.turns = y.turns) (h3 : x.did = y.did) : x = y := by
  cases x; cases y; simp only at *; subst_vars; rfl
set_option maxHeartbeats 2000000 in
theorem eqCrew_n (w : World) {x y : Crew} {cs ds : List Value} {fp gp : List Nat} (hc : Shape.C w cs x fp) (hd : Shape.C w ds y gp) :
    Calls Tryz.prog 14 #[.agg cs.toArray, .agg ds.toArray] w fun e w' => e = .returned (.bool (eqB x y)) ∧ St w w' [] := by
  refine enter2 Tryz.func14 rfl Tryz.ntmps14 (by decide) ?_
  refine wp_seq ?_
  refine sx_region ?_
  refine sx rfl (stp_box_agg (cs := cs) rfl (St.start w) ?_); intro b1 W2 hb3 st4
  refine sx rfl (stp_box_agg (cs := ds) rfl st4 ?_); intro b6 W7 hb8 st9
  refine sx rfl (stp_assign (v := .bool false) rfl ?_)
  refine sx_nil ?_
  refine wp_seq ?_
  refine wp_seq ?_
  refine sx_region ?_
  refine sx rfl (stp_fieldAddr fa_Crew_0 rfl ?_)
  have hk11 := hc
  obtain ⟨v11_0, v11_1, v11_2, g11_0, g11_1, g11_2, rfl, hok11, h11_0, h11_1, h11_2, rfl⟩ := hk11
  refine sx rfl (stp_load_bxs (cs := [I x.yard.now, I x.yard.seq, v11_0, v11_1]) ld_Yard rfl rfl (st9.get 1 rfl) rfl rfl ?_)
  refine sx rfl (stp_fieldAddr fa_Crew_0 rfl ?_)
  have hk12 := hd
  obtain ⟨v12_0, v12_1, v12_2, g12_0, g12_1, g12_2, rfl, hok12, h12_0, h12_1, h12_2, rfl⟩ := hk12
  refine sx rfl (stp_load_bxs (cs := [I y.yard.now, I y.yard.seq, v12_0, v12_1]) ld_Yard rfl rfl (st9.get 0 rfl) rfl rfl ?_)
  refine sx rfl (stp_call2 Tryz.func19 rfl rfl rfl ((eqYard_n W7 (show Shape.C _ [I x.yard.now, I x.yard.seq, v11_0, v11_1] x.yard _ from ⟨_, _, _, _, rfl, (by first | exact True.intro | (simp only [Edge.ok, Plan.ok, Entry.ok, Task.ok, Run.ok, Yard.ok, Reply.ok, Deed.ok, Note.ok, Wait.ok, File.ok, Disk.ok, Engine.ok, WorldD.ok, ActD.ok, Hand.ok, Span.ok, Crew.ok, View.ok, I64] at *; omega)), (h11_0.below st9.below), (h11_1.below st9.below), rfl⟩) (show Shape.C _ [I y.yard.now, I y.yard.seq, v12_0, v12_1] y.yard _ from ⟨_, _, _, _, rfl, (by first | exact True.intro | (simp only [Edge.ok, Plan.ok, Entry.ok, Task.ok, Run.ok, Yard.ok, Reply.ok, Deed.ok, Note.ok, Wait.ok, File.ok, Disk.ok, Engine.ok, WorldD.ok, ActD.ok, Hand.ok, Span.ok, Crew.ok, View.ok, I64] at *; omega)), (h12_0.below st9.below), (h12_1.below st9.below), rfl⟩)).mono ?_)); rintro _ W13 ⟨rfl, hk14⟩; refine ⟨_, rfl, ?_⟩
  have st15 := St.call st9 hk14
  refine sx rfl (stp_not rfl ?_)
  refine sx_nil ?_
  refine sx_if rfl (fun h17 => ?_) (fun h17 => ?_)
  · skip
    refine wp_seq ?_
    refine sx_region ?_
    refine sx rfl (stp_assign (v := .bool false) rfl ?_)
    refine sx_nil ?_
    refine wp_ret ?_; repeat (first | refine then_ret ?_ | refine blk_ret ?_)
    refine ret1 Tryz.results14 rfl ?_
    exact ⟨congrArg (fun z => Ending.returned (.bool z)) (eqB_f (fun e => by subst e; first | exact absurd (bnot_t h17) (by rw [eqB_t rfl]; decide) | exact absurd (bnot_t h17) (by simp))).symm, st15.bare⟩
  · skip
    refine wp_skip ?_
    refine wp_seq ?_
    refine wp_seq ?_
    refine sx_region ?_
    refine sx rfl (stp_fieldAddr fa_Crew_1 rfl ?_)
    refine sx rfl (stp_load_bx ld_ReplyS rfl rfl (st15.get 1 rfl) (i := 4) rfl rfl ?_)
    refine sx rfl (stp_fieldAddr fa_Crew_1 rfl ?_)
    refine sx rfl (stp_load_bx ld_ReplyS rfl rfl (st15.get 0 rfl) (i := 4) rfl rfl ?_)
    refine sx rfl (stp_call2 Tryz.func48 rfl rfl rfl ((eqReplyS_n W13 (h11_2.below st15.below) (h12_2.below st15.below)).mono ?_)); rintro _ W18 ⟨rfl, hk19⟩; refine ⟨_, rfl, ?_⟩
    have st20 := St.call st15 hk19
    refine sx rfl (stp_not rfl ?_)
    refine sx_nil ?_
    refine sx_if rfl (fun h22 => ?_) (fun h22 => ?_)
    · skip
      refine wp_seq ?_
      refine sx_region ?_
      refine sx rfl (stp_assign (v := .bool false) rfl ?_)
      refine sx_nil ?_
      refine wp_ret ?_; repeat (first | refine then_ret ?_ | refine blk_ret ?_)
      refine ret1 Tryz.results14 rfl ?_
      exact ⟨congrArg (fun z => Ending.returned (.bool z)) (eqB_f (fun e => by subst e; first | exact absurd (bnot_t h22) (by rw [eqB_t rfl]; decide) | exact absurd (bnot_t h22) (by simp))).symm, st20.bare⟩
    · skip
      refine wp_skip ?_
      refine wp_seq ?_
      refine wp_seq ?_
      refine sx_region ?_
      refine sx rfl (stp_fieldAddr fa_Crew_2 rfl ?_)
      refine sx rfl (stp_load_bx ld_int rfl rfl (st20.get 1 rfl) (i := 5) rfl rfl ?_)
      refine sx rfl (stp_fieldAddr fa_Crew_2 rfl ?_)
      refine sx rfl (stp_load_bx ld_int rfl rfl (st20.get 0 rfl) (i := 5) rfl rfl ?_)
      refine sx rfl (stp_neq rfl rfl ?_)
      refine sx_nil ?_
      refine sx_if rfl (fun h23 => ?_) (fun h23 => ?_)
      · skip
        have h23p := of_decide_eq_false (bnot_t h23)
        refine wp_seq ?_
        refine sx_region ?_
        refine sx rfl (stp_assign (v := .bool false) rfl ?_)
        refine sx_nil ?_
        refine wp_ret ?_; repeat (first | refine then_ret ?_ | refine blk_ret ?_)
        refine ret1 Tryz.results14 rfl ?_
        exact ⟨congrArg (fun z => Ending.returned (.bool z)) (eqB_f (fun e => by subst e; first | exact h23p rfl | exact absurd (bnot_t h23) (by rw [eqB_t rfl]; decide) | exact absurd (bnot_t h23) (by simp))).symm, st20.bare⟩
      · skip
        have h23p := of_decide_eq_true (bnot_f h23)
        refine wp_skip ?_
        refine wp_seq ?_
        refine wp_seq ?_
        refine sx_region ?_
        refine sx rfl (stp_fieldAddr fa_Crew_3 rfl ?_)
        refine sx rfl (stp_load_bx ld_int rfl rfl (st20.get 1 rfl) (i := 6) rfl rfl ?_)
        refine sx rfl (stp_fieldAddr fa_Crew_3 rfl ?_)
        refine sx rfl (stp_load_bx ld_int rfl rfl (st20.get 0 rfl) (i := 6) rfl rfl ?_)
        refine sx rfl (stp_neq rfl rfl ?_)
        refine sx_nil ?_
        refine sx_if rfl (fun h24 => ?_) (fun h24 => ?_)
        · skip
          have h24p := of_decide_eq_false (bnot_t h24)
          refine wp_seq ?_
          refine sx_region ?_
          refine sx rfl (stp_assign (v := .bool false) rfl ?_)
          refine sx_nil ?_
          refine wp_ret ?_; repeat (first | refine then_ret ?_ | refine blk_ret ?_)
          refine ret1 Tryz.results14 rfl ?_
          exact ⟨congrArg (fun z => Ending.returned (.bool z)) (eqB_f (fun e => by subst e; first | exact h24p rfl | exact absurd (bnot_t h24) (by rw [eqB_t rfl]; decide) | exact absurd (bnot_t h24) (by simp))).symm, st20.bare⟩
        · skip
          have h24p := of_decide_eq_true (bnot_f h24)
          refine wp_skip ?_
          refine wp_seq ?_
          refine sx_region ?_
          refine sx rfl (stp_assign (v := .bool true) rfl ?_)
          refine sx_nil ?_
          refine wp_ret ?_; repeat (first | refine then_ret ?_ | refine blk_ret ?_)
          refine ret1 Tryz.results14 rfl ?_
          exact ⟨congrArg (fun z => Ending.returned (.bool z)) (eqB_t (Crew_ext (eqB_iff.1 (bnot_f h17)) (eqB_iff.1 (bnot_f h22)) h23p h24p)).symm, st20.bare⟩
end Go.Proofs.YtchnllpegfbleaaGreat
