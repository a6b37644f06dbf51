/-
  The laws' comparisons. (Printed by a program of this project's.)
-/
import Derived.Test.YtpkfgalpjaoebaaSxStr
import Derived.Test.YtpkfgalpjaoebaaKBase
namespace Go.Proofs.Ytpkfgalpjaoebaa
set_option linter.unusedSimpArgs false
set_option linter.unusedVariables false
set_option maxRecDepth 100000
open Go.RowKit

theorem Edge_ext {x y : Edge} (h0 : x.from_ = y.from_) (h1 : x.to_ = y.to_) : x = y := by
  cases x; cases y; simp only at *; subst_vars; rfl
set_option maxHeartbeats 2000000 in
theorem eqEdge_n (w : World) {x y : Edge} {cs ds : List Value} {fp gp : List Nat} (hc : Shape.C w cs x fp) (hd : Shape.C w ds y gp) :
    Calls Try.prog 102 #[.agg cs.toArray, .agg ds.toArray] w fun e w' => e = .returned (.bool (eqB x y)) ∧ St w w' [] := by
  refine enter2 Try.func102 rfl Try.ntmps102 (by decide) ?_
  refine wp_seq ?_
  refine sx_region ?_
  refine sx rfl (stp_box_agg (cs := cs) rfl (St.start w) ?_); intro b1 W2 hb3 st4
  refine sx rfl (stp_box_agg (cs := ds) rfl st4 ?_); intro b6 W7 hb8 st9
  refine sx rfl (stp_assign (v := .bool false) rfl ?_)
  refine sx_nil ?_
  refine wp_seq ?_
  refine wp_seq ?_
  refine sx_region ?_
  refine sx rfl (stp_fieldAddr fa_Edge_0 rfl ?_)
  have hk11 := hc
  obtain ⟨he11, rfl, hok11⟩ := hk11
  have he11 : _ = [I x.from_, I x.to_] := he11
  subst he11
  refine sx rfl (stp_load_bx ld_int rfl rfl (st9.get 1 rfl) (i := 0) rfl rfl ?_)
  refine sx rfl (stp_fieldAddr fa_Edge_0 rfl ?_)
  have hk12 := hd
  obtain ⟨he12, rfl, hok12⟩ := hk12
  have he12 : _ = [I y.from_, I y.to_] := he12
  subst he12
  refine sx rfl (stp_load_bx ld_int rfl rfl (st9.get 0 rfl) (i := 0) rfl rfl ?_)
  refine sx rfl (stp_neq rfl rfl ?_)
  refine sx_nil ?_
  refine sx_if rfl (fun h13 => ?_) (fun h13 => ?_)
  · skip
    have h13p := of_decide_eq_false (bnot_t h13)
    refine wp_seq ?_
    refine sx_region ?_
    refine sx rfl (stp_assign (v := .bool false) rfl ?_)
    refine sx_nil ?_
    refine wp_ret ?_; repeat (first | refine then_ret ?_ | refine blk_ret ?_)
    refine ret1 Try.results102 rfl ?_
    exact ⟨congrArg (fun z => Ending.returned (.bool z)) (eqB_f (fun e => by subst e; first | exact h13p rfl | exact absurd (bnot_t h13) (by rw [eqB_t rfl]; decide) | exact absurd (bnot_t h13) (by simp))).symm, st9.bare⟩
  · skip
    have h13p := of_decide_eq_true (bnot_f h13)
    refine wp_skip ?_
    refine wp_seq ?_
    refine wp_seq ?_
    refine sx_region ?_
    refine sx rfl (stp_fieldAddr fa_Edge_1 rfl ?_)
    refine sx rfl (stp_load_bx ld_int rfl rfl (st9.get 1 rfl) (i := 1) rfl rfl ?_)
    refine sx rfl (stp_fieldAddr fa_Edge_1 rfl ?_)
    refine sx rfl (stp_load_bx ld_int rfl rfl (st9.get 0 rfl) (i := 1) rfl rfl ?_)
    refine sx rfl (stp_neq rfl rfl ?_)
    refine sx_nil ?_
    refine sx_if rfl (fun h14 => ?_) (fun h14 => ?_)
    · skip
      have h14p := of_decide_eq_false (bnot_t h14)
      refine wp_seq ?_
      refine sx_region ?_
      refine sx rfl (stp_assign (v := .bool false) rfl ?_)
      refine sx_nil ?_
      refine wp_ret ?_; repeat (first | refine then_ret ?_ | refine blk_ret ?_)
      refine ret1 Try.results102 rfl ?_
      exact ⟨congrArg (fun z => Ending.returned (.bool z)) (eqB_f (fun e => by subst e; first | exact h14p rfl | exact absurd (bnot_t h14) (by rw [eqB_t rfl]; decide) | exact absurd (bnot_t h14) (by simp))).symm, st9.bare⟩
    · skip
      have h14p := of_decide_eq_true (bnot_f h14)
      refine wp_skip ?_
      refine wp_seq ?_
      refine sx_region ?_
      refine sx rfl (stp_assign (v := .bool true) rfl ?_)
      refine sx_nil ?_
      refine wp_ret ?_; repeat (first | refine then_ret ?_ | refine blk_ret ?_)
      refine ret1 Try.results102 rfl ?_
      exact ⟨congrArg (fun z => Ending.returned (.bool z)) (eqB_t (Edge_ext h13p h14p)).symm, st9.bare⟩
set_option maxHeartbeats 2000000 in
theorem eqEdgeS_n (w : World) {v u : Value} {xs ys : List Edge} {fp gp : List Nat} (h : Sl w v xs fp) (g : Sl w u ys gp) :
    Calls Try.prog 96 #[v, u] w fun e w' => e = .returned (.bool (eqB xs ys)) ∧ St w w' [] := by
  have hcap := h.len_le
  have hcap2 := g.len_le
  refine enter2 Try.func96 rfl Try.ntmps96 (by decide) ?_
  refine wp_seq ?_
  refine sx_region ?_
  refine sx rfl (stp_assign (v := .bool false) rfl ?_)
  refine sx_nil ?_
  refine wp_seq ?_
  refine wp_seq ?_
  refine sx_region ?_
  refine sx rfl (stp_move (v := v) rfl ?_)
  refine sx rfl (stp_len sl_EdgeS rfl h ?_)
  refine sx rfl (stp_move (v := u) rfl ?_)
  refine sx rfl (stp_len sl_EdgeS rfl g ?_)
  refine sx rfl (stp_neq rfl rfl ?_)
  refine sx_nil ?_
  refine sx_if rfl (fun h1 => ?_) (fun h1 => ?_)
  · skip
    have h1p := of_decide_eq_false (bnot_t h1)
    refine wp_seq ?_
    refine sx_region ?_
    refine sx rfl (stp_assign (v := .bool false) rfl ?_)
    refine sx_nil ?_
    refine wp_ret ?_; repeat (first | refine then_ret ?_ | refine blk_ret ?_)
    refine ret1 Try.results96 rfl ?_
    exact ⟨congrArg (fun z => Ending.returned (.bool z)) (eqB_f (fun e => h1p (by rw [e]))).symm, (St.start w).bare⟩
  · skip
    have h1p := of_decide_eq_true (bnot_f h1)
    refine wp_skip ?_
    refine wp_seq ?_
    refine wp_seq ?_
    refine sx_region ?_
    refine sx rfl (stp_assign (v := I 0) rfl ?_)
    refine sx_nil ?_
    refine wp_block ?_
    refine sx_loop (fun (m : Nat) (f : Nat → Value) (W : World) => ∃ (k : Nat), k ≤ xs.length ∧ xs.take k = ys.take k ∧ m = xs.length - k ∧ f 0 = v ∧ f 1 = u ∧ f 5 = I (k : Int) ∧ St w W ([])) (xs.length - 0) ?_ ?_
    · exact ⟨0, Nat.zero_le _, rfl, rfl, rfl, rfl, rfl, (St.start w)⟩
    intro m2 f3 W4 hJ5
    obtain ⟨k, hk, htk, rfl, hs7_0, hs7_1, hs7_5, st6⟩ := hJ5
    refine wp_seq ?_
    refine wp_seq ?_
    refine sx_region ?_
    refine sx rfl (stp_move (v := I (k : Int)) hs7_5 ?_)
    refine sx rfl (stp_move (v := v) hs7_0 ?_)
    refine sx rfl (stp_len sl_EdgeS rfl h ?_)
    refine sx rfl (stp_lss rfl rfl ?_)
    refine sx_nil ?_
    refine sx_if rfl (fun h8 => ?_) (fun h8 => ?_)
    · skip
      have h8p := of_decide_eq_true h8
      refine wp_skip ?_
      refine wp_seq ?_
      refine wp_block ?_
      refine wp_seq ?_
      have hi51fab : k < xs.length := (by omega)
      have hq_ := idx h (i := k) hi51fab
      obtain ⟨b9, o9, cs9, f9, hp9, hr9, hc9, hm9⟩ := hq_
      have hk10 := hc9
      obtain ⟨he10, rfl, hok10⟩ := hk10
      have he10 : _ = [I (xs[k]'hi51fab).from_, I (xs[k]'hi51fab).to_] := he10
      subst he10
      have hi28e79 : k < ys.length := (by omega)
      have hq_ := idx g (i := k) hi28e79
      obtain ⟨b11, o11, cs11, f11, hp11, hr11, hc11, hm11⟩ := hq_
      have hk12 := hc11
      obtain ⟨he12, rfl, hok12⟩ := hk12
      have he12 : _ = [I (ys[k]'hi28e79).from_, I (ys[k]'hi28e79).to_] := he12
      subst he12
      refine sx_any [Pl.is (v) (Sl.yl h), Pl.is (I (k : Int)), Pl.is (.pointer (some ⟨b9, o9, none⟩)), Pl.is (.agg #[I (xs[k]'hi51fab).from_, I (xs[k]'hi51fab).to_]), Pl.is (u) (Sl.yl g), Pl.is (I (k : Int)), Pl.is (.pointer (some ⟨b11, o11, none⟩)), Pl.is (.agg #[I (ys[k]'hi28e79).from_, I (ys[k]'hi28e79).to_]), Pl.bool (eqB (xs[k]'hi51fab) (ys[k]'hi28e79)), Pl.bool (!(eqB (xs[k]'hi51fab) (ys[k]'hi28e79)))] mix (by rfl) st6 ⟨(fun f W hst hbl hd hf => stp_move (v := v) ((hf 0 rfl).trans hs7_0) ⟨Below.refl _ _, rfl⟩), (fun f W hst hbl hd hf => stp_move (v := I (k : Int)) ((hf 5 rfl).trans hs7_5) ⟨Below.refl _ _, rfl⟩), (fun f W hst hbl hd hf => stp_indexAddr sl_EdgeS (hd 0 17 rfl rfl) hp9 (hd 1 18 rfl rfl) rfl ⟨Below.refl _ _, rfl⟩), (fun f W hst hbl hd hf => stp_load_rgs (cs := [I (xs[k]'hi51fab).from_, I (xs[k]'hi51fab).to_]) ld_Edge rfl (hd 2 19 rfl rfl) hr9 hst.below (i := 0) rfl rfl rfl ⟨Below.refl _ _, rfl⟩), (fun f W hst hbl hd hf => stp_move (v := u) ((hf 1 rfl).trans hs7_1) ⟨Below.refl _ _, rfl⟩), (fun f W hst hbl hd hf => stp_move (v := I (k : Int)) ((hf 5 rfl).trans hs7_5) ⟨Below.refl _ _, rfl⟩), (fun f W hst hbl hd hf => stp_indexAddr sl_EdgeS (hd 4 21 rfl rfl) hp11 (hd 5 22 rfl rfl) rfl ⟨Below.refl _ _, rfl⟩), (fun f W hst hbl hd hf => stp_load_rgs (cs := [I (ys[k]'hi28e79).from_, I (ys[k]'hi28e79).to_]) ld_Edge rfl (hd 6 23 rfl rfl) hr11 hst.below (i := 0) rfl rfl rfl ⟨Below.refl _ _, rfl⟩), (fun f W hst hbl hd hf => stp_call2 Try.func102 rfl (hd 3 20 rfl rfl) (hd 7 24 rfl rfl) ((eqEdge_n W hc9 hc11).mono (by rintro e W2 ⟨rfl, hk⟩; exact ⟨_, rfl, hk.below, rfl⟩))), (fun f W hst hbl hd hf => stp_not (hd 8 25 rfl rfl) ⟨Below.refl _ _, rfl⟩), trivial⟩ ?_
      intro f13 W14 st15 hb16 hv17 hf18
      refine sx_if (hv17 9 26 (by decide) rfl) (fun h19 => ?_) (fun h19 => ?_)
      · skip
        refine wp_seq ?_
        refine sx_region ?_
        refine sx rfl (stp_assign (v := .bool false) rfl ?_)
        refine sx_nil ?_
        refine wp_ret ?_; repeat (first | refine then_ret ?_ | refine blk_ret ?_)
        refine ret1 Try.results96 rfl ?_
        have hne : ¬ xs[k] = ys[k]'(by omega) := fun e => absurd (bnot_t h19) (by rw [eqB_t e]; decide)
        exact ⟨congrArg (fun z => Ending.returned (.bool z)) (eqB_f (fun e => hne (by subst e; rfl))).symm, st15.bare⟩
      · skip
        refine wp_skip ?_
        refine sx_region ?_
        refine sx rfl (stp_move (v := I (k : Int)) ((hf18 5 rfl).trans hs7_5) ?_)
        refine sx rfl (stp_add rfl rfl (by (simp only [I64] at *; omega)) ?_)
        refine sx rfl (stp_assign (v := I ((k : Int) + 1)) rfl ?_)
        refine sx_nil ?_
        exact ⟨_, xs.length - (k + 1), (by omega), rfl, k + 1, (by omega), (take_eq_succ (by omega) (by omega) htk (eqB_iff.1 (bnot_f h19))), rfl, ((hf18 0 rfl).trans hs7_0), ((hf18 1 rfl).trans hs7_1), rfl, st15⟩
    · skip
      have h8p := of_decide_eq_false h8
      refine wp_exit ?_
      refine wp_seq ?_
      refine sx_region ?_
      refine sx rfl (stp_assign (v := .bool true) rfl ?_)
      refine sx_nil ?_
      refine wp_ret ?_; repeat (first | refine then_ret ?_ | refine blk_ret ?_)
      refine ret1 Try.results96 rfl ?_
      obtain rfl : k = xs.length := by omega
      rw [List.take_length, List.take_of_length_le (by omega)] at htk
      exact ⟨congrArg (fun z => Ending.returned (.bool z)) (eqB_t htk).symm, st6.bare⟩
theorem Plan_ext {x y : Plan} (h0 : x.prio = y.prio) (h1 : x.most = y.most) (h2 : x.wait = y.wait) (h3 : x.tasks = y.tasks) (h4 : x.edges = y.edges) : x = y := by
  cases x; cases y; simp only at *; subst_vars; rfl
set_option maxHeartbeats 2000000 in
theorem eqPlan_n (w : World) {x y : Plan} {cs ds : List Value} {fp gp : List Nat} (hc : Shape.C w cs x fp) (hd : Shape.C w ds y gp) :
    Calls Try.prog 83 #[.agg cs.toArray, .agg ds.toArray] w fun e w' => e = .returned (.bool (eqB x y)) ∧ St w w' [] := by
  refine enter2 Try.func83 rfl Try.ntmps83 (by decide) ?_
  refine wp_seq ?_
  refine sx_region ?_
  refine sx rfl (stp_box_agg (cs := cs) rfl (St.start w) ?_); intro b1 W2 hb3 st4
  refine sx rfl (stp_box_agg (cs := ds) rfl st4 ?_); intro b6 W7 hb8 st9
  refine sx rfl (stp_assign (v := .bool false) rfl ?_)
  refine sx_nil ?_
  refine wp_seq ?_
  refine wp_seq ?_
  refine sx_region ?_
  refine sx rfl (stp_fieldAddr fa_Plan_0 rfl ?_)
  have hk11 := hc
  obtain ⟨v11_0, g11_0, rfl, hok11, h11_0, rfl⟩ := hk11
  refine sx rfl (stp_load_bx ld_int rfl rfl (st9.get 1 rfl) (i := 0) rfl rfl ?_)
  refine sx rfl (stp_fieldAddr fa_Plan_0 rfl ?_)
  have hk12 := hd
  obtain ⟨v12_0, g12_0, rfl, hok12, h12_0, rfl⟩ := hk12
  refine sx rfl (stp_load_bx ld_int rfl rfl (st9.get 0 rfl) (i := 0) rfl rfl ?_)
  refine sx rfl (stp_neq rfl rfl ?_)
  refine sx_nil ?_
  refine sx_if rfl (fun h13 => ?_) (fun h13 => ?_)
  · skip
    have h13p := of_decide_eq_false (bnot_t h13)
    refine wp_seq ?_
    refine sx_region ?_
    refine sx rfl (stp_assign (v := .bool false) rfl ?_)
    refine sx_nil ?_
    refine wp_ret ?_; repeat (first | refine then_ret ?_ | refine blk_ret ?_)
    refine ret1 Try.results83 rfl ?_
    exact ⟨congrArg (fun z => Ending.returned (.bool z)) (eqB_f (fun e => by subst e; first | exact h13p rfl | exact absurd (bnot_t h13) (by rw [eqB_t rfl]; decide) | exact absurd (bnot_t h13) (by simp))).symm, st9.bare⟩
  · skip
    have h13p := of_decide_eq_true (bnot_f h13)
    refine wp_skip ?_
    refine wp_seq ?_
    refine wp_seq ?_
    refine sx_region ?_
    refine sx rfl (stp_fieldAddr fa_Plan_1 rfl ?_)
    refine sx rfl (stp_load_bx ld_int rfl rfl (st9.get 1 rfl) (i := 1) rfl rfl ?_)
    refine sx rfl (stp_fieldAddr fa_Plan_1 rfl ?_)
    refine sx rfl (stp_load_bx ld_int rfl rfl (st9.get 0 rfl) (i := 1) rfl rfl ?_)
    refine sx rfl (stp_neq rfl rfl ?_)
    refine sx_nil ?_
    refine sx_if rfl (fun h14 => ?_) (fun h14 => ?_)
    · skip
      have h14p := of_decide_eq_false (bnot_t h14)
      refine wp_seq ?_
      refine sx_region ?_
      refine sx rfl (stp_assign (v := .bool false) rfl ?_)
      refine sx_nil ?_
      refine wp_ret ?_; repeat (first | refine then_ret ?_ | refine blk_ret ?_)
      refine ret1 Try.results83 rfl ?_
      exact ⟨congrArg (fun z => Ending.returned (.bool z)) (eqB_f (fun e => by subst e; first | exact h14p rfl | exact absurd (bnot_t h14) (by rw [eqB_t rfl]; decide) | exact absurd (bnot_t h14) (by simp))).symm, st9.bare⟩
    · skip
      have h14p := of_decide_eq_true (bnot_f h14)
      refine wp_skip ?_
      refine wp_seq ?_
      refine wp_seq ?_
      refine sx_region ?_
      refine sx rfl (stp_fieldAddr fa_Plan_2 rfl ?_)
      refine sx rfl (stp_load_bx ld_int rfl rfl (st9.get 1 rfl) (i := 2) rfl rfl ?_)
      refine sx rfl (stp_fieldAddr fa_Plan_2 rfl ?_)
      refine sx rfl (stp_load_bx ld_int rfl rfl (st9.get 0 rfl) (i := 2) rfl rfl ?_)
      refine sx rfl (stp_neq rfl rfl ?_)
      refine sx_nil ?_
      refine sx_if rfl (fun h15 => ?_) (fun h15 => ?_)
      · skip
        have h15p := of_decide_eq_false (bnot_t h15)
        refine wp_seq ?_
        refine sx_region ?_
        refine sx rfl (stp_assign (v := .bool false) rfl ?_)
        refine sx_nil ?_
        refine wp_ret ?_; repeat (first | refine then_ret ?_ | refine blk_ret ?_)
        refine ret1 Try.results83 rfl ?_
        exact ⟨congrArg (fun z => Ending.returned (.bool z)) (eqB_f (fun e => by subst e; first | exact h15p rfl | exact absurd (bnot_t h15) (by rw [eqB_t rfl]; decide) | exact absurd (bnot_t h15) (by simp))).symm, st9.bare⟩
      · skip
        have h15p := of_decide_eq_true (bnot_f h15)
        refine wp_skip ?_
        refine wp_seq ?_
        refine wp_seq ?_
        refine sx_region ?_
        refine sx rfl (stp_fieldAddr fa_Plan_3 rfl ?_)
        refine sx rfl (stp_load_bx ld_int rfl rfl (st9.get 1 rfl) (i := 3) rfl rfl ?_)
        refine sx rfl (stp_fieldAddr fa_Plan_3 rfl ?_)
        refine sx rfl (stp_load_bx ld_int rfl rfl (st9.get 0 rfl) (i := 3) rfl rfl ?_)
        refine sx rfl (stp_neq rfl rfl ?_)
        refine sx_nil ?_
        refine sx_if rfl (fun h16 => ?_) (fun h16 => ?_)
        · skip
          have h16p := of_decide_eq_false (bnot_t h16)
          refine wp_seq ?_
          refine sx_region ?_
          refine sx rfl (stp_assign (v := .bool false) rfl ?_)
          refine sx_nil ?_
          refine wp_ret ?_; repeat (first | refine then_ret ?_ | refine blk_ret ?_)
          refine ret1 Try.results83 rfl ?_
          exact ⟨congrArg (fun z => Ending.returned (.bool z)) (eqB_f (fun e => by subst e; first | exact h16p rfl | exact absurd (bnot_t h16) (by rw [eqB_t rfl]; decide) | exact absurd (bnot_t h16) (by simp))).symm, st9.bare⟩
        · skip
          have h16p := of_decide_eq_true (bnot_f h16)
          refine wp_skip ?_
          refine wp_seq ?_
          refine wp_seq ?_
          refine sx_region ?_
          refine sx rfl (stp_fieldAddr fa_Plan_4 rfl ?_)
          refine sx rfl (stp_load_bx ld_EdgeS rfl rfl (st9.get 1 rfl) (i := 4) rfl rfl ?_)
          refine sx rfl (stp_fieldAddr fa_Plan_4 rfl ?_)
          refine sx rfl (stp_load_bx ld_EdgeS rfl rfl (st9.get 0 rfl) (i := 4) rfl rfl ?_)
          refine sx rfl (stp_call2 Try.func96 rfl rfl rfl ((eqEdgeS_n W7 (h11_0.below st9.below) (h12_0.below st9.below)).mono ?_)); rintro _ W17 ⟨rfl, hk18⟩; refine ⟨_, rfl, ?_⟩
          have st19 := St.call st9 hk18
          refine sx rfl (stp_not rfl ?_)
          refine sx_nil ?_
          refine sx_if rfl (fun h21 => ?_) (fun h21 => ?_)
          · skip
            refine wp_seq ?_
            refine sx_region ?_
            refine sx rfl (stp_assign (v := .bool false) rfl ?_)
            refine sx_nil ?_
            refine wp_ret ?_; repeat (first | refine then_ret ?_ | refine blk_ret ?_)
            refine ret1 Try.results83 rfl ?_
            exact ⟨congrArg (fun z => Ending.returned (.bool z)) (eqB_f (fun e => by subst e; first | exact absurd (bnot_t h21) (by rw [eqB_t rfl]; decide) | exact absurd (bnot_t h21) (by simp))).symm, st19.bare⟩
          · skip
            refine wp_skip ?_
            refine wp_seq ?_
            refine sx_region ?_
            refine sx rfl (stp_assign (v := .bool true) rfl ?_)
            refine sx_nil ?_
            refine wp_ret ?_; repeat (first | refine then_ret ?_ | refine blk_ret ?_)
            refine ret1 Try.results83 rfl ?_
            exact ⟨congrArg (fun z => Ending.returned (.bool z)) (eqB_t (Plan_ext h13p h14p h15p h16p (eqB_iff.1 (bnot_f h21)))).symm, st19.bare⟩
theorem Entry_ext {x y : Entry} (h0 : x.prio = y.prio) (h1 : x.seq = y.seq) (h2 : x.run = y.run) (h3 : x.task = y.task) : x = y := by
  cases x; cases y; simp only at *; subst_vars; rfl
set_option maxHeartbeats 2000000 in
theorem eqEntry_n (w : World) {x y : Entry} {cs ds : List Value} {fp gp : List Nat} (hc : Shape.C w cs x fp) (hd : Shape.C w ds y gp) :
    Calls Try.prog 82 #[.agg cs.toArray, .agg ds.toArray] w fun e w' => e = .returned (.bool (eqB x y)) ∧ St w w' [] := by
  refine enter2 Try.func82 rfl Try.ntmps82 (by decide) ?_
  refine wp_seq ?_
  refine sx_region ?_
  refine sx rfl (stp_box_agg (cs := cs) rfl (St.start w) ?_); intro b1 W2 hb3 st4
  refine sx rfl (stp_box_agg (cs := ds) rfl st4 ?_); intro b6 W7 hb8 st9
  refine sx rfl (stp_assign (v := .bool false) rfl ?_)
  refine sx_nil ?_
  refine wp_seq ?_
  refine wp_seq ?_
  refine sx_region ?_
  refine sx rfl (stp_fieldAddr fa_Entry_0 rfl ?_)
  have hk11 := hc
  obtain ⟨he11, rfl, hok11⟩ := hk11
  have he11 : _ = [I x.prio, I x.seq, I x.run, I x.task] := he11
  subst he11
  refine sx rfl (stp_load_bx ld_int rfl rfl (st9.get 1 rfl) (i := 0) rfl rfl ?_)
  refine sx rfl (stp_fieldAddr fa_Entry_0 rfl ?_)
  have hk12 := hd
  obtain ⟨he12, rfl, hok12⟩ := hk12
  have he12 : _ = [I y.prio, I y.seq, I y.run, I y.task] := he12
  subst he12
  refine sx rfl (stp_load_bx ld_int rfl rfl (st9.get 0 rfl) (i := 0) rfl rfl ?_)
  refine sx rfl (stp_neq rfl rfl ?_)
  refine sx_nil ?_
  refine sx_if rfl (fun h13 => ?_) (fun h13 => ?_)
  · skip
    have h13p := of_decide_eq_false (bnot_t h13)
    refine wp_seq ?_
    refine sx_region ?_
    refine sx rfl (stp_assign (v := .bool false) rfl ?_)
    refine sx_nil ?_
    refine wp_ret ?_; repeat (first | refine then_ret ?_ | refine blk_ret ?_)
    refine ret1 Try.results82 rfl ?_
    exact ⟨congrArg (fun z => Ending.returned (.bool z)) (eqB_f (fun e => by subst e; first | exact h13p rfl | exact absurd (bnot_t h13) (by rw [eqB_t rfl]; decide) | exact absurd (bnot_t h13) (by simp))).symm, st9.bare⟩
  · skip
    have h13p := of_decide_eq_true (bnot_f h13)
    refine wp_skip ?_
    refine wp_seq ?_
    refine wp_seq ?_
    refine sx_region ?_
    refine sx rfl (stp_fieldAddr fa_Entry_1 rfl ?_)
    refine sx rfl (stp_load_bx ld_int rfl rfl (st9.get 1 rfl) (i := 1) rfl rfl ?_)
    refine sx rfl (stp_fieldAddr fa_Entry_1 rfl ?_)
    refine sx rfl (stp_load_bx ld_int rfl rfl (st9.get 0 rfl) (i := 1) rfl rfl ?_)
    refine sx rfl (stp_neq rfl rfl ?_)
    refine sx_nil ?_
    refine sx_if rfl (fun h14 => ?_) (fun h14 => ?_)
    · skip
      have h14p := of_decide_eq_false (bnot_t h14)
      refine wp_seq ?_
      refine sx_region ?_
      refine sx rfl (stp_assign (v := .bool false) rfl ?_)
      refine sx_nil ?_
      refine wp_ret ?_; repeat (first | refine then_ret ?_ | refine blk_ret ?_)
      refine ret1 Try.results82 rfl ?_
      exact ⟨congrArg (fun z => Ending.returned (.bool z)) (eqB_f (fun e => by subst e; first | exact h14p rfl | exact absurd (bnot_t h14) (by rw [eqB_t rfl]; decide) | exact absurd (bnot_t h14) (by simp))).symm, st9.bare⟩
    · skip
      have h14p := of_decide_eq_true (bnot_f h14)
      refine wp_skip ?_
      refine wp_seq ?_
      refine wp_seq ?_
      refine sx_region ?_
      refine sx rfl (stp_fieldAddr fa_Entry_2 rfl ?_)
      refine sx rfl (stp_load_bx ld_int rfl rfl (st9.get 1 rfl) (i := 2) rfl rfl ?_)
      refine sx rfl (stp_fieldAddr fa_Entry_2 rfl ?_)
      refine sx rfl (stp_load_bx ld_int rfl rfl (st9.get 0 rfl) (i := 2) rfl rfl ?_)
      refine sx rfl (stp_neq rfl rfl ?_)
      refine sx_nil ?_
      refine sx_if rfl (fun h15 => ?_) (fun h15 => ?_)
      · skip
        have h15p := of_decide_eq_false (bnot_t h15)
        refine wp_seq ?_
        refine sx_region ?_
        refine sx rfl (stp_assign (v := .bool false) rfl ?_)
        refine sx_nil ?_
        refine wp_ret ?_; repeat (first | refine then_ret ?_ | refine blk_ret ?_)
        refine ret1 Try.results82 rfl ?_
        exact ⟨congrArg (fun z => Ending.returned (.bool z)) (eqB_f (fun e => by subst e; first | exact h15p rfl | exact absurd (bnot_t h15) (by rw [eqB_t rfl]; decide) | exact absurd (bnot_t h15) (by simp))).symm, st9.bare⟩
      · skip
        have h15p := of_decide_eq_true (bnot_f h15)
        refine wp_skip ?_
        refine wp_seq ?_
        refine wp_seq ?_
        refine sx_region ?_
        refine sx rfl (stp_fieldAddr fa_Entry_3 rfl ?_)
        refine sx rfl (stp_load_bx ld_int rfl rfl (st9.get 1 rfl) (i := 3) rfl rfl ?_)
        refine sx rfl (stp_fieldAddr fa_Entry_3 rfl ?_)
        refine sx rfl (stp_load_bx ld_int rfl rfl (st9.get 0 rfl) (i := 3) rfl rfl ?_)
        refine sx rfl (stp_neq rfl rfl ?_)
        refine sx_nil ?_
        refine sx_if rfl (fun h16 => ?_) (fun h16 => ?_)
        · skip
          have h16p := of_decide_eq_false (bnot_t h16)
          refine wp_seq ?_
          refine sx_region ?_
          refine sx rfl (stp_assign (v := .bool false) rfl ?_)
          refine sx_nil ?_
          refine wp_ret ?_; repeat (first | refine then_ret ?_ | refine blk_ret ?_)
          refine ret1 Try.results82 rfl ?_
          exact ⟨congrArg (fun z => Ending.returned (.bool z)) (eqB_f (fun e => by subst e; first | exact h16p rfl | exact absurd (bnot_t h16) (by rw [eqB_t rfl]; decide) | exact absurd (bnot_t h16) (by simp))).symm, st9.bare⟩
        · skip
          have h16p := of_decide_eq_true (bnot_f h16)
          refine wp_skip ?_
          refine wp_seq ?_
          refine sx_region ?_
          refine sx rfl (stp_assign (v := .bool true) rfl ?_)
          refine sx_nil ?_
          refine wp_ret ?_; repeat (first | refine then_ret ?_ | refine blk_ret ?_)
          refine ret1 Try.results82 rfl ?_
          exact ⟨congrArg (fun z => Ending.returned (.bool z)) (eqB_t (Entry_ext h13p h14p h15p h16p)).symm, st9.bare⟩
set_option maxHeartbeats 2000000 in
theorem eqEntryS_n (w : World) {v u : Value} {xs ys : List Entry} {fp gp : List Nat} (h : Sl w v xs fp) (g : Sl w u ys gp) :
    Calls Try.prog 57 #[v, u] w fun e w' => e = .returned (.bool (eqB xs ys)) ∧ St w w' [] := by
  have hcap := h.len_le
  have hcap2 := g.len_le
  refine enter2 Try.func57 rfl Try.ntmps57 (by decide) ?_
  refine wp_seq ?_
  refine sx_region ?_
  refine sx rfl (stp_assign (v := .bool false) rfl ?_)
  refine sx_nil ?_
  refine wp_seq ?_
  refine wp_seq ?_
  refine sx_region ?_
  refine sx rfl (stp_move (v := v) rfl ?_)
  refine sx rfl (stp_len sl_EntryS rfl h ?_)
  refine sx rfl (stp_move (v := u) rfl ?_)
  refine sx rfl (stp_len sl_EntryS rfl g ?_)
  refine sx rfl (stp_neq rfl rfl ?_)
  refine sx_nil ?_
  refine sx_if rfl (fun h1 => ?_) (fun h1 => ?_)
  · skip
    have h1p := of_decide_eq_false (bnot_t h1)
    refine wp_seq ?_
    refine sx_region ?_
    refine sx rfl (stp_assign (v := .bool false) rfl ?_)
    refine sx_nil ?_
    refine wp_ret ?_; repeat (first | refine then_ret ?_ | refine blk_ret ?_)
    refine ret1 Try.results57 rfl ?_
    exact ⟨congrArg (fun z => Ending.returned (.bool z)) (eqB_f (fun e => h1p (by rw [e]))).symm, (St.start w).bare⟩
  · skip
    have h1p := of_decide_eq_true (bnot_f h1)
    refine wp_skip ?_
    refine wp_seq ?_
    refine wp_seq ?_
    refine sx_region ?_
    refine sx rfl (stp_assign (v := I 0) rfl ?_)
    refine sx_nil ?_
    refine wp_block ?_
    refine sx_loop (fun (m : Nat) (f : Nat → Value) (W : World) => ∃ (k : Nat), k ≤ xs.length ∧ xs.take k = ys.take k ∧ m = xs.length - k ∧ f 0 = v ∧ f 1 = u ∧ f 5 = I (k : Int) ∧ St w W ([])) (xs.length - 0) ?_ ?_
    · exact ⟨0, Nat.zero_le _, rfl, rfl, rfl, rfl, rfl, (St.start w)⟩
    intro m2 f3 W4 hJ5
    obtain ⟨k, hk, htk, rfl, hs7_0, hs7_1, hs7_5, st6⟩ := hJ5
    refine wp_seq ?_
    refine wp_seq ?_
    refine sx_region ?_
    refine sx rfl (stp_move (v := I (k : Int)) hs7_5 ?_)
    refine sx rfl (stp_move (v := v) hs7_0 ?_)
    refine sx rfl (stp_len sl_EntryS rfl h ?_)
    refine sx rfl (stp_lss rfl rfl ?_)
    refine sx_nil ?_
    refine sx_if rfl (fun h8 => ?_) (fun h8 => ?_)
    · skip
      have h8p := of_decide_eq_true h8
      refine wp_skip ?_
      refine wp_seq ?_
      refine wp_block ?_
      refine wp_seq ?_
      have hi51fab : k < xs.length := (by omega)
      have hq_ := idx h (i := k) hi51fab
      obtain ⟨b9, o9, cs9, f9, hp9, hr9, hc9, hm9⟩ := hq_
      have hk10 := hc9
      obtain ⟨he10, rfl, hok10⟩ := hk10
      have he10 : _ = [I (xs[k]'hi51fab).prio, I (xs[k]'hi51fab).seq, I (xs[k]'hi51fab).run, I (xs[k]'hi51fab).task] := he10
      subst he10
      have hi28e79 : k < ys.length := (by omega)
      have hq_ := idx g (i := k) hi28e79
      obtain ⟨b11, o11, cs11, f11, hp11, hr11, hc11, hm11⟩ := hq_
      have hk12 := hc11
      obtain ⟨he12, rfl, hok12⟩ := hk12
      have he12 : _ = [I (ys[k]'hi28e79).prio, I (ys[k]'hi28e79).seq, I (ys[k]'hi28e79).run, I (ys[k]'hi28e79).task] := he12
      subst he12
      refine sx_any [Pl.is (v) (Sl.yl h), Pl.is (I (k : Int)), Pl.is (.pointer (some ⟨b9, o9, none⟩)), Pl.is (.agg #[I (xs[k]'hi51fab).prio, I (xs[k]'hi51fab).seq, I (xs[k]'hi51fab).run, I (xs[k]'hi51fab).task]), Pl.is (u) (Sl.yl g), Pl.is (I (k : Int)), Pl.is (.pointer (some ⟨b11, o11, none⟩)), Pl.is (.agg #[I (ys[k]'hi28e79).prio, I (ys[k]'hi28e79).seq, I (ys[k]'hi28e79).run, I (ys[k]'hi28e79).task]), Pl.bool (eqB (xs[k]'hi51fab) (ys[k]'hi28e79)), Pl.bool (!(eqB (xs[k]'hi51fab) (ys[k]'hi28e79)))] mix (by rfl) st6 ⟨(fun f W hst hbl hd hf => stp_move (v := v) ((hf 0 rfl).trans hs7_0) ⟨Below.refl _ _, rfl⟩), (fun f W hst hbl hd hf => stp_move (v := I (k : Int)) ((hf 5 rfl).trans hs7_5) ⟨Below.refl _ _, rfl⟩), (fun f W hst hbl hd hf => stp_indexAddr sl_EntryS (hd 0 17 rfl rfl) hp9 (hd 1 18 rfl rfl) rfl ⟨Below.refl _ _, rfl⟩), (fun f W hst hbl hd hf => stp_load_rgs (cs := [I (xs[k]'hi51fab).prio, I (xs[k]'hi51fab).seq, I (xs[k]'hi51fab).run, I (xs[k]'hi51fab).task]) ld_Entry rfl (hd 2 19 rfl rfl) hr9 hst.below (i := 0) rfl rfl rfl ⟨Below.refl _ _, rfl⟩), (fun f W hst hbl hd hf => stp_move (v := u) ((hf 1 rfl).trans hs7_1) ⟨Below.refl _ _, rfl⟩), (fun f W hst hbl hd hf => stp_move (v := I (k : Int)) ((hf 5 rfl).trans hs7_5) ⟨Below.refl _ _, rfl⟩), (fun f W hst hbl hd hf => stp_indexAddr sl_EntryS (hd 4 21 rfl rfl) hp11 (hd 5 22 rfl rfl) rfl ⟨Below.refl _ _, rfl⟩), (fun f W hst hbl hd hf => stp_load_rgs (cs := [I (ys[k]'hi28e79).prio, I (ys[k]'hi28e79).seq, I (ys[k]'hi28e79).run, I (ys[k]'hi28e79).task]) ld_Entry rfl (hd 6 23 rfl rfl) hr11 hst.below (i := 0) rfl rfl rfl ⟨Below.refl _ _, rfl⟩), (fun f W hst hbl hd hf => stp_call2 Try.func82 rfl (hd 3 20 rfl rfl) (hd 7 24 rfl rfl) ((eqEntry_n W hc9 hc11).mono (by rintro e W2 ⟨rfl, hk⟩; exact ⟨_, rfl, hk.below, rfl⟩))), (fun f W hst hbl hd hf => stp_not (hd 8 25 rfl rfl) ⟨Below.refl _ _, rfl⟩), trivial⟩ ?_
      intro f13 W14 st15 hb16 hv17 hf18
      refine sx_if (hv17 9 26 (by decide) rfl) (fun h19 => ?_) (fun h19 => ?_)
      · skip
        refine wp_seq ?_
        refine sx_region ?_
        refine sx rfl (stp_assign (v := .bool false) rfl ?_)
        refine sx_nil ?_
        refine wp_ret ?_; repeat (first | refine then_ret ?_ | refine blk_ret ?_)
        refine ret1 Try.results57 rfl ?_
        have hne : ¬ xs[k] = ys[k]'(by omega) := fun e => absurd (bnot_t h19) (by rw [eqB_t e]; decide)
        exact ⟨congrArg (fun z => Ending.returned (.bool z)) (eqB_f (fun e => hne (by subst e; rfl))).symm, st15.bare⟩
      · skip
        refine wp_skip ?_
        refine sx_region ?_
        refine sx rfl (stp_move (v := I (k : Int)) ((hf18 5 rfl).trans hs7_5) ?_)
        refine sx rfl (stp_add rfl rfl (by (simp only [I64] at *; omega)) ?_)
        refine sx rfl (stp_assign (v := I ((k : Int) + 1)) rfl ?_)
        refine sx_nil ?_
        exact ⟨_, xs.length - (k + 1), (by omega), rfl, k + 1, (by omega), (take_eq_succ (by omega) (by omega) htk (eqB_iff.1 (bnot_f h19))), rfl, ((hf18 0 rfl).trans hs7_0), ((hf18 1 rfl).trans hs7_1), rfl, st15⟩
    · skip
      have h8p := of_decide_eq_false h8
      refine wp_exit ?_
      refine wp_seq ?_
      refine sx_region ?_
      refine sx rfl (stp_assign (v := .bool true) rfl ?_)
      refine sx_nil ?_
      refine wp_ret ?_; repeat (first | refine then_ret ?_ | refine blk_ret ?_)
      refine ret1 Try.results57 rfl ?_
      obtain rfl : k = xs.length := by omega
      rw [List.take_length, List.take_of_length_le (by omega)] at htk
      exact ⟨congrArg (fun z => Ending.returned (.bool z)) (eqB_t htk).symm, st6.bare⟩
theorem Task_ext {x y : Task} (h0 : x.state = y.state) (h1 : x.need = y.need) (h2 : x.try_ = y.try_) (h3 : x.until_ = y.until_) : x = y := by
  cases x; cases y; simp only at *; subst_vars; rfl
set_option maxHeartbeats 2000000 in
theorem eqTask_n (w : World) {x y : Task} {cs ds : List Value} {fp gp : List Nat} (hc : Shape.C w cs x fp) (hd : Shape.C w ds y gp) :
    Calls Try.prog 97 #[.agg cs.toArray, .agg ds.toArray] w fun e w' => e = .returned (.bool (eqB x y)) ∧ St w w' [] := by
  refine enter2 Try.func97 rfl Try.ntmps97 (by decide) ?_
  refine wp_seq ?_
  refine sx_region ?_
  refine sx rfl (stp_box_agg (cs := cs) rfl (St.start w) ?_); intro b1 W2 hb3 st4
  refine sx rfl (stp_box_agg (cs := ds) rfl st4 ?_); intro b6 W7 hb8 st9
  refine sx rfl (stp_assign (v := .bool false) rfl ?_)
  refine sx_nil ?_
  refine wp_seq ?_
  refine wp_seq ?_
  refine sx_region ?_
  refine sx rfl (stp_fieldAddr fa_Task_0 rfl ?_)
  have hk11 := hc
  obtain ⟨he11, rfl, hok11⟩ := hk11
  have he11 : _ = [I x.state, I x.need, I x.try_, I x.until_] := he11
  subst he11
  refine sx rfl (stp_load_bx ld_int rfl rfl (st9.get 1 rfl) (i := 0) rfl rfl ?_)
  refine sx rfl (stp_fieldAddr fa_Task_0 rfl ?_)
  have hk12 := hd
  obtain ⟨he12, rfl, hok12⟩ := hk12
  have he12 : _ = [I y.state, I y.need, I y.try_, I y.until_] := he12
  subst he12
  refine sx rfl (stp_load_bx ld_int rfl rfl (st9.get 0 rfl) (i := 0) rfl rfl ?_)
  refine sx rfl (stp_neq rfl rfl ?_)
  refine sx_nil ?_
  refine sx_if rfl (fun h13 => ?_) (fun h13 => ?_)
  · skip
    have h13p := of_decide_eq_false (bnot_t h13)
    refine wp_seq ?_
    refine sx_region ?_
    refine sx rfl (stp_assign (v := .bool false) rfl ?_)
    refine sx_nil ?_
    refine wp_ret ?_; repeat (first | refine then_ret ?_ | refine blk_ret ?_)
    refine ret1 Try.results97 rfl ?_
    exact ⟨congrArg (fun z => Ending.returned (.bool z)) (eqB_f (fun e => by subst e; first | exact h13p rfl | exact absurd (bnot_t h13) (by rw [eqB_t rfl]; decide) | exact absurd (bnot_t h13) (by simp))).symm, st9.bare⟩
  · skip
    have h13p := of_decide_eq_true (bnot_f h13)
    refine wp_skip ?_
    refine wp_seq ?_
    refine wp_seq ?_
    refine sx_region ?_
    refine sx rfl (stp_fieldAddr fa_Task_1 rfl ?_)
    refine sx rfl (stp_load_bx ld_int rfl rfl (st9.get 1 rfl) (i := 1) rfl rfl ?_)
    refine sx rfl (stp_fieldAddr fa_Task_1 rfl ?_)
    refine sx rfl (stp_load_bx ld_int rfl rfl (st9.get 0 rfl) (i := 1) rfl rfl ?_)
    refine sx rfl (stp_neq rfl rfl ?_)
    refine sx_nil ?_
    refine sx_if rfl (fun h14 => ?_) (fun h14 => ?_)
    · skip
      have h14p := of_decide_eq_false (bnot_t h14)
      refine wp_seq ?_
      refine sx_region ?_
      refine sx rfl (stp_assign (v := .bool false) rfl ?_)
      refine sx_nil ?_
      refine wp_ret ?_; repeat (first | refine then_ret ?_ | refine blk_ret ?_)
      refine ret1 Try.results97 rfl ?_
      exact ⟨congrArg (fun z => Ending.returned (.bool z)) (eqB_f (fun e => by subst e; first | exact h14p rfl | exact absurd (bnot_t h14) (by rw [eqB_t rfl]; decide) | exact absurd (bnot_t h14) (by simp))).symm, st9.bare⟩
    · skip
      have h14p := of_decide_eq_true (bnot_f h14)
      refine wp_skip ?_
      refine wp_seq ?_
      refine wp_seq ?_
      refine sx_region ?_
      refine sx rfl (stp_fieldAddr fa_Task_2 rfl ?_)
      refine sx rfl (stp_load_bx ld_int rfl rfl (st9.get 1 rfl) (i := 2) rfl rfl ?_)
      refine sx rfl (stp_fieldAddr fa_Task_2 rfl ?_)
      refine sx rfl (stp_load_bx ld_int rfl rfl (st9.get 0 rfl) (i := 2) rfl rfl ?_)
      refine sx rfl (stp_neq rfl rfl ?_)
      refine sx_nil ?_
      refine sx_if rfl (fun h15 => ?_) (fun h15 => ?_)
      · skip
        have h15p := of_decide_eq_false (bnot_t h15)
        refine wp_seq ?_
        refine sx_region ?_
        refine sx rfl (stp_assign (v := .bool false) rfl ?_)
        refine sx_nil ?_
        refine wp_ret ?_; repeat (first | refine then_ret ?_ | refine blk_ret ?_)
        refine ret1 Try.results97 rfl ?_
        exact ⟨congrArg (fun z => Ending.returned (.bool z)) (eqB_f (fun e => by subst e; first | exact h15p rfl | exact absurd (bnot_t h15) (by rw [eqB_t rfl]; decide) | exact absurd (bnot_t h15) (by simp))).symm, st9.bare⟩
      · skip
        have h15p := of_decide_eq_true (bnot_f h15)
        refine wp_skip ?_
        refine wp_seq ?_
        refine wp_seq ?_
        refine sx_region ?_
        refine sx rfl (stp_fieldAddr fa_Task_3 rfl ?_)
        refine sx rfl (stp_load_bx ld_int rfl rfl (st9.get 1 rfl) (i := 3) rfl rfl ?_)
        refine sx rfl (stp_fieldAddr fa_Task_3 rfl ?_)
        refine sx rfl (stp_load_bx ld_int rfl rfl (st9.get 0 rfl) (i := 3) rfl rfl ?_)
        refine sx rfl (stp_neq rfl rfl ?_)
        refine sx_nil ?_
        refine sx_if rfl (fun h16 => ?_) (fun h16 => ?_)
        · skip
          have h16p := of_decide_eq_false (bnot_t h16)
          refine wp_seq ?_
          refine sx_region ?_
          refine sx rfl (stp_assign (v := .bool false) rfl ?_)
          refine sx_nil ?_
          refine wp_ret ?_; repeat (first | refine then_ret ?_ | refine blk_ret ?_)
          refine ret1 Try.results97 rfl ?_
          exact ⟨congrArg (fun z => Ending.returned (.bool z)) (eqB_f (fun e => by subst e; first | exact h16p rfl | exact absurd (bnot_t h16) (by rw [eqB_t rfl]; decide) | exact absurd (bnot_t h16) (by simp))).symm, st9.bare⟩
        · skip
          have h16p := of_decide_eq_true (bnot_f h16)
          refine wp_skip ?_
          refine wp_seq ?_
          refine sx_region ?_
          refine sx rfl (stp_assign (v := .bool true) rfl ?_)
          refine sx_nil ?_
          refine wp_ret ?_; repeat (first | refine then_ret ?_ | refine blk_ret ?_)
          refine ret1 Try.results97 rfl ?_
          exact ⟨congrArg (fun z => Ending.returned (.bool z)) (eqB_t (Task_ext h13p h14p h15p h16p)).symm, st9.bare⟩
set_option maxHeartbeats 2000000 in
theorem eqTaskS_n (w : World) {v u : Value} {xs ys : List Task} {fp gp : List Nat} (h : Sl w v xs fp) (g : Sl w u ys gp) :
    Calls Try.prog 84 #[v, u] w fun e w' => e = .returned (.bool (eqB xs ys)) ∧ St w w' [] := by
  have hcap := h.len_le
  have hcap2 := g.len_le
  refine enter2 Try.func84 rfl Try.ntmps84 (by decide) ?_
  refine wp_seq ?_
  refine sx_region ?_
  refine sx rfl (stp_assign (v := .bool false) rfl ?_)
  refine sx_nil ?_
  refine wp_seq ?_
  refine wp_seq ?_
  refine sx_region ?_
  refine sx rfl (stp_move (v := v) rfl ?_)
  refine sx rfl (stp_len sl_TaskS rfl h ?_)
  refine sx rfl (stp_move (v := u) rfl ?_)
  refine sx rfl (stp_len sl_TaskS rfl g ?_)
  refine sx rfl (stp_neq rfl rfl ?_)
  refine sx_nil ?_
  refine sx_if rfl (fun h1 => ?_) (fun h1 => ?_)
  · skip
    have h1p := of_decide_eq_false (bnot_t h1)
    refine wp_seq ?_
    refine sx_region ?_
    refine sx rfl (stp_assign (v := .bool false) rfl ?_)
    refine sx_nil ?_
    refine wp_ret ?_; repeat (first | refine then_ret ?_ | refine blk_ret ?_)
    refine ret1 Try.results84 rfl ?_
    exact ⟨congrArg (fun z => Ending.returned (.bool z)) (eqB_f (fun e => h1p (by rw [e]))).symm, (St.start w).bare⟩
  · skip
    have h1p := of_decide_eq_true (bnot_f h1)
    refine wp_skip ?_
    refine wp_seq ?_
    refine wp_seq ?_
    refine sx_region ?_
    refine sx rfl (stp_assign (v := I 0) rfl ?_)
    refine sx_nil ?_
    refine wp_block ?_
    refine sx_loop (fun (m : Nat) (f : Nat → Value) (W : World) => ∃ (k : Nat), k ≤ xs.length ∧ xs.take k = ys.take k ∧ m = xs.length - k ∧ f 0 = v ∧ f 1 = u ∧ f 5 = I (k : Int) ∧ St w W ([])) (xs.length - 0) ?_ ?_
    · exact ⟨0, Nat.zero_le _, rfl, rfl, rfl, rfl, rfl, (St.start w)⟩
    intro m2 f3 W4 hJ5
    obtain ⟨k, hk, htk, rfl, hs7_0, hs7_1, hs7_5, st6⟩ := hJ5
    refine wp_seq ?_
    refine wp_seq ?_
    refine sx_region ?_
    refine sx rfl (stp_move (v := I (k : Int)) hs7_5 ?_)
    refine sx rfl (stp_move (v := v) hs7_0 ?_)
    refine sx rfl (stp_len sl_TaskS rfl h ?_)
    refine sx rfl (stp_lss rfl rfl ?_)
    refine sx_nil ?_
    refine sx_if rfl (fun h8 => ?_) (fun h8 => ?_)
    · skip
      have h8p := of_decide_eq_true h8
      refine wp_skip ?_
      refine wp_seq ?_
      refine wp_block ?_
      refine wp_seq ?_
      have hi51fab : k < xs.length := (by omega)
      have hq_ := idx h (i := k) hi51fab
      obtain ⟨b9, o9, cs9, f9, hp9, hr9, hc9, hm9⟩ := hq_
      have hk10 := hc9
      obtain ⟨he10, rfl, hok10⟩ := hk10
      have he10 : _ = [I (xs[k]'hi51fab).state, I (xs[k]'hi51fab).need, I (xs[k]'hi51fab).try_, I (xs[k]'hi51fab).until_] := he10
      subst he10
      have hi28e79 : k < ys.length := (by omega)
      have hq_ := idx g (i := k) hi28e79
      obtain ⟨b11, o11, cs11, f11, hp11, hr11, hc11, hm11⟩ := hq_
      have hk12 := hc11
      obtain ⟨he12, rfl, hok12⟩ := hk12
      have he12 : _ = [I (ys[k]'hi28e79).state, I (ys[k]'hi28e79).need, I (ys[k]'hi28e79).try_, I (ys[k]'hi28e79).until_] := he12
      subst he12
      refine sx_any [Pl.is (v) (Sl.yl h), Pl.is (I (k : Int)), Pl.is (.pointer (some ⟨b9, o9, none⟩)), Pl.is (.agg #[I (xs[k]'hi51fab).state, I (xs[k]'hi51fab).need, I (xs[k]'hi51fab).try_, I (xs[k]'hi51fab).until_]), Pl.is (u) (Sl.yl g), Pl.is (I (k : Int)), Pl.is (.pointer (some ⟨b11, o11, none⟩)), Pl.is (.agg #[I (ys[k]'hi28e79).state, I (ys[k]'hi28e79).need, I (ys[k]'hi28e79).try_, I (ys[k]'hi28e79).until_]), Pl.bool (eqB (xs[k]'hi51fab) (ys[k]'hi28e79)), Pl.bool (!(eqB (xs[k]'hi51fab) (ys[k]'hi28e79)))] mix (by rfl) st6 ⟨(fun f W hst hbl hd hf => stp_move (v := v) ((hf 0 rfl).trans hs7_0) ⟨Below.refl _ _, rfl⟩), (fun f W hst hbl hd hf => stp_move (v := I (k : Int)) ((hf 5 rfl).trans hs7_5) ⟨Below.refl _ _, rfl⟩), (fun f W hst hbl hd hf => stp_indexAddr sl_TaskS (hd 0 17 rfl rfl) hp9 (hd 1 18 rfl rfl) rfl ⟨Below.refl _ _, rfl⟩), (fun f W hst hbl hd hf => stp_load_rgs (cs := [I (xs[k]'hi51fab).state, I (xs[k]'hi51fab).need, I (xs[k]'hi51fab).try_, I (xs[k]'hi51fab).until_]) ld_Task rfl (hd 2 19 rfl rfl) hr9 hst.below (i := 0) rfl rfl rfl ⟨Below.refl _ _, rfl⟩), (fun f W hst hbl hd hf => stp_move (v := u) ((hf 1 rfl).trans hs7_1) ⟨Below.refl _ _, rfl⟩), (fun f W hst hbl hd hf => stp_move (v := I (k : Int)) ((hf 5 rfl).trans hs7_5) ⟨Below.refl _ _, rfl⟩), (fun f W hst hbl hd hf => stp_indexAddr sl_TaskS (hd 4 21 rfl rfl) hp11 (hd 5 22 rfl rfl) rfl ⟨Below.refl _ _, rfl⟩), (fun f W hst hbl hd hf => stp_load_rgs (cs := [I (ys[k]'hi28e79).state, I (ys[k]'hi28e79).need, I (ys[k]'hi28e79).try_, I (ys[k]'hi28e79).until_]) ld_Task rfl (hd 6 23 rfl rfl) hr11 hst.below (i := 0) rfl rfl rfl ⟨Below.refl _ _, rfl⟩), (fun f W hst hbl hd hf => stp_call2 Try.func97 rfl (hd 3 20 rfl rfl) (hd 7 24 rfl rfl) ((eqTask_n W hc9 hc11).mono (by rintro e W2 ⟨rfl, hk⟩; exact ⟨_, rfl, hk.below, rfl⟩))), (fun f W hst hbl hd hf => stp_not (hd 8 25 rfl rfl) ⟨Below.refl _ _, rfl⟩), trivial⟩ ?_
      intro f13 W14 st15 hb16 hv17 hf18
      refine sx_if (hv17 9 26 (by decide) rfl) (fun h19 => ?_) (fun h19 => ?_)
      · skip
        refine wp_seq ?_
        refine sx_region ?_
        refine sx rfl (stp_assign (v := .bool false) rfl ?_)
        refine sx_nil ?_
        refine wp_ret ?_; repeat (first | refine then_ret ?_ | refine blk_ret ?_)
        refine ret1 Try.results84 rfl ?_
        have hne : ¬ xs[k] = ys[k]'(by omega) := fun e => absurd (bnot_t h19) (by rw [eqB_t e]; decide)
        exact ⟨congrArg (fun z => Ending.returned (.bool z)) (eqB_f (fun e => hne (by subst e; rfl))).symm, st15.bare⟩
      · skip
        refine wp_skip ?_
        refine sx_region ?_
        refine sx rfl (stp_move (v := I (k : Int)) ((hf18 5 rfl).trans hs7_5) ?_)
        refine sx rfl (stp_add rfl rfl (by (simp only [I64] at *; omega)) ?_)
        refine sx rfl (stp_assign (v := I ((k : Int) + 1)) rfl ?_)
        refine sx_nil ?_
        exact ⟨_, xs.length - (k + 1), (by omega), rfl, k + 1, (by omega), (take_eq_succ (by omega) (by omega) htk (eqB_iff.1 (bnot_f h19))), rfl, ((hf18 0 rfl).trans hs7_0), ((hf18 1 rfl).trans hs7_1), rfl, st15⟩
    · skip
      have h8p := of_decide_eq_false h8
      refine wp_exit ?_
      refine wp_seq ?_
      refine sx_region ?_
      refine sx rfl (stp_assign (v := .bool true) rfl ?_)
      refine sx_nil ?_
      refine wp_ret ?_; repeat (first | refine then_ret ?_ | refine blk_ret ?_)
      refine ret1 Try.results84 rfl ?_
      obtain rfl : k = xs.length := by omega
      rw [List.take_length, List.take_of_length_le (by omega)] at htk
      exact ⟨congrArg (fun z => Ending.returned (.bool z)) (eqB_t htk).symm, st6.bare⟩
theorem Run_ext {x y : Run} (h0 : x.id = y.id) (h1 : x.plan = y.plan) (h2 : x.state = y.state) (h3 : x.tasks = y.tasks) : x = y := by
  cases x; cases y; simp only at *; subst_vars; rfl
set_option maxHeartbeats 2000000 in
theorem eqRun_n (w : World) {x y : Run} {cs ds : List Value} {fp gp : List Nat} (hc : Shape.C w cs x fp) (hd : Shape.C w ds y gp) :
    Calls Try.prog 58 #[.agg cs.toArray, .agg ds.toArray] w fun e w' => e = .returned (.bool (eqB x y)) ∧ St w w' [] := by
  refine enter2 Try.func58 rfl Try.ntmps58 (by decide) ?_
  refine wp_seq ?_
  refine sx_region ?_
  refine sx rfl (stp_box_agg (cs := cs) rfl (St.start w) ?_); intro b1 W2 hb3 st4
  refine sx rfl (stp_box_agg (cs := ds) rfl st4 ?_); intro b6 W7 hb8 st9
  refine sx rfl (stp_assign (v := .bool false) rfl ?_)
  refine sx_nil ?_
  refine wp_seq ?_
  refine wp_seq ?_
  refine sx_region ?_
  refine sx rfl (stp_fieldAddr fa_Run_0 rfl ?_)
  have hk11 := hc
  obtain ⟨v11_0, v11_1, g11_0, g11_1, rfl, hok11, h11_0, h11_1, rfl⟩ := hk11
  refine sx rfl (stp_load_bx ld_int rfl rfl (st9.get 1 rfl) (i := 0) rfl rfl ?_)
  refine sx rfl (stp_fieldAddr fa_Run_0 rfl ?_)
  have hk12 := hd
  obtain ⟨v12_0, v12_1, g12_0, g12_1, rfl, hok12, h12_0, h12_1, rfl⟩ := hk12
  refine sx rfl (stp_load_bx ld_int rfl rfl (st9.get 0 rfl) (i := 0) rfl rfl ?_)
  refine sx rfl (stp_neq rfl rfl ?_)
  refine sx_nil ?_
  refine sx_if rfl (fun h13 => ?_) (fun h13 => ?_)
  · skip
    have h13p := of_decide_eq_false (bnot_t h13)
    refine wp_seq ?_
    refine sx_region ?_
    refine sx rfl (stp_assign (v := .bool false) rfl ?_)
    refine sx_nil ?_
    refine wp_ret ?_; repeat (first | refine then_ret ?_ | refine blk_ret ?_)
    refine ret1 Try.results58 rfl ?_
    exact ⟨congrArg (fun z => Ending.returned (.bool z)) (eqB_f (fun e => by subst e; first | exact h13p rfl | exact absurd (bnot_t h13) (by rw [eqB_t rfl]; decide) | exact absurd (bnot_t h13) (by simp))).symm, st9.bare⟩
  · skip
    have h13p := of_decide_eq_true (bnot_f h13)
    refine wp_skip ?_
    refine wp_seq ?_
    refine wp_seq ?_
    refine sx_region ?_
    refine sx rfl (stp_fieldAddr fa_Run_1 rfl ?_)
    refine sx rfl (stp_load_bxs (cs := [I x.plan.prio, I x.plan.most, I x.plan.wait, I x.plan.tasks, v11_0]) ld_Plan rfl rfl (st9.get 1 rfl) rfl rfl ?_)
    refine sx rfl (stp_fieldAddr fa_Run_1 rfl ?_)
    refine sx rfl (stp_load_bxs (cs := [I y.plan.prio, I y.plan.most, I y.plan.wait, I y.plan.tasks, v12_0]) ld_Plan rfl rfl (st9.get 0 rfl) rfl rfl ?_)
    refine sx rfl (stp_call2 Try.func83 rfl rfl rfl ((eqPlan_n W7 (show Shape.C _ [I x.plan.prio, I x.plan.most, I x.plan.wait, I x.plan.tasks, v11_0] x.plan _ from ⟨_, _, rfl, (by first | exact True.intro | (simp only [Edge.ok, Plan.ok, Entry.ok, Task.ok, Run.ok, Yard.ok, Reply.ok, Deed.ok, Note.ok, Wait.ok, File.ok, Disk.ok, Engine.ok, WorldD.ok, ActD.ok, Hand.ok, Span.ok, Crew.ok, View.ok, I64] at *; omega)), (h11_0.below st9.below), rfl⟩) (show Shape.C _ [I y.plan.prio, I y.plan.most, I y.plan.wait, I y.plan.tasks, v12_0] y.plan _ from ⟨_, _, rfl, (by first | exact True.intro | (simp only [Edge.ok, Plan.ok, Entry.ok, Task.ok, Run.ok, Yard.ok, Reply.ok, Deed.ok, Note.ok, Wait.ok, File.ok, Disk.ok, Engine.ok, WorldD.ok, ActD.ok, Hand.ok, Span.ok, Crew.ok, View.ok, I64] at *; omega)), (h12_0.below st9.below), rfl⟩)).mono ?_)); rintro _ W14 ⟨rfl, hk15⟩; refine ⟨_, rfl, ?_⟩
    have st16 := St.call st9 hk15
    refine sx rfl (stp_not rfl ?_)
    refine sx_nil ?_
    refine sx_if rfl (fun h18 => ?_) (fun h18 => ?_)
    · skip
      refine wp_seq ?_
      refine sx_region ?_
      refine sx rfl (stp_assign (v := .bool false) rfl ?_)
      refine sx_nil ?_
      refine wp_ret ?_; repeat (first | refine then_ret ?_ | refine blk_ret ?_)
      refine ret1 Try.results58 rfl ?_
      exact ⟨congrArg (fun z => Ending.returned (.bool z)) (eqB_f (fun e => by subst e; first | exact absurd (bnot_t h18) (by rw [eqB_t rfl]; decide) | exact absurd (bnot_t h18) (by simp))).symm, st16.bare⟩
    · skip
      refine wp_skip ?_
      refine wp_seq ?_
      refine wp_seq ?_
      refine sx_region ?_
      refine sx rfl (stp_fieldAddr fa_Run_2 rfl ?_)
      refine sx rfl (stp_load_bx ld_int rfl rfl (st16.get 1 rfl) (i := 6) rfl rfl ?_)
      refine sx rfl (stp_fieldAddr fa_Run_2 rfl ?_)
      refine sx rfl (stp_load_bx ld_int rfl rfl (st16.get 0 rfl) (i := 6) rfl rfl ?_)
      refine sx rfl (stp_neq rfl rfl ?_)
      refine sx_nil ?_
      refine sx_if rfl (fun h19 => ?_) (fun h19 => ?_)
      · skip
        have h19p := of_decide_eq_false (bnot_t h19)
        refine wp_seq ?_
        refine sx_region ?_
        refine sx rfl (stp_assign (v := .bool false) rfl ?_)
        refine sx_nil ?_
        refine wp_ret ?_; repeat (first | refine then_ret ?_ | refine blk_ret ?_)
        refine ret1 Try.results58 rfl ?_
        exact ⟨congrArg (fun z => Ending.returned (.bool z)) (eqB_f (fun e => by subst e; first | exact h19p rfl | exact absurd (bnot_t h19) (by rw [eqB_t rfl]; decide) | exact absurd (bnot_t h19) (by simp))).symm, st16.bare⟩
      · skip
        have h19p := of_decide_eq_true (bnot_f h19)
        refine wp_skip ?_
        refine wp_seq ?_
        refine wp_seq ?_
        refine sx_region ?_
        refine sx rfl (stp_fieldAddr fa_Run_3 rfl ?_)
        refine sx rfl (stp_load_bx ld_TaskS rfl rfl (st16.get 1 rfl) (i := 7) rfl rfl ?_)
        refine sx rfl (stp_fieldAddr fa_Run_3 rfl ?_)
        refine sx rfl (stp_load_bx ld_TaskS rfl rfl (st16.get 0 rfl) (i := 7) rfl rfl ?_)
        refine sx rfl (stp_call2 Try.func84 rfl rfl rfl ((eqTaskS_n W14 (h11_1.below st16.below) (h12_1.below st16.below)).mono ?_)); rintro _ W20 ⟨rfl, hk21⟩; refine ⟨_, rfl, ?_⟩
        have st22 := St.call st16 hk21
        refine sx rfl (stp_not rfl ?_)
        refine sx_nil ?_
        refine sx_if rfl (fun h24 => ?_) (fun h24 => ?_)
        · skip
          refine wp_seq ?_
          refine sx_region ?_
          refine sx rfl (stp_assign (v := .bool false) rfl ?_)
          refine sx_nil ?_
          refine wp_ret ?_; repeat (first | refine then_ret ?_ | refine blk_ret ?_)
          refine ret1 Try.results58 rfl ?_
          exact ⟨congrArg (fun z => Ending.returned (.bool z)) (eqB_f (fun e => by subst e; first | exact absurd (bnot_t h24) (by rw [eqB_t rfl]; decide) | exact absurd (bnot_t h24) (by simp))).symm, st22.bare⟩
        · skip
          refine wp_skip ?_
          refine wp_seq ?_
          refine sx_region ?_
          refine sx rfl (stp_assign (v := .bool true) rfl ?_)
          refine sx_nil ?_
          refine wp_ret ?_; repeat (first | refine then_ret ?_ | refine blk_ret ?_)
          refine ret1 Try.results58 rfl ?_
          exact ⟨congrArg (fun z => Ending.returned (.bool z)) (eqB_t (Run_ext h13p (eqB_iff.1 (bnot_f h18)) h19p (eqB_iff.1 (bnot_f h24)))).symm, st22.bare⟩
set_option maxHeartbeats 2000000 in
theorem eqRunS_n (w : World) {v u : Value} {xs ys : List Run} {fp gp : List Nat} (h : Sl w v xs fp) (g : Sl w u ys gp) :
    Calls Try.prog 32 #[v, u] w fun e w' => e = .returned (.bool (eqB xs ys)) ∧ St w w' [] := by
  have hcap := h.len_le
  have hcap2 := g.len_le
  refine enter2 Try.func32 rfl Try.ntmps32 (by decide) ?_
  refine wp_seq ?_
  refine sx_region ?_
  refine sx rfl (stp_assign (v := .bool false) rfl ?_)
  refine sx_nil ?_
  refine wp_seq ?_
  refine wp_seq ?_
  refine sx_region ?_
  refine sx rfl (stp_move (v := v) rfl ?_)
  refine sx rfl (stp_len sl_RunS rfl h ?_)
  refine sx rfl (stp_move (v := u) rfl ?_)
  refine sx rfl (stp_len sl_RunS rfl g ?_)
  refine sx rfl (stp_neq rfl rfl ?_)
  refine sx_nil ?_
  refine sx_if rfl (fun h1 => ?_) (fun h1 => ?_)
  · skip
    have h1p := of_decide_eq_false (bnot_t h1)
    refine wp_seq ?_
    refine sx_region ?_
    refine sx rfl (stp_assign (v := .bool false) rfl ?_)
    refine sx_nil ?_
    refine wp_ret ?_; repeat (first | refine then_ret ?_ | refine blk_ret ?_)
    refine ret1 Try.results32 rfl ?_
    exact ⟨congrArg (fun z => Ending.returned (.bool z)) (eqB_f (fun e => h1p (by rw [e]))).symm, (St.start w).bare⟩
  · skip
    have h1p := of_decide_eq_true (bnot_f h1)
    refine wp_skip ?_
    refine wp_seq ?_
    refine wp_seq ?_
    refine sx_region ?_
    refine sx rfl (stp_assign (v := I 0) rfl ?_)
    refine sx_nil ?_
    refine wp_block ?_
    refine sx_loop (fun (m : Nat) (f : Nat → Value) (W : World) => ∃ (k : Nat), k ≤ xs.length ∧ xs.take k = ys.take k ∧ m = xs.length - k ∧ f 0 = v ∧ f 1 = u ∧ f 5 = I (k : Int) ∧ St w W ([])) (xs.length - 0) ?_ ?_
    · exact ⟨0, Nat.zero_le _, rfl, rfl, rfl, rfl, rfl, (St.start w)⟩
    intro m2 f3 W4 hJ5
    obtain ⟨k, hk, htk, rfl, hs7_0, hs7_1, hs7_5, st6⟩ := hJ5
    refine wp_seq ?_
    refine wp_seq ?_
    refine sx_region ?_
    refine sx rfl (stp_move (v := I (k : Int)) hs7_5 ?_)
    refine sx rfl (stp_move (v := v) hs7_0 ?_)
    refine sx rfl (stp_len sl_RunS rfl h ?_)
    refine sx rfl (stp_lss rfl rfl ?_)
    refine sx_nil ?_
    refine sx_if rfl (fun h8 => ?_) (fun h8 => ?_)
    · skip
      have h8p := of_decide_eq_true h8
      refine wp_skip ?_
      refine wp_seq ?_
      refine wp_block ?_
      refine wp_seq ?_
      have hi51fab : k < xs.length := (by omega)
      have hq_ := idx h (i := k) hi51fab
      obtain ⟨b9, o9, cs9, f9, hp9, hr9, hc9, hm9⟩ := hq_
      have hi28e79 : k < ys.length := (by omega)
      have hq_ := idx g (i := k) hi28e79
      obtain ⟨b10, o10, cs10, f10, hp10, hr10, hc10, hm10⟩ := hq_
      refine sx_any [Pl.is (v) (Sl.yl h), Pl.is (I (k : Int)), Pl.is (.pointer (some ⟨b9, o9, none⟩)), Pl.is (.agg cs9.toArray), Pl.is (u) (Sl.yl g), Pl.is (I (k : Int)), Pl.is (.pointer (some ⟨b10, o10, none⟩)), Pl.is (.agg cs10.toArray), Pl.bool (eqB (xs[k]'hi51fab) (ys[k]'hi28e79)), Pl.bool (!(eqB (xs[k]'hi51fab) (ys[k]'hi28e79)))] mix (by rfl) st6 ⟨(fun f W hst hbl hd hf => stp_move (v := v) ((hf 0 rfl).trans hs7_0) ⟨Below.refl _ _, rfl⟩), (fun f W hst hbl hd hf => stp_move (v := I (k : Int)) ((hf 5 rfl).trans hs7_5) ⟨Below.refl _ _, rfl⟩), (fun f W hst hbl hd hf => stp_indexAddr sl_RunS (hd 0 17 rfl rfl) hp9 (hd 1 18 rfl rfl) rfl ⟨Below.refl _ _, rfl⟩), (fun f W hst hbl hd hf => stp_load_rga ld_Run rfl (hd 2 19 rfl rfl) hr9 hst.below (Shape.len hc9) ⟨Below.refl _ _, rfl⟩), (fun f W hst hbl hd hf => stp_move (v := u) ((hf 1 rfl).trans hs7_1) ⟨Below.refl _ _, rfl⟩), (fun f W hst hbl hd hf => stp_move (v := I (k : Int)) ((hf 5 rfl).trans hs7_5) ⟨Below.refl _ _, rfl⟩), (fun f W hst hbl hd hf => stp_indexAddr sl_RunS (hd 4 21 rfl rfl) hp10 (hd 5 22 rfl rfl) rfl ⟨Below.refl _ _, rfl⟩), (fun f W hst hbl hd hf => stp_load_rga ld_Run rfl (hd 6 23 rfl rfl) hr10 hst.below (Shape.len hc10) ⟨Below.refl _ _, rfl⟩), (fun f W hst hbl hd hf => stp_call2 Try.func58 rfl (hd 3 20 rfl rfl) (hd 7 24 rfl rfl) ((eqRun_n W (C_below hc9 hst.below) (C_below hc10 hst.below)).mono (by rintro e W2 ⟨rfl, hk⟩; exact ⟨_, rfl, hk.below, rfl⟩))), (fun f W hst hbl hd hf => stp_not (hd 8 25 rfl rfl) ⟨Below.refl _ _, rfl⟩), trivial⟩ ?_
      intro f11 W12 st13 hb14 hv15 hf16
      refine sx_if (hv15 9 26 (by decide) rfl) (fun h17 => ?_) (fun h17 => ?_)
      · skip
        refine wp_seq ?_
        refine sx_region ?_
        refine sx rfl (stp_assign (v := .bool false) rfl ?_)
        refine sx_nil ?_
        refine wp_ret ?_; repeat (first | refine then_ret ?_ | refine blk_ret ?_)
        refine ret1 Try.results32 rfl ?_
        have hne : ¬ xs[k] = ys[k]'(by omega) := fun e => absurd (bnot_t h17) (by rw [eqB_t e]; decide)
        exact ⟨congrArg (fun z => Ending.returned (.bool z)) (eqB_f (fun e => hne (by subst e; rfl))).symm, st13.bare⟩
      · skip
        refine wp_skip ?_
        refine sx_region ?_
        refine sx rfl (stp_move (v := I (k : Int)) ((hf16 5 rfl).trans hs7_5) ?_)
        refine sx rfl (stp_add rfl rfl (by (simp only [I64] at *; omega)) ?_)
        refine sx rfl (stp_assign (v := I ((k : Int) + 1)) rfl ?_)
        refine sx_nil ?_
        exact ⟨_, xs.length - (k + 1), (by omega), rfl, k + 1, (by omega), (take_eq_succ (by omega) (by omega) htk (eqB_iff.1 (bnot_f h17))), rfl, ((hf16 0 rfl).trans hs7_0), ((hf16 1 rfl).trans hs7_1), rfl, st13⟩
    · skip
      have h8p := of_decide_eq_false h8
      refine wp_exit ?_
      refine wp_seq ?_
      refine sx_region ?_
      refine sx rfl (stp_assign (v := .bool true) rfl ?_)
      refine sx_nil ?_
      refine wp_ret ?_; repeat (first | refine then_ret ?_ | refine blk_ret ?_)
      refine ret1 Try.results32 rfl ?_
      obtain rfl : k = xs.length := by omega
      rw [List.take_length, List.take_of_length_le (by omega)] at htk
      exact ⟨congrArg (fun z => Ending.returned (.bool z)) (eqB_t htk).symm, st6.bare⟩
set_option maxHeartbeats 2000000 in
theorem eqEntrySS_n (w : World) {v u : Value} {xs ys : List (List Entry)} {fp gp : List Nat} (h : Sl w v xs fp) (g : Sl w u ys gp) :
    Calls Try.prog 31 #[v, u] w fun e w' => e = .returned (.bool (eqB xs ys)) ∧ St w w' [] := by
  have hcap := h.len_le
  have hcap2 := g.len_le
  refine enter2 Try.func31 rfl Try.ntmps31 (by decide) ?_
  refine wp_seq ?_
  refine sx_region ?_
  refine sx rfl (stp_assign (v := .bool false) rfl ?_)
  refine sx_nil ?_
  refine wp_seq ?_
  refine wp_seq ?_
  refine sx_region ?_
  refine sx rfl (stp_move (v := v) rfl ?_)
  refine sx rfl (stp_len sl_EntrySS rfl h ?_)
  refine sx rfl (stp_move (v := u) rfl ?_)
  refine sx rfl (stp_len sl_EntrySS rfl g ?_)
  refine sx rfl (stp_neq rfl rfl ?_)
  refine sx_nil ?_
  refine sx_if rfl (fun h1 => ?_) (fun h1 => ?_)
  · skip
    have h1p := of_decide_eq_false (bnot_t h1)
    refine wp_seq ?_
    refine sx_region ?_
    refine sx rfl (stp_assign (v := .bool false) rfl ?_)
    refine sx_nil ?_
    refine wp_ret ?_; repeat (first | refine then_ret ?_ | refine blk_ret ?_)
    refine ret1 Try.results31 rfl ?_
    exact ⟨congrArg (fun z => Ending.returned (.bool z)) (eqB_f (fun e => h1p (by rw [e]))).symm, (St.start w).bare⟩
  · skip
    have h1p := of_decide_eq_true (bnot_f h1)
    refine wp_skip ?_
    refine wp_seq ?_
    refine wp_seq ?_
    refine sx_region ?_
    refine sx rfl (stp_assign (v := I 0) rfl ?_)
    refine sx_nil ?_
    refine wp_block ?_
    refine sx_loop (fun (m : Nat) (f : Nat → Value) (W : World) => ∃ (k : Nat), k ≤ xs.length ∧ xs.take k = ys.take k ∧ m = xs.length - k ∧ f 0 = v ∧ f 1 = u ∧ f 5 = I (k : Int) ∧ St w W ([])) (xs.length - 0) ?_ ?_
    · exact ⟨0, Nat.zero_le _, rfl, rfl, rfl, rfl, rfl, (St.start w)⟩
    intro m2 f3 W4 hJ5
    obtain ⟨k, hk, htk, rfl, hs7_0, hs7_1, hs7_5, st6⟩ := hJ5
    refine wp_seq ?_
    refine wp_seq ?_
    refine sx_region ?_
    refine sx rfl (stp_move (v := I (k : Int)) hs7_5 ?_)
    refine sx rfl (stp_move (v := v) hs7_0 ?_)
    refine sx rfl (stp_len sl_EntrySS rfl h ?_)
    refine sx rfl (stp_lss rfl rfl ?_)
    refine sx_nil ?_
    refine sx_if rfl (fun h8 => ?_) (fun h8 => ?_)
    · skip
      have h8p := of_decide_eq_true h8
      refine wp_skip ?_
      refine wp_seq ?_
      refine wp_block ?_
      refine wp_seq ?_
      have hi51fab : k < xs.length := (by omega)
      have hq_ := idx h (i := k) hi51fab
      obtain ⟨b9, o9, cs9, f9, hp9, hr9, hc9, hm9⟩ := hq_
      have hk9 := hc9
      obtain ⟨v10, rfl, h11⟩ := hk9
      have hi28e79 : k < ys.length := (by omega)
      have hq_ := idx g (i := k) hi28e79
      obtain ⟨b12, o12, cs12, f12, hp12, hr12, hc12, hm12⟩ := hq_
      have hk12 := hc12
      obtain ⟨v13, rfl, h14⟩ := hk12
      refine sx_any [Pl.is (v) (Sl.yl h), Pl.is (I (k : Int)), Pl.is (.pointer (some ⟨b9, o9, none⟩)), Pl.is (v10) (Sl.yl h11), Pl.is (u) (Sl.yl g), Pl.is (I (k : Int)), Pl.is (.pointer (some ⟨b12, o12, none⟩)), Pl.is (v13) (Sl.yl h14), Pl.bool (eqB (xs[k]'hi51fab) (ys[k]'hi28e79)), Pl.bool (!(eqB (xs[k]'hi51fab) (ys[k]'hi28e79)))] mix (by rfl) st6 ⟨(fun f W hst hbl hd hf => stp_move (v := v) ((hf 0 rfl).trans hs7_0) ⟨Below.refl _ _, rfl⟩), (fun f W hst hbl hd hf => stp_move (v := I (k : Int)) ((hf 5 rfl).trans hs7_5) ⟨Below.refl _ _, rfl⟩), (fun f W hst hbl hd hf => stp_indexAddr sl_EntrySS (hd 0 17 rfl rfl) hp9 (hd 1 18 rfl rfl) rfl ⟨Below.refl _ _, rfl⟩), (fun f W hst hbl hd hf => stp_load_rg ld_EntryS rfl (hd 2 19 rfl rfl) hr9 hst.below (i := 0) rfl rfl ⟨Below.refl _ _, rfl⟩), (fun f W hst hbl hd hf => stp_move (v := u) ((hf 1 rfl).trans hs7_1) ⟨Below.refl _ _, rfl⟩), (fun f W hst hbl hd hf => stp_move (v := I (k : Int)) ((hf 5 rfl).trans hs7_5) ⟨Below.refl _ _, rfl⟩), (fun f W hst hbl hd hf => stp_indexAddr sl_EntrySS (hd 4 21 rfl rfl) hp12 (hd 5 22 rfl rfl) rfl ⟨Below.refl _ _, rfl⟩), (fun f W hst hbl hd hf => stp_load_rg ld_EntryS rfl (hd 6 23 rfl rfl) hr12 hst.below (i := 0) rfl rfl ⟨Below.refl _ _, rfl⟩), (fun f W hst hbl hd hf => stp_call2 Try.func57 rfl (hd 3 20 rfl rfl) (hd 7 24 rfl rfl) ((eqEntryS_n W (h11.below hst.below) (h14.below hst.below)).mono (by rintro e W2 ⟨rfl, hk⟩; exact ⟨_, rfl, hk.below, rfl⟩))), (fun f W hst hbl hd hf => stp_not (hd 8 25 rfl rfl) ⟨Below.refl _ _, rfl⟩), trivial⟩ ?_
      intro f15 W16 st17 hb18 hv19 hf20
      refine sx_if (hv19 9 26 (by decide) rfl) (fun h21 => ?_) (fun h21 => ?_)
      · skip
        refine wp_seq ?_
        refine sx_region ?_
        refine sx rfl (stp_assign (v := .bool false) rfl ?_)
        refine sx_nil ?_
        refine wp_ret ?_; repeat (first | refine then_ret ?_ | refine blk_ret ?_)
        refine ret1 Try.results31 rfl ?_
        have hne : ¬ xs[k] = ys[k]'(by omega) := fun e => absurd (bnot_t h21) (by rw [eqB_t e]; decide)
        exact ⟨congrArg (fun z => Ending.returned (.bool z)) (eqB_f (fun e => hne (by subst e; rfl))).symm, st17.bare⟩
      · skip
        refine wp_skip ?_
        refine sx_region ?_
        refine sx rfl (stp_move (v := I (k : Int)) ((hf20 5 rfl).trans hs7_5) ?_)
        refine sx rfl (stp_add rfl rfl (by (simp only [I64] at *; omega)) ?_)
        refine sx rfl (stp_assign (v := I ((k : Int) + 1)) rfl ?_)
        refine sx_nil ?_
        exact ⟨_, xs.length - (k + 1), (by omega), rfl, k + 1, (by omega), (take_eq_succ (by omega) (by omega) htk (eqB_iff.1 (bnot_f h21))), rfl, ((hf20 0 rfl).trans hs7_0), ((hf20 1 rfl).trans hs7_1), rfl, st17⟩
    · skip
      have h8p := of_decide_eq_false h8
      refine wp_exit ?_
      refine wp_seq ?_
      refine sx_region ?_
      refine sx rfl (stp_assign (v := .bool true) rfl ?_)
      refine sx_nil ?_
      refine wp_ret ?_; repeat (first | refine then_ret ?_ | refine blk_ret ?_)
      refine ret1 Try.results31 rfl ?_
      obtain rfl : k = xs.length := by omega
      rw [List.take_length, List.take_of_length_le (by omega)] at htk
      exact ⟨congrArg (fun z => Ending.returned (.bool z)) (eqB_t htk).symm, st6.bare⟩
theorem Yard_ext {x y : Yard} (h0 : x.now = y.now) (h1 : x.seq = y.seq) (h2 : x.shelf = y.shelf) (h3 : x.runs = y.runs) : x = y := by
  cases x; cases y; simp only at *; subst_vars; rfl
set_option maxHeartbeats 2000000 in
theorem eqYard_n (w : World) {x y : Yard} {cs ds : List Value} {fp gp : List Nat} (hc : Shape.C w cs x fp) (hd : Shape.C w ds y gp) :
    Calls Try.prog 11 #[.agg cs.toArray, .agg ds.toArray] w fun e w' => e = .returned (.bool (eqB x y)) ∧ St w w' [] := by
  refine enter2 Try.func11 rfl Try.ntmps11 (by decide) ?_
  refine wp_seq ?_
  refine sx_region ?_
  refine sx rfl (stp_box_agg (cs := cs) rfl (St.start w) ?_); intro b1 W2 hb3 st4
  refine sx rfl (stp_box_agg (cs := ds) rfl st4 ?_); intro b6 W7 hb8 st9
  refine sx rfl (stp_assign (v := .bool false) rfl ?_)
  refine sx_nil ?_
  refine wp_seq ?_
  refine wp_seq ?_
  refine sx_region ?_
  refine sx rfl (stp_fieldAddr fa_Yard_0 rfl ?_)
  have hk11 := hc
  obtain ⟨v11_0, v11_1, g11_0, g11_1, rfl, hok11, h11_0, h11_1, rfl⟩ := hk11
  refine sx rfl (stp_load_bx ld_int rfl rfl (st9.get 1 rfl) (i := 0) rfl rfl ?_)
  refine sx rfl (stp_fieldAddr fa_Yard_0 rfl ?_)
  have hk12 := hd
  obtain ⟨v12_0, v12_1, g12_0, g12_1, rfl, hok12, h12_0, h12_1, rfl⟩ := hk12
  refine sx rfl (stp_load_bx ld_int rfl rfl (st9.get 0 rfl) (i := 0) rfl rfl ?_)
  refine sx rfl (stp_neq rfl rfl ?_)
  refine sx_nil ?_
  refine sx_if rfl (fun h13 => ?_) (fun h13 => ?_)
  · skip
    have h13p := of_decide_eq_false (bnot_t h13)
    refine wp_seq ?_
    refine sx_region ?_
    refine sx rfl (stp_assign (v := .bool false) rfl ?_)
    refine sx_nil ?_
    refine wp_ret ?_; repeat (first | refine then_ret ?_ | refine blk_ret ?_)
    refine ret1 Try.results11 rfl ?_
    exact ⟨congrArg (fun z => Ending.returned (.bool z)) (eqB_f (fun e => by subst e; first | exact h13p rfl | exact absurd (bnot_t h13) (by rw [eqB_t rfl]; decide) | exact absurd (bnot_t h13) (by simp))).symm, st9.bare⟩
  · skip
    have h13p := of_decide_eq_true (bnot_f h13)
    refine wp_skip ?_
    refine wp_seq ?_
    refine wp_seq ?_
    refine sx_region ?_
    refine sx rfl (stp_fieldAddr fa_Yard_1 rfl ?_)
    refine sx rfl (stp_load_bx ld_int rfl rfl (st9.get 1 rfl) (i := 1) rfl rfl ?_)
    refine sx rfl (stp_fieldAddr fa_Yard_1 rfl ?_)
    refine sx rfl (stp_load_bx ld_int rfl rfl (st9.get 0 rfl) (i := 1) rfl rfl ?_)
    refine sx rfl (stp_neq rfl rfl ?_)
    refine sx_nil ?_
    refine sx_if rfl (fun h14 => ?_) (fun h14 => ?_)
    · skip
      have h14p := of_decide_eq_false (bnot_t h14)
      refine wp_seq ?_
      refine sx_region ?_
      refine sx rfl (stp_assign (v := .bool false) rfl ?_)
      refine sx_nil ?_
      refine wp_ret ?_; repeat (first | refine then_ret ?_ | refine blk_ret ?_)
      refine ret1 Try.results11 rfl ?_
      exact ⟨congrArg (fun z => Ending.returned (.bool z)) (eqB_f (fun e => by subst e; first | exact h14p rfl | exact absurd (bnot_t h14) (by rw [eqB_t rfl]; decide) | exact absurd (bnot_t h14) (by simp))).symm, st9.bare⟩
    · skip
      have h14p := of_decide_eq_true (bnot_f h14)
      refine wp_skip ?_
      refine wp_seq ?_
      refine wp_seq ?_
      refine sx_region ?_
      refine sx rfl (stp_fieldAddr fa_Yard_2 rfl ?_)
      refine sx rfl (stp_load_bx ld_EntrySS rfl rfl (st9.get 1 rfl) (i := 2) rfl rfl ?_)
      refine sx rfl (stp_fieldAddr fa_Yard_2 rfl ?_)
      refine sx rfl (stp_load_bx ld_EntrySS rfl rfl (st9.get 0 rfl) (i := 2) rfl rfl ?_)
      refine sx rfl (stp_call2 Try.func31 rfl rfl rfl ((eqEntrySS_n W7 (h11_0.below st9.below) (h12_0.below st9.below)).mono ?_)); rintro _ W15 ⟨rfl, hk16⟩; refine ⟨_, rfl, ?_⟩
      have st17 := St.call st9 hk16
      refine sx rfl (stp_not rfl ?_)
      refine sx_nil ?_
      refine sx_if rfl (fun h19 => ?_) (fun h19 => ?_)
      · skip
        refine wp_seq ?_
        refine sx_region ?_
        refine sx rfl (stp_assign (v := .bool false) rfl ?_)
        refine sx_nil ?_
        refine wp_ret ?_; repeat (first | refine then_ret ?_ | refine blk_ret ?_)
        refine ret1 Try.results11 rfl ?_
        exact ⟨congrArg (fun z => Ending.returned (.bool z)) (eqB_f (fun e => by subst e; first | exact absurd (bnot_t h19) (by rw [eqB_t rfl]; decide) | exact absurd (bnot_t h19) (by simp))).symm, st17.bare⟩
      · skip
        refine wp_skip ?_
        refine wp_seq ?_
        refine wp_seq ?_
        refine sx_region ?_
        refine sx rfl (stp_fieldAddr fa_Yard_3 rfl ?_)
        refine sx rfl (stp_load_bx ld_RunS rfl rfl (st17.get 1 rfl) (i := 3) rfl rfl ?_)
        refine sx rfl (stp_fieldAddr fa_Yard_3 rfl ?_)
        refine sx rfl (stp_load_bx ld_RunS rfl rfl (st17.get 0 rfl) (i := 3) rfl rfl ?_)
        refine sx rfl (stp_call2 Try.func32 rfl rfl rfl ((eqRunS_n W15 (h11_1.below st17.below) (h12_1.below st17.below)).mono ?_)); rintro _ W20 ⟨rfl, hk21⟩; refine ⟨_, rfl, ?_⟩
        have st22 := St.call st17 hk21
        refine sx rfl (stp_not rfl ?_)
        refine sx_nil ?_
        refine sx_if rfl (fun h24 => ?_) (fun h24 => ?_)
        · skip
          refine wp_seq ?_
          refine sx_region ?_
          refine sx rfl (stp_assign (v := .bool false) rfl ?_)
          refine sx_nil ?_
          refine wp_ret ?_; repeat (first | refine then_ret ?_ | refine blk_ret ?_)
          refine ret1 Try.results11 rfl ?_
          exact ⟨congrArg (fun z => Ending.returned (.bool z)) (eqB_f (fun e => by subst e; first | exact absurd (bnot_t h24) (by rw [eqB_t rfl]; decide) | exact absurd (bnot_t h24) (by simp))).symm, st22.bare⟩
        · skip
          refine wp_skip ?_
          refine wp_seq ?_
          refine sx_region ?_
          refine sx rfl (stp_assign (v := .bool true) rfl ?_)
          refine sx_nil ?_
          refine wp_ret ?_; repeat (first | refine then_ret ?_ | refine blk_ret ?_)
          refine ret1 Try.results11 rfl ?_
          exact ⟨congrArg (fun z => Ending.returned (.bool z)) (eqB_t (Yard_ext h13p h14p (eqB_iff.1 (bnot_f h19)) (eqB_iff.1 (bnot_f h24)))).symm, st22.bare⟩
theorem Reply_ext {x y : Reply} (h0 : x.code = y.code) (h1 : x.run = y.run) (h2 : x.task = y.task) (h3 : x.try_ = y.try_) : x = y := by
  cases x; cases y; simp only at *; subst_vars; rfl
set_option maxHeartbeats 2000000 in
theorem eqReply_n (w : World) {x y : Reply} {cs ds : List Value} {fp gp : List Nat} (hc : Shape.C w cs x fp) (hd : Shape.C w ds y gp) :
    Calls Try.prog 70 #[.agg cs.toArray, .agg ds.toArray] w fun e w' => e = .returned (.bool (eqB x y)) ∧ St w w' [] := by
  refine enter2 Try.func70 rfl Try.ntmps70 (by decide) ?_
  refine wp_seq ?_
  refine sx_region ?_
  refine sx rfl (stp_box_agg (cs := cs) rfl (St.start w) ?_); intro b1 W2 hb3 st4
  refine sx rfl (stp_box_agg (cs := ds) rfl st4 ?_); intro b6 W7 hb8 st9
  refine sx rfl (stp_assign (v := .bool false) rfl ?_)
  refine sx_nil ?_
  refine wp_seq ?_
  refine wp_seq ?_
  refine sx_region ?_
  refine sx rfl (stp_fieldAddr fa_Reply_0 rfl ?_)
  have hk11 := hc
  obtain ⟨he11, rfl, hok11⟩ := hk11
  have he11 : _ = [I x.code, I x.run, I x.task, I x.try_] := he11
  subst he11
  refine sx rfl (stp_load_bx ld_int rfl rfl (st9.get 1 rfl) (i := 0) rfl rfl ?_)
  refine sx rfl (stp_fieldAddr fa_Reply_0 rfl ?_)
  have hk12 := hd
  obtain ⟨he12, rfl, hok12⟩ := hk12
  have he12 : _ = [I y.code, I y.run, I y.task, I y.try_] := he12
  subst he12
  refine sx rfl (stp_load_bx ld_int rfl rfl (st9.get 0 rfl) (i := 0) rfl rfl ?_)
  refine sx rfl (stp_neq rfl rfl ?_)
  refine sx_nil ?_
  refine sx_if rfl (fun h13 => ?_) (fun h13 => ?_)
  · skip
    have h13p := of_decide_eq_false (bnot_t h13)
    refine wp_seq ?_
    refine sx_region ?_
    refine sx rfl (stp_assign (v := .bool false) rfl ?_)
    refine sx_nil ?_
    refine wp_ret ?_; repeat (first | refine then_ret ?_ | refine blk_ret ?_)
    refine ret1 Try.results70 rfl ?_
    exact ⟨congrArg (fun z => Ending.returned (.bool z)) (eqB_f (fun e => by subst e; first | exact h13p rfl | exact absurd (bnot_t h13) (by rw [eqB_t rfl]; decide) | exact absurd (bnot_t h13) (by simp))).symm, st9.bare⟩
  · skip
    have h13p := of_decide_eq_true (bnot_f h13)
    refine wp_skip ?_
    refine wp_seq ?_
    refine wp_seq ?_
    refine sx_region ?_
    refine sx rfl (stp_fieldAddr fa_Reply_1 rfl ?_)
    refine sx rfl (stp_load_bx ld_int rfl rfl (st9.get 1 rfl) (i := 1) rfl rfl ?_)
    refine sx rfl (stp_fieldAddr fa_Reply_1 rfl ?_)
    refine sx rfl (stp_load_bx ld_int rfl rfl (st9.get 0 rfl) (i := 1) rfl rfl ?_)
    refine sx rfl (stp_neq rfl rfl ?_)
    refine sx_nil ?_
    refine sx_if rfl (fun h14 => ?_) (fun h14 => ?_)
    · skip
      have h14p := of_decide_eq_false (bnot_t h14)
      refine wp_seq ?_
      refine sx_region ?_
      refine sx rfl (stp_assign (v := .bool false) rfl ?_)
      refine sx_nil ?_
      refine wp_ret ?_; repeat (first | refine then_ret ?_ | refine blk_ret ?_)
      refine ret1 Try.results70 rfl ?_
      exact ⟨congrArg (fun z => Ending.returned (.bool z)) (eqB_f (fun e => by subst e; first | exact h14p rfl | exact absurd (bnot_t h14) (by rw [eqB_t rfl]; decide) | exact absurd (bnot_t h14) (by simp))).symm, st9.bare⟩
    · skip
      have h14p := of_decide_eq_true (bnot_f h14)
      refine wp_skip ?_
      refine wp_seq ?_
      refine wp_seq ?_
      refine sx_region ?_
      refine sx rfl (stp_fieldAddr fa_Reply_2 rfl ?_)
      refine sx rfl (stp_load_bx ld_int rfl rfl (st9.get 1 rfl) (i := 2) rfl rfl ?_)
      refine sx rfl (stp_fieldAddr fa_Reply_2 rfl ?_)
      refine sx rfl (stp_load_bx ld_int rfl rfl (st9.get 0 rfl) (i := 2) rfl rfl ?_)
      refine sx rfl (stp_neq rfl rfl ?_)
      refine sx_nil ?_
      refine sx_if rfl (fun h15 => ?_) (fun h15 => ?_)
      · skip
        have h15p := of_decide_eq_false (bnot_t h15)
        refine wp_seq ?_
        refine sx_region ?_
        refine sx rfl (stp_assign (v := .bool false) rfl ?_)
        refine sx_nil ?_
        refine wp_ret ?_; repeat (first | refine then_ret ?_ | refine blk_ret ?_)
        refine ret1 Try.results70 rfl ?_
        exact ⟨congrArg (fun z => Ending.returned (.bool z)) (eqB_f (fun e => by subst e; first | exact h15p rfl | exact absurd (bnot_t h15) (by rw [eqB_t rfl]; decide) | exact absurd (bnot_t h15) (by simp))).symm, st9.bare⟩
      · skip
        have h15p := of_decide_eq_true (bnot_f h15)
        refine wp_skip ?_
        refine wp_seq ?_
        refine wp_seq ?_
        refine sx_region ?_
        refine sx rfl (stp_fieldAddr fa_Reply_3 rfl ?_)
        refine sx rfl (stp_load_bx ld_int rfl rfl (st9.get 1 rfl) (i := 3) rfl rfl ?_)
        refine sx rfl (stp_fieldAddr fa_Reply_3 rfl ?_)
        refine sx rfl (stp_load_bx ld_int rfl rfl (st9.get 0 rfl) (i := 3) rfl rfl ?_)
        refine sx rfl (stp_neq rfl rfl ?_)
        refine sx_nil ?_
        refine sx_if rfl (fun h16 => ?_) (fun h16 => ?_)
        · skip
          have h16p := of_decide_eq_false (bnot_t h16)
          refine wp_seq ?_
          refine sx_region ?_
          refine sx rfl (stp_assign (v := .bool false) rfl ?_)
          refine sx_nil ?_
          refine wp_ret ?_; repeat (first | refine then_ret ?_ | refine blk_ret ?_)
          refine ret1 Try.results70 rfl ?_
          exact ⟨congrArg (fun z => Ending.returned (.bool z)) (eqB_f (fun e => by subst e; first | exact h16p rfl | exact absurd (bnot_t h16) (by rw [eqB_t rfl]; decide) | exact absurd (bnot_t h16) (by simp))).symm, st9.bare⟩
        · skip
          have h16p := of_decide_eq_true (bnot_f h16)
          refine wp_skip ?_
          refine wp_seq ?_
          refine sx_region ?_
          refine sx rfl (stp_assign (v := .bool true) rfl ?_)
          refine sx_nil ?_
          refine wp_ret ?_; repeat (first | refine then_ret ?_ | refine blk_ret ?_)
          refine ret1 Try.results70 rfl ?_
          exact ⟨congrArg (fun z => Ending.returned (.bool z)) (eqB_t (Reply_ext h13p h14p h15p h16p)).symm, st9.bare⟩
set_option maxHeartbeats 2000000 in
theorem eqReplyS_n (w : World) {v u : Value} {xs ys : List Reply} {fp gp : List Nat} (h : Sl w v xs fp) (g : Sl w u ys gp) :
    Calls Try.prog 46 #[v, u] w fun e w' => e = .returned (.bool (eqB xs ys)) ∧ St w w' [] := by
  have hcap := h.len_le
  have hcap2 := g.len_le
  refine enter2 Try.func46 rfl Try.ntmps46 (by decide) ?_
  refine wp_seq ?_
  refine sx_region ?_
  refine sx rfl (stp_assign (v := .bool false) rfl ?_)
  refine sx_nil ?_
  refine wp_seq ?_
  refine wp_seq ?_
  refine sx_region ?_
  refine sx rfl (stp_move (v := v) rfl ?_)
  refine sx rfl (stp_len sl_ReplyS rfl h ?_)
  refine sx rfl (stp_move (v := u) rfl ?_)
  refine sx rfl (stp_len sl_ReplyS rfl g ?_)
  refine sx rfl (stp_neq rfl rfl ?_)
  refine sx_nil ?_
  refine sx_if rfl (fun h1 => ?_) (fun h1 => ?_)
  · skip
    have h1p := of_decide_eq_false (bnot_t h1)
    refine wp_seq ?_
    refine sx_region ?_
    refine sx rfl (stp_assign (v := .bool false) rfl ?_)
    refine sx_nil ?_
    refine wp_ret ?_; repeat (first | refine then_ret ?_ | refine blk_ret ?_)
    refine ret1 Try.results46 rfl ?_
    exact ⟨congrArg (fun z => Ending.returned (.bool z)) (eqB_f (fun e => h1p (by rw [e]))).symm, (St.start w).bare⟩
  · skip
    have h1p := of_decide_eq_true (bnot_f h1)
    refine wp_skip ?_
    refine wp_seq ?_
    refine wp_seq ?_
    refine sx_region ?_
    refine sx rfl (stp_assign (v := I 0) rfl ?_)
    refine sx_nil ?_
    refine wp_block ?_
    refine sx_loop (fun (m : Nat) (f : Nat → Value) (W : World) => ∃ (k : Nat), k ≤ xs.length ∧ xs.take k = ys.take k ∧ m = xs.length - k ∧ f 0 = v ∧ f 1 = u ∧ f 5 = I (k : Int) ∧ St w W ([])) (xs.length - 0) ?_ ?_
    · exact ⟨0, Nat.zero_le _, rfl, rfl, rfl, rfl, rfl, (St.start w)⟩
    intro m2 f3 W4 hJ5
    obtain ⟨k, hk, htk, rfl, hs7_0, hs7_1, hs7_5, st6⟩ := hJ5
    refine wp_seq ?_
    refine wp_seq ?_
    refine sx_region ?_
    refine sx rfl (stp_move (v := I (k : Int)) hs7_5 ?_)
    refine sx rfl (stp_move (v := v) hs7_0 ?_)
    refine sx rfl (stp_len sl_ReplyS rfl h ?_)
    refine sx rfl (stp_lss rfl rfl ?_)
    refine sx_nil ?_
    refine sx_if rfl (fun h8 => ?_) (fun h8 => ?_)
    · skip
      have h8p := of_decide_eq_true h8
      refine wp_skip ?_
      refine wp_seq ?_
      refine wp_block ?_
      refine wp_seq ?_
      have hi51fab : k < xs.length := (by omega)
      have hq_ := idx h (i := k) hi51fab
      obtain ⟨b9, o9, cs9, f9, hp9, hr9, hc9, hm9⟩ := hq_
      have hk10 := hc9
      obtain ⟨he10, rfl, hok10⟩ := hk10
      have he10 : _ = [I (xs[k]'hi51fab).code, I (xs[k]'hi51fab).run, I (xs[k]'hi51fab).task, I (xs[k]'hi51fab).try_] := he10
      subst he10
      have hi28e79 : k < ys.length := (by omega)
      have hq_ := idx g (i := k) hi28e79
      obtain ⟨b11, o11, cs11, f11, hp11, hr11, hc11, hm11⟩ := hq_
      have hk12 := hc11
      obtain ⟨he12, rfl, hok12⟩ := hk12
      have he12 : _ = [I (ys[k]'hi28e79).code, I (ys[k]'hi28e79).run, I (ys[k]'hi28e79).task, I (ys[k]'hi28e79).try_] := he12
      subst he12
      refine sx_any [Pl.is (v) (Sl.yl h), Pl.is (I (k : Int)), Pl.is (.pointer (some ⟨b9, o9, none⟩)), Pl.is (.agg #[I (xs[k]'hi51fab).code, I (xs[k]'hi51fab).run, I (xs[k]'hi51fab).task, I (xs[k]'hi51fab).try_]), Pl.is (u) (Sl.yl g), Pl.is (I (k : Int)), Pl.is (.pointer (some ⟨b11, o11, none⟩)), Pl.is (.agg #[I (ys[k]'hi28e79).code, I (ys[k]'hi28e79).run, I (ys[k]'hi28e79).task, I (ys[k]'hi28e79).try_]), Pl.bool (eqB (xs[k]'hi51fab) (ys[k]'hi28e79)), Pl.bool (!(eqB (xs[k]'hi51fab) (ys[k]'hi28e79)))] mix (by rfl) st6 ⟨(fun f W hst hbl hd hf => stp_move (v := v) ((hf 0 rfl).trans hs7_0) ⟨Below.refl _ _, rfl⟩), (fun f W hst hbl hd hf => stp_move (v := I (k : Int)) ((hf 5 rfl).trans hs7_5) ⟨Below.refl _ _, rfl⟩), (fun f W hst hbl hd hf => stp_indexAddr sl_ReplyS (hd 0 17 rfl rfl) hp9 (hd 1 18 rfl rfl) rfl ⟨Below.refl _ _, rfl⟩), (fun f W hst hbl hd hf => stp_load_rgs (cs := [I (xs[k]'hi51fab).code, I (xs[k]'hi51fab).run, I (xs[k]'hi51fab).task, I (xs[k]'hi51fab).try_]) ld_Reply rfl (hd 2 19 rfl rfl) hr9 hst.below (i := 0) rfl rfl rfl ⟨Below.refl _ _, rfl⟩), (fun f W hst hbl hd hf => stp_move (v := u) ((hf 1 rfl).trans hs7_1) ⟨Below.refl _ _, rfl⟩), (fun f W hst hbl hd hf => stp_move (v := I (k : Int)) ((hf 5 rfl).trans hs7_5) ⟨Below.refl _ _, rfl⟩), (fun f W hst hbl hd hf => stp_indexAddr sl_ReplyS (hd 4 21 rfl rfl) hp11 (hd 5 22 rfl rfl) rfl ⟨Below.refl _ _, rfl⟩), (fun f W hst hbl hd hf => stp_load_rgs (cs := [I (ys[k]'hi28e79).code, I (ys[k]'hi28e79).run, I (ys[k]'hi28e79).task, I (ys[k]'hi28e79).try_]) ld_Reply rfl (hd 6 23 rfl rfl) hr11 hst.below (i := 0) rfl rfl rfl ⟨Below.refl _ _, rfl⟩), (fun f W hst hbl hd hf => stp_call2 Try.func70 rfl (hd 3 20 rfl rfl) (hd 7 24 rfl rfl) ((eqReply_n W hc9 hc11).mono (by rintro e W2 ⟨rfl, hk⟩; exact ⟨_, rfl, hk.below, rfl⟩))), (fun f W hst hbl hd hf => stp_not (hd 8 25 rfl rfl) ⟨Below.refl _ _, rfl⟩), trivial⟩ ?_
      intro f13 W14 st15 hb16 hv17 hf18
      refine sx_if (hv17 9 26 (by decide) rfl) (fun h19 => ?_) (fun h19 => ?_)
      · skip
        refine wp_seq ?_
        refine sx_region ?_
        refine sx rfl (stp_assign (v := .bool false) rfl ?_)
        refine sx_nil ?_
        refine wp_ret ?_; repeat (first | refine then_ret ?_ | refine blk_ret ?_)
        refine ret1 Try.results46 rfl ?_
        have hne : ¬ xs[k] = ys[k]'(by omega) := fun e => absurd (bnot_t h19) (by rw [eqB_t e]; decide)
        exact ⟨congrArg (fun z => Ending.returned (.bool z)) (eqB_f (fun e => hne (by subst e; rfl))).symm, st15.bare⟩
      · skip
        refine wp_skip ?_
        refine sx_region ?_
        refine sx rfl (stp_move (v := I (k : Int)) ((hf18 5 rfl).trans hs7_5) ?_)
        refine sx rfl (stp_add rfl rfl (by (simp only [I64] at *; omega)) ?_)
        refine sx rfl (stp_assign (v := I ((k : Int) + 1)) rfl ?_)
        refine sx_nil ?_
        exact ⟨_, xs.length - (k + 1), (by omega), rfl, k + 1, (by omega), (take_eq_succ (by omega) (by omega) htk (eqB_iff.1 (bnot_f h19))), rfl, ((hf18 0 rfl).trans hs7_0), ((hf18 1 rfl).trans hs7_1), rfl, st15⟩
    · skip
      have h8p := of_decide_eq_false h8
      refine wp_exit ?_
      refine wp_seq ?_
      refine sx_region ?_
      refine sx rfl (stp_assign (v := .bool true) rfl ?_)
      refine sx_nil ?_
      refine wp_ret ?_; repeat (first | refine then_ret ?_ | refine blk_ret ?_)
      refine ret1 Try.results46 rfl ?_
      obtain rfl : k = xs.length := by omega
      rw [List.take_length, List.take_of_length_le (by omega)] at htk
      exact ⟨congrArg (fun z => Ending.returned (.bool z)) (eqB_t htk).symm, st6.bare⟩
theorem Deed_ext {x y : Deed} (h0 : x.kind = y.kind) (h1 : x.run = y.run) (h2 : x.plan = y.plan) (h3 : x.task = y.task) (h4 : x.try_ = y.try_) (h5 : x.worker = y.worker) (h6 : x.draw = y.draw) : x = y := by
  cases x; cases y; simp only at *; subst_vars; rfl
set_option maxHeartbeats 2000000 in
theorem eqDeed_n (w : World) {x y : Deed} {cs ds : List Value} {fp gp : List Nat} (hc : Shape.C w cs x fp) (hd : Shape.C w ds y gp) :
    Calls Try.prog 69 #[.agg cs.toArray, .agg ds.toArray] w fun e w' => e = .returned (.bool (eqB x y)) ∧ St w w' [] := by
  refine enter2 Try.func69 rfl Try.ntmps69 (by decide) ?_
  refine wp_seq ?_
  refine sx_region ?_
  refine sx rfl (stp_box_agg (cs := cs) rfl (St.start w) ?_); intro b1 W2 hb3 st4
  refine sx rfl (stp_box_agg (cs := ds) rfl st4 ?_); intro b6 W7 hb8 st9
  refine sx rfl (stp_assign (v := .bool false) rfl ?_)
  refine sx_nil ?_
  refine wp_seq ?_
  refine wp_seq ?_
  refine sx_region ?_
  refine sx rfl (stp_fieldAddr fa_Deed_0 rfl ?_)
  have hk11 := hc
  obtain ⟨v11_0, g11_0, rfl, hok11, h11_0, rfl⟩ := hk11
  refine sx rfl (stp_load_bx ld_int rfl rfl (st9.get 1 rfl) (i := 0) rfl rfl ?_)
  refine sx rfl (stp_fieldAddr fa_Deed_0 rfl ?_)
  have hk12 := hd
  obtain ⟨v12_0, g12_0, rfl, hok12, h12_0, rfl⟩ := hk12
  refine sx rfl (stp_load_bx ld_int rfl rfl (st9.get 0 rfl) (i := 0) rfl rfl ?_)
  refine sx rfl (stp_neq rfl rfl ?_)
  refine sx_nil ?_
  refine sx_if rfl (fun h13 => ?_) (fun h13 => ?_)
  · skip
    have h13p := of_decide_eq_false (bnot_t h13)
    refine wp_seq ?_
    refine sx_region ?_
    refine sx rfl (stp_assign (v := .bool false) rfl ?_)
    refine sx_nil ?_
    refine wp_ret ?_; repeat (first | refine then_ret ?_ | refine blk_ret ?_)
    refine ret1 Try.results69 rfl ?_
    exact ⟨congrArg (fun z => Ending.returned (.bool z)) (eqB_f (fun e => by subst e; first | exact h13p rfl | exact absurd (bnot_t h13) (by rw [eqB_t rfl]; decide) | exact absurd (bnot_t h13) (by simp))).symm, st9.bare⟩
  · skip
    have h13p := of_decide_eq_true (bnot_f h13)
    refine wp_skip ?_
    refine wp_seq ?_
    refine wp_seq ?_
    refine sx_region ?_
    refine sx rfl (stp_fieldAddr fa_Deed_1 rfl ?_)
    refine sx rfl (stp_load_bx ld_int rfl rfl (st9.get 1 rfl) (i := 1) rfl rfl ?_)
    refine sx rfl (stp_fieldAddr fa_Deed_1 rfl ?_)
    refine sx rfl (stp_load_bx ld_int rfl rfl (st9.get 0 rfl) (i := 1) rfl rfl ?_)
    refine sx rfl (stp_neq rfl rfl ?_)
    refine sx_nil ?_
    refine sx_if rfl (fun h14 => ?_) (fun h14 => ?_)
    · skip
      have h14p := of_decide_eq_false (bnot_t h14)
      refine wp_seq ?_
      refine sx_region ?_
      refine sx rfl (stp_assign (v := .bool false) rfl ?_)
      refine sx_nil ?_
      refine wp_ret ?_; repeat (first | refine then_ret ?_ | refine blk_ret ?_)
      refine ret1 Try.results69 rfl ?_
      exact ⟨congrArg (fun z => Ending.returned (.bool z)) (eqB_f (fun e => by subst e; first | exact h14p rfl | exact absurd (bnot_t h14) (by rw [eqB_t rfl]; decide) | exact absurd (bnot_t h14) (by simp))).symm, st9.bare⟩
    · skip
      have h14p := of_decide_eq_true (bnot_f h14)
      refine wp_skip ?_
      refine wp_seq ?_
      refine wp_seq ?_
      refine sx_region ?_
      refine sx rfl (stp_fieldAddr fa_Deed_2 rfl ?_)
      refine sx rfl (stp_load_bxs (cs := [I x.plan.prio, I x.plan.most, I x.plan.wait, I x.plan.tasks, v11_0]) ld_Plan rfl rfl (st9.get 1 rfl) rfl rfl ?_)
      refine sx rfl (stp_fieldAddr fa_Deed_2 rfl ?_)
      refine sx rfl (stp_load_bxs (cs := [I y.plan.prio, I y.plan.most, I y.plan.wait, I y.plan.tasks, v12_0]) ld_Plan rfl rfl (st9.get 0 rfl) rfl rfl ?_)
      refine sx rfl (stp_call2 Try.func83 rfl rfl rfl ((eqPlan_n W7 (show Shape.C _ [I x.plan.prio, I x.plan.most, I x.plan.wait, I x.plan.tasks, v11_0] x.plan _ from ⟨_, _, rfl, (by first | exact True.intro | (simp only [Edge.ok, Plan.ok, Entry.ok, Task.ok, Run.ok, Yard.ok, Reply.ok, Deed.ok, Note.ok, Wait.ok, File.ok, Disk.ok, Engine.ok, WorldD.ok, ActD.ok, Hand.ok, Span.ok, Crew.ok, View.ok, I64] at *; omega)), (h11_0.below st9.below), rfl⟩) (show Shape.C _ [I y.plan.prio, I y.plan.most, I y.plan.wait, I y.plan.tasks, v12_0] y.plan _ from ⟨_, _, rfl, (by first | exact True.intro | (simp only [Edge.ok, Plan.ok, Entry.ok, Task.ok, Run.ok, Yard.ok, Reply.ok, Deed.ok, Note.ok, Wait.ok, File.ok, Disk.ok, Engine.ok, WorldD.ok, ActD.ok, Hand.ok, Span.ok, Crew.ok, View.ok, I64] at *; omega)), (h12_0.below st9.below), rfl⟩)).mono ?_)); rintro _ W15 ⟨rfl, hk16⟩; refine ⟨_, rfl, ?_⟩
      have st17 := St.call st9 hk16
      refine sx rfl (stp_not rfl ?_)
      refine sx_nil ?_
      refine sx_if rfl (fun h19 => ?_) (fun h19 => ?_)
      · skip
        refine wp_seq ?_
        refine sx_region ?_
        refine sx rfl (stp_assign (v := .bool false) rfl ?_)
        refine sx_nil ?_
        refine wp_ret ?_; repeat (first | refine then_ret ?_ | refine blk_ret ?_)
        refine ret1 Try.results69 rfl ?_
        exact ⟨congrArg (fun z => Ending.returned (.bool z)) (eqB_f (fun e => by subst e; first | exact absurd (bnot_t h19) (by rw [eqB_t rfl]; decide) | exact absurd (bnot_t h19) (by simp))).symm, st17.bare⟩
      · skip
        refine wp_skip ?_
        refine wp_seq ?_
        refine wp_seq ?_
        refine sx_region ?_
        refine sx rfl (stp_fieldAddr fa_Deed_3 rfl ?_)
        refine sx rfl (stp_load_bx ld_int rfl rfl (st17.get 1 rfl) (i := 7) rfl rfl ?_)
        refine sx rfl (stp_fieldAddr fa_Deed_3 rfl ?_)
        refine sx rfl (stp_load_bx ld_int rfl rfl (st17.get 0 rfl) (i := 7) rfl rfl ?_)
        refine sx rfl (stp_neq rfl rfl ?_)
        refine sx_nil ?_
        refine sx_if rfl (fun h20 => ?_) (fun h20 => ?_)
        · skip
          have h20p := of_decide_eq_false (bnot_t h20)
          refine wp_seq ?_
          refine sx_region ?_
          refine sx rfl (stp_assign (v := .bool false) rfl ?_)
          refine sx_nil ?_
          refine wp_ret ?_; repeat (first | refine then_ret ?_ | refine blk_ret ?_)
          refine ret1 Try.results69 rfl ?_
          exact ⟨congrArg (fun z => Ending.returned (.bool z)) (eqB_f (fun e => by subst e; first | exact h20p rfl | exact absurd (bnot_t h20) (by rw [eqB_t rfl]; decide) | exact absurd (bnot_t h20) (by simp))).symm, st17.bare⟩
        · skip
          have h20p := of_decide_eq_true (bnot_f h20)
          refine wp_skip ?_
          refine wp_seq ?_
          refine wp_seq ?_
          refine sx_region ?_
          refine sx rfl (stp_fieldAddr fa_Deed_4 rfl ?_)
          refine sx rfl (stp_load_bx ld_int rfl rfl (st17.get 1 rfl) (i := 8) rfl rfl ?_)
          refine sx rfl (stp_fieldAddr fa_Deed_4 rfl ?_)
          refine sx rfl (stp_load_bx ld_int rfl rfl (st17.get 0 rfl) (i := 8) rfl rfl ?_)
          refine sx rfl (stp_neq rfl rfl ?_)
          refine sx_nil ?_
          refine sx_if rfl (fun h21 => ?_) (fun h21 => ?_)
          · skip
            have h21p := of_decide_eq_false (bnot_t h21)
            refine wp_seq ?_
            refine sx_region ?_
            refine sx rfl (stp_assign (v := .bool false) rfl ?_)
            refine sx_nil ?_
            refine wp_ret ?_; repeat (first | refine then_ret ?_ | refine blk_ret ?_)
            refine ret1 Try.results69 rfl ?_
            exact ⟨congrArg (fun z => Ending.returned (.bool z)) (eqB_f (fun e => by subst e; first | exact h21p rfl | exact absurd (bnot_t h21) (by rw [eqB_t rfl]; decide) | exact absurd (bnot_t h21) (by simp))).symm, st17.bare⟩
          · skip
            have h21p := of_decide_eq_true (bnot_f h21)
            refine wp_skip ?_
            refine wp_seq ?_
            refine wp_seq ?_
            refine sx_region ?_
            refine sx rfl (stp_fieldAddr fa_Deed_5 rfl ?_)
            refine sx rfl (stp_load_bx ld_int rfl rfl (st17.get 1 rfl) (i := 9) rfl rfl ?_)
            refine sx rfl (stp_fieldAddr fa_Deed_5 rfl ?_)
            refine sx rfl (stp_load_bx ld_int rfl rfl (st17.get 0 rfl) (i := 9) rfl rfl ?_)
            refine sx rfl (stp_neq rfl rfl ?_)
            refine sx_nil ?_
            refine sx_if rfl (fun h22 => ?_) (fun h22 => ?_)
            · skip
              have h22p := of_decide_eq_false (bnot_t h22)
              refine wp_seq ?_
              refine sx_region ?_
              refine sx rfl (stp_assign (v := .bool false) rfl ?_)
              refine sx_nil ?_
              refine wp_ret ?_; repeat (first | refine then_ret ?_ | refine blk_ret ?_)
              refine ret1 Try.results69 rfl ?_
              exact ⟨congrArg (fun z => Ending.returned (.bool z)) (eqB_f (fun e => by subst e; first | exact h22p rfl | exact absurd (bnot_t h22) (by rw [eqB_t rfl]; decide) | exact absurd (bnot_t h22) (by simp))).symm, st17.bare⟩
            · skip
              have h22p := of_decide_eq_true (bnot_f h22)
              refine wp_skip ?_
              refine wp_seq ?_
              refine wp_seq ?_
              refine sx_region ?_
              refine sx rfl (stp_fieldAddr fa_Deed_6 rfl ?_)
              refine sx rfl (stp_load_bx ld_int rfl rfl (st17.get 1 rfl) (i := 10) rfl rfl ?_)
              refine sx rfl (stp_fieldAddr fa_Deed_6 rfl ?_)
              refine sx rfl (stp_load_bx ld_int rfl rfl (st17.get 0 rfl) (i := 10) rfl rfl ?_)
              refine sx rfl (stp_neq rfl rfl ?_)
              refine sx_nil ?_
              refine sx_if rfl (fun h23 => ?_) (fun h23 => ?_)
              · skip
                have h23p := of_decide_eq_false (bnot_t h23)
                refine wp_seq ?_
                refine sx_region ?_
                refine sx rfl (stp_assign (v := .bool false) rfl ?_)
                refine sx_nil ?_
                refine wp_ret ?_; repeat (first | refine then_ret ?_ | refine blk_ret ?_)
                refine ret1 Try.results69 rfl ?_
                exact ⟨congrArg (fun z => Ending.returned (.bool z)) (eqB_f (fun e => by subst e; first | exact h23p rfl | exact absurd (bnot_t h23) (by rw [eqB_t rfl]; decide) | exact absurd (bnot_t h23) (by simp))).symm, st17.bare⟩
              · skip
                have h23p := of_decide_eq_true (bnot_f h23)
                refine wp_skip ?_
                refine wp_seq ?_
                refine sx_region ?_
                refine sx rfl (stp_assign (v := .bool true) rfl ?_)
                refine sx_nil ?_
                refine wp_ret ?_; repeat (first | refine then_ret ?_ | refine blk_ret ?_)
                refine ret1 Try.results69 rfl ?_
                exact ⟨congrArg (fun z => Ending.returned (.bool z)) (eqB_t (Deed_ext h13p h14p (eqB_iff.1 (bnot_f h19)) h20p h21p h22p h23p)).symm, st17.bare⟩
set_option maxHeartbeats 2000000 in
theorem eqDeedS_n (w : World) {v u : Value} {xs ys : List Deed} {fp gp : List Nat} (h : Sl w v xs fp) (g : Sl w u ys gp) :
    Calls Try.prog 45 #[v, u] w fun e w' => e = .returned (.bool (eqB xs ys)) ∧ St w w' [] := by
  have hcap := h.len_le
  have hcap2 := g.len_le
  refine enter2 Try.func45 rfl Try.ntmps45 (by decide) ?_
  refine wp_seq ?_
  refine sx_region ?_
  refine sx rfl (stp_assign (v := .bool false) rfl ?_)
  refine sx_nil ?_
  refine wp_seq ?_
  refine wp_seq ?_
  refine sx_region ?_
  refine sx rfl (stp_move (v := v) rfl ?_)
  refine sx rfl (stp_len sl_DeedS rfl h ?_)
  refine sx rfl (stp_move (v := u) rfl ?_)
  refine sx rfl (stp_len sl_DeedS rfl g ?_)
  refine sx rfl (stp_neq rfl rfl ?_)
  refine sx_nil ?_
  refine sx_if rfl (fun h1 => ?_) (fun h1 => ?_)
  · skip
    have h1p := of_decide_eq_false (bnot_t h1)
    refine wp_seq ?_
    refine sx_region ?_
    refine sx rfl (stp_assign (v := .bool false) rfl ?_)
    refine sx_nil ?_
    refine wp_ret ?_; repeat (first | refine then_ret ?_ | refine blk_ret ?_)
    refine ret1 Try.results45 rfl ?_
    exact ⟨congrArg (fun z => Ending.returned (.bool z)) (eqB_f (fun e => h1p (by rw [e]))).symm, (St.start w).bare⟩
  · skip
    have h1p := of_decide_eq_true (bnot_f h1)
    refine wp_skip ?_
    refine wp_seq ?_
    refine wp_seq ?_
    refine sx_region ?_
    refine sx rfl (stp_assign (v := I 0) rfl ?_)
    refine sx_nil ?_
    refine wp_block ?_
    refine sx_loop (fun (m : Nat) (f : Nat → Value) (W : World) => ∃ (k : Nat), k ≤ xs.length ∧ xs.take k = ys.take k ∧ m = xs.length - k ∧ f 0 = v ∧ f 1 = u ∧ f 5 = I (k : Int) ∧ St w W ([])) (xs.length - 0) ?_ ?_
    · exact ⟨0, Nat.zero_le _, rfl, rfl, rfl, rfl, rfl, (St.start w)⟩
    intro m2 f3 W4 hJ5
    obtain ⟨k, hk, htk, rfl, hs7_0, hs7_1, hs7_5, st6⟩ := hJ5
    refine wp_seq ?_
    refine wp_seq ?_
    refine sx_region ?_
    refine sx rfl (stp_move (v := I (k : Int)) hs7_5 ?_)
    refine sx rfl (stp_move (v := v) hs7_0 ?_)
    refine sx rfl (stp_len sl_DeedS rfl h ?_)
    refine sx rfl (stp_lss rfl rfl ?_)
    refine sx_nil ?_
    refine sx_if rfl (fun h8 => ?_) (fun h8 => ?_)
    · skip
      have h8p := of_decide_eq_true h8
      refine wp_skip ?_
      refine wp_seq ?_
      refine wp_block ?_
      refine wp_seq ?_
      have hi51fab : k < xs.length := (by omega)
      have hq_ := idx h (i := k) hi51fab
      obtain ⟨b9, o9, cs9, f9, hp9, hr9, hc9, hm9⟩ := hq_
      have hi28e79 : k < ys.length := (by omega)
      have hq_ := idx g (i := k) hi28e79
      obtain ⟨b10, o10, cs10, f10, hp10, hr10, hc10, hm10⟩ := hq_
      refine sx_any [Pl.is (v) (Sl.yl h), Pl.is (I (k : Int)), Pl.is (.pointer (some ⟨b9, o9, none⟩)), Pl.is (.agg cs9.toArray), Pl.is (u) (Sl.yl g), Pl.is (I (k : Int)), Pl.is (.pointer (some ⟨b10, o10, none⟩)), Pl.is (.agg cs10.toArray), Pl.bool (eqB (xs[k]'hi51fab) (ys[k]'hi28e79)), Pl.bool (!(eqB (xs[k]'hi51fab) (ys[k]'hi28e79)))] mix (by rfl) st6 ⟨(fun f W hst hbl hd hf => stp_move (v := v) ((hf 0 rfl).trans hs7_0) ⟨Below.refl _ _, rfl⟩), (fun f W hst hbl hd hf => stp_move (v := I (k : Int)) ((hf 5 rfl).trans hs7_5) ⟨Below.refl _ _, rfl⟩), (fun f W hst hbl hd hf => stp_indexAddr sl_DeedS (hd 0 17 rfl rfl) hp9 (hd 1 18 rfl rfl) rfl ⟨Below.refl _ _, rfl⟩), (fun f W hst hbl hd hf => stp_load_rga ld_Deed rfl (hd 2 19 rfl rfl) hr9 hst.below (Shape.len hc9) ⟨Below.refl _ _, rfl⟩), (fun f W hst hbl hd hf => stp_move (v := u) ((hf 1 rfl).trans hs7_1) ⟨Below.refl _ _, rfl⟩), (fun f W hst hbl hd hf => stp_move (v := I (k : Int)) ((hf 5 rfl).trans hs7_5) ⟨Below.refl _ _, rfl⟩), (fun f W hst hbl hd hf => stp_indexAddr sl_DeedS (hd 4 21 rfl rfl) hp10 (hd 5 22 rfl rfl) rfl ⟨Below.refl _ _, rfl⟩), (fun f W hst hbl hd hf => stp_load_rga ld_Deed rfl (hd 6 23 rfl rfl) hr10 hst.below (Shape.len hc10) ⟨Below.refl _ _, rfl⟩), (fun f W hst hbl hd hf => stp_call2 Try.func69 rfl (hd 3 20 rfl rfl) (hd 7 24 rfl rfl) ((eqDeed_n W (C_below hc9 hst.below) (C_below hc10 hst.below)).mono (by rintro e W2 ⟨rfl, hk⟩; exact ⟨_, rfl, hk.below, rfl⟩))), (fun f W hst hbl hd hf => stp_not (hd 8 25 rfl rfl) ⟨Below.refl _ _, rfl⟩), trivial⟩ ?_
      intro f11 W12 st13 hb14 hv15 hf16
      refine sx_if (hv15 9 26 (by decide) rfl) (fun h17 => ?_) (fun h17 => ?_)
      · skip
        refine wp_seq ?_
        refine sx_region ?_
        refine sx rfl (stp_assign (v := .bool false) rfl ?_)
        refine sx_nil ?_
        refine wp_ret ?_; repeat (first | refine then_ret ?_ | refine blk_ret ?_)
        refine ret1 Try.results45 rfl ?_
        have hne : ¬ xs[k] = ys[k]'(by omega) := fun e => absurd (bnot_t h17) (by rw [eqB_t e]; decide)
        exact ⟨congrArg (fun z => Ending.returned (.bool z)) (eqB_f (fun e => hne (by subst e; rfl))).symm, st13.bare⟩
      · skip
        refine wp_skip ?_
        refine sx_region ?_
        refine sx rfl (stp_move (v := I (k : Int)) ((hf16 5 rfl).trans hs7_5) ?_)
        refine sx rfl (stp_add rfl rfl (by (simp only [I64] at *; omega)) ?_)
        refine sx rfl (stp_assign (v := I ((k : Int) + 1)) rfl ?_)
        refine sx_nil ?_
        exact ⟨_, xs.length - (k + 1), (by omega), rfl, k + 1, (by omega), (take_eq_succ (by omega) (by omega) htk (eqB_iff.1 (bnot_f h17))), rfl, ((hf16 0 rfl).trans hs7_0), ((hf16 1 rfl).trans hs7_1), rfl, st13⟩
    · skip
      have h8p := of_decide_eq_false h8
      refine wp_exit ?_
      refine wp_seq ?_
      refine sx_region ?_
      refine sx rfl (stp_assign (v := .bool true) rfl ?_)
      refine sx_nil ?_
      refine wp_ret ?_; repeat (first | refine then_ret ?_ | refine blk_ret ?_)
      refine ret1 Try.results45 rfl ?_
      obtain rfl : k = xs.length := by omega
      rw [List.take_length, List.take_of_length_le (by omega)] at htk
      exact ⟨congrArg (fun z => Ending.returned (.bool z)) (eqB_t htk).symm, st6.bare⟩
theorem Wait_ext {x y : Wait} (h0 : x.call = y.call) (h1 : x.reply = y.reply) : x = y := by
  cases x; cases y; simp only at *; subst_vars; rfl
set_option maxHeartbeats 2000000 in
theorem eqWait_n (w : World) {x y : Wait} {cs ds : List Value} {fp gp : List Nat} (hc : Shape.C w cs x fp) (hd : Shape.C w ds y gp) :
    Calls Try.prog 66 #[.agg cs.toArray, .agg ds.toArray] w fun e w' => e = .returned (.bool (eqB x y)) ∧ St w w' [] := by
  refine enter2 Try.func66 rfl Try.ntmps66 (by decide) ?_
  refine wp_seq ?_
  refine sx_region ?_
  refine sx rfl (stp_box_agg (cs := cs) rfl (St.start w) ?_); intro b1 W2 hb3 st4
  refine sx rfl (stp_box_agg (cs := ds) rfl st4 ?_); intro b6 W7 hb8 st9
  refine sx rfl (stp_assign (v := .bool false) rfl ?_)
  refine sx_nil ?_
  refine wp_seq ?_
  refine wp_seq ?_
  refine sx_region ?_
  refine sx rfl (stp_fieldAddr fa_Wait_0 rfl ?_)
  have hk11 := hc
  obtain ⟨he11, rfl, hok11⟩ := hk11
  have he11 : _ = [I x.call, I x.reply.code, I x.reply.run, I x.reply.task, I x.reply.try_] := he11
  subst he11
  refine sx rfl (stp_load_bx ld_int rfl rfl (st9.get 1 rfl) (i := 0) rfl rfl ?_)
  refine sx rfl (stp_fieldAddr fa_Wait_0 rfl ?_)
  have hk12 := hd
  obtain ⟨he12, rfl, hok12⟩ := hk12
  have he12 : _ = [I y.call, I y.reply.code, I y.reply.run, I y.reply.task, I y.reply.try_] := he12
  subst he12
  refine sx rfl (stp_load_bx ld_int rfl rfl (st9.get 0 rfl) (i := 0) rfl rfl ?_)
  refine sx rfl (stp_neq rfl rfl ?_)
  refine sx_nil ?_
  refine sx_if rfl (fun h13 => ?_) (fun h13 => ?_)
  · skip
    have h13p := of_decide_eq_false (bnot_t h13)
    refine wp_seq ?_
    refine sx_region ?_
    refine sx rfl (stp_assign (v := .bool false) rfl ?_)
    refine sx_nil ?_
    refine wp_ret ?_; repeat (first | refine then_ret ?_ | refine blk_ret ?_)
    refine ret1 Try.results66 rfl ?_
    exact ⟨congrArg (fun z => Ending.returned (.bool z)) (eqB_f (fun e => by subst e; first | exact h13p rfl | exact absurd (bnot_t h13) (by rw [eqB_t rfl]; decide) | exact absurd (bnot_t h13) (by simp))).symm, st9.bare⟩
  · skip
    have h13p := of_decide_eq_true (bnot_f h13)
    refine wp_skip ?_
    refine wp_seq ?_
    refine wp_seq ?_
    refine sx_region ?_
    refine sx rfl (stp_fieldAddr fa_Wait_1 rfl ?_)
    refine sx rfl (stp_load_bxs (cs := [I x.reply.code, I x.reply.run, I x.reply.task, I x.reply.try_]) ld_Reply rfl rfl (st9.get 1 rfl) rfl rfl ?_)
    refine sx rfl (stp_fieldAddr fa_Wait_1 rfl ?_)
    refine sx rfl (stp_load_bxs (cs := [I y.reply.code, I y.reply.run, I y.reply.task, I y.reply.try_]) ld_Reply rfl rfl (st9.get 0 rfl) rfl rfl ?_)
    refine sx rfl (stp_call2 Try.func70 rfl rfl rfl ((eqReply_n W7 (show Shape.C _ [I x.reply.code, I x.reply.run, I x.reply.task, I x.reply.try_] x.reply [] from ⟨rfl, rfl, (by first | exact True.intro | (simp only [Edge.ok, Plan.ok, Entry.ok, Task.ok, Run.ok, Yard.ok, Reply.ok, Deed.ok, Note.ok, Wait.ok, File.ok, Disk.ok, Engine.ok, WorldD.ok, ActD.ok, Hand.ok, Span.ok, Crew.ok, View.ok, I64] at *; omega))⟩) (show Shape.C _ [I y.reply.code, I y.reply.run, I y.reply.task, I y.reply.try_] y.reply [] from ⟨rfl, rfl, (by first | exact True.intro | (simp only [Edge.ok, Plan.ok, Entry.ok, Task.ok, Run.ok, Yard.ok, Reply.ok, Deed.ok, Note.ok, Wait.ok, File.ok, Disk.ok, Engine.ok, WorldD.ok, ActD.ok, Hand.ok, Span.ok, Crew.ok, View.ok, I64] at *; omega))⟩)).mono ?_)); rintro _ W14 ⟨rfl, hk15⟩; refine ⟨_, rfl, ?_⟩
    have st16 := St.call st9 hk15
    refine sx rfl (stp_not rfl ?_)
    refine sx_nil ?_
    refine sx_if rfl (fun h18 => ?_) (fun h18 => ?_)
    · skip
      refine wp_seq ?_
      refine sx_region ?_
      refine sx rfl (stp_assign (v := .bool false) rfl ?_)
      refine sx_nil ?_
      refine wp_ret ?_; repeat (first | refine then_ret ?_ | refine blk_ret ?_)
      refine ret1 Try.results66 rfl ?_
      exact ⟨congrArg (fun z => Ending.returned (.bool z)) (eqB_f (fun e => by subst e; first | exact absurd (bnot_t h18) (by rw [eqB_t rfl]; decide) | exact absurd (bnot_t h18) (by simp))).symm, st16.bare⟩
    · skip
      refine wp_skip ?_
      refine wp_seq ?_
      refine sx_region ?_
      refine sx rfl (stp_assign (v := .bool true) rfl ?_)
      refine sx_nil ?_
      refine wp_ret ?_; repeat (first | refine then_ret ?_ | refine blk_ret ?_)
      refine ret1 Try.results66 rfl ?_
      exact ⟨congrArg (fun z => Ending.returned (.bool z)) (eqB_t (Wait_ext h13p (eqB_iff.1 (bnot_f h18)))).symm, st16.bare⟩
set_option maxHeartbeats 2000000 in
theorem eqWaitS_n (w : World) {v u : Value} {xs ys : List Wait} {fp gp : List Nat} (h : Sl w v xs fp) (g : Sl w u ys gp) :
    Calls Try.prog 42 #[v, u] w fun e w' => e = .returned (.bool (eqB xs ys)) ∧ St w w' [] := by
  have hcap := h.len_le
  have hcap2 := g.len_le
  refine enter2 Try.func42 rfl Try.ntmps42 (by decide) ?_
  refine wp_seq ?_
  refine sx_region ?_
  refine sx rfl (stp_assign (v := .bool false) rfl ?_)
  refine sx_nil ?_
  refine wp_seq ?_
  refine wp_seq ?_
  refine sx_region ?_
  refine sx rfl (stp_move (v := v) rfl ?_)
  refine sx rfl (stp_len sl_WaitS rfl h ?_)
  refine sx rfl (stp_move (v := u) rfl ?_)
  refine sx rfl (stp_len sl_WaitS rfl g ?_)
  refine sx rfl (stp_neq rfl rfl ?_)
  refine sx_nil ?_
  refine sx_if rfl (fun h1 => ?_) (fun h1 => ?_)
  · skip
    have h1p := of_decide_eq_false (bnot_t h1)
    refine wp_seq ?_
    refine sx_region ?_
    refine sx rfl (stp_assign (v := .bool false) rfl ?_)
    refine sx_nil ?_
    refine wp_ret ?_; repeat (first | refine then_ret ?_ | refine blk_ret ?_)
    refine ret1 Try.results42 rfl ?_
    exact ⟨congrArg (fun z => Ending.returned (.bool z)) (eqB_f (fun e => h1p (by rw [e]))).symm, (St.start w).bare⟩
  · skip
    have h1p := of_decide_eq_true (bnot_f h1)
    refine wp_skip ?_
    refine wp_seq ?_
    refine wp_seq ?_
    refine sx_region ?_
    refine sx rfl (stp_assign (v := I 0) rfl ?_)
    refine sx_nil ?_
    refine wp_block ?_
    refine sx_loop (fun (m : Nat) (f : Nat → Value) (W : World) => ∃ (k : Nat), k ≤ xs.length ∧ xs.take k = ys.take k ∧ m = xs.length - k ∧ f 0 = v ∧ f 1 = u ∧ f 5 = I (k : Int) ∧ St w W ([])) (xs.length - 0) ?_ ?_
    · exact ⟨0, Nat.zero_le _, rfl, rfl, rfl, rfl, rfl, (St.start w)⟩
    intro m2 f3 W4 hJ5
    obtain ⟨k, hk, htk, rfl, hs7_0, hs7_1, hs7_5, st6⟩ := hJ5
    refine wp_seq ?_
    refine wp_seq ?_
    refine sx_region ?_
    refine sx rfl (stp_move (v := I (k : Int)) hs7_5 ?_)
    refine sx rfl (stp_move (v := v) hs7_0 ?_)
    refine sx rfl (stp_len sl_WaitS rfl h ?_)
    refine sx rfl (stp_lss rfl rfl ?_)
    refine sx_nil ?_
    refine sx_if rfl (fun h8 => ?_) (fun h8 => ?_)
    · skip
      have h8p := of_decide_eq_true h8
      refine wp_skip ?_
      refine wp_seq ?_
      refine wp_block ?_
      refine wp_seq ?_
      have hi51fab : k < xs.length := (by omega)
      have hq_ := idx h (i := k) hi51fab
      obtain ⟨b9, o9, cs9, f9, hp9, hr9, hc9, hm9⟩ := hq_
      have hk10 := hc9
      obtain ⟨he10, rfl, hok10⟩ := hk10
      have he10 : _ = [I (xs[k]'hi51fab).call, I (xs[k]'hi51fab).reply.code, I (xs[k]'hi51fab).reply.run, I (xs[k]'hi51fab).reply.task, I (xs[k]'hi51fab).reply.try_] := he10
      subst he10
      have hi28e79 : k < ys.length := (by omega)
      have hq_ := idx g (i := k) hi28e79
      obtain ⟨b11, o11, cs11, f11, hp11, hr11, hc11, hm11⟩ := hq_
      have hk12 := hc11
      obtain ⟨he12, rfl, hok12⟩ := hk12
      have he12 : _ = [I (ys[k]'hi28e79).call, I (ys[k]'hi28e79).reply.code, I (ys[k]'hi28e79).reply.run, I (ys[k]'hi28e79).reply.task, I (ys[k]'hi28e79).reply.try_] := he12
      subst he12
      refine sx_any [Pl.is (v) (Sl.yl h), Pl.is (I (k : Int)), Pl.is (.pointer (some ⟨b9, o9, none⟩)), Pl.is (.agg #[I (xs[k]'hi51fab).call, I (xs[k]'hi51fab).reply.code, I (xs[k]'hi51fab).reply.run, I (xs[k]'hi51fab).reply.task, I (xs[k]'hi51fab).reply.try_]), Pl.is (u) (Sl.yl g), Pl.is (I (k : Int)), Pl.is (.pointer (some ⟨b11, o11, none⟩)), Pl.is (.agg #[I (ys[k]'hi28e79).call, I (ys[k]'hi28e79).reply.code, I (ys[k]'hi28e79).reply.run, I (ys[k]'hi28e79).reply.task, I (ys[k]'hi28e79).reply.try_]), Pl.bool (eqB (xs[k]'hi51fab) (ys[k]'hi28e79)), Pl.bool (!(eqB (xs[k]'hi51fab) (ys[k]'hi28e79)))] mix (by rfl) st6 ⟨(fun f W hst hbl hd hf => stp_move (v := v) ((hf 0 rfl).trans hs7_0) ⟨Below.refl _ _, rfl⟩), (fun f W hst hbl hd hf => stp_move (v := I (k : Int)) ((hf 5 rfl).trans hs7_5) ⟨Below.refl _ _, rfl⟩), (fun f W hst hbl hd hf => stp_indexAddr sl_WaitS (hd 0 17 rfl rfl) hp9 (hd 1 18 rfl rfl) rfl ⟨Below.refl _ _, rfl⟩), (fun f W hst hbl hd hf => stp_load_rgs (cs := [I (xs[k]'hi51fab).call, I (xs[k]'hi51fab).reply.code, I (xs[k]'hi51fab).reply.run, I (xs[k]'hi51fab).reply.task, I (xs[k]'hi51fab).reply.try_]) ld_Wait rfl (hd 2 19 rfl rfl) hr9 hst.below (i := 0) rfl rfl rfl ⟨Below.refl _ _, rfl⟩), (fun f W hst hbl hd hf => stp_move (v := u) ((hf 1 rfl).trans hs7_1) ⟨Below.refl _ _, rfl⟩), (fun f W hst hbl hd hf => stp_move (v := I (k : Int)) ((hf 5 rfl).trans hs7_5) ⟨Below.refl _ _, rfl⟩), (fun f W hst hbl hd hf => stp_indexAddr sl_WaitS (hd 4 21 rfl rfl) hp11 (hd 5 22 rfl rfl) rfl ⟨Below.refl _ _, rfl⟩), (fun f W hst hbl hd hf => stp_load_rgs (cs := [I (ys[k]'hi28e79).call, I (ys[k]'hi28e79).reply.code, I (ys[k]'hi28e79).reply.run, I (ys[k]'hi28e79).reply.task, I (ys[k]'hi28e79).reply.try_]) ld_Wait rfl (hd 6 23 rfl rfl) hr11 hst.below (i := 0) rfl rfl rfl ⟨Below.refl _ _, rfl⟩), (fun f W hst hbl hd hf => stp_call2 Try.func66 rfl (hd 3 20 rfl rfl) (hd 7 24 rfl rfl) ((eqWait_n W hc9 hc11).mono (by rintro e W2 ⟨rfl, hk⟩; exact ⟨_, rfl, hk.below, rfl⟩))), (fun f W hst hbl hd hf => stp_not (hd 8 25 rfl rfl) ⟨Below.refl _ _, rfl⟩), trivial⟩ ?_
      intro f13 W14 st15 hb16 hv17 hf18
      refine sx_if (hv17 9 26 (by decide) rfl) (fun h19 => ?_) (fun h19 => ?_)
      · skip
        refine wp_seq ?_
        refine sx_region ?_
        refine sx rfl (stp_assign (v := .bool false) rfl ?_)
        refine sx_nil ?_
        refine wp_ret ?_; repeat (first | refine then_ret ?_ | refine blk_ret ?_)
        refine ret1 Try.results42 rfl ?_
        have hne : ¬ xs[k] = ys[k]'(by omega) := fun e => absurd (bnot_t h19) (by rw [eqB_t e]; decide)
        exact ⟨congrArg (fun z => Ending.returned (.bool z)) (eqB_f (fun e => hne (by subst e; rfl))).symm, st15.bare⟩
      · skip
        refine wp_skip ?_
        refine sx_region ?_
        refine sx rfl (stp_move (v := I (k : Int)) ((hf18 5 rfl).trans hs7_5) ?_)
        refine sx rfl (stp_add rfl rfl (by (simp only [I64] at *; omega)) ?_)
        refine sx rfl (stp_assign (v := I ((k : Int) + 1)) rfl ?_)
        refine sx_nil ?_
        exact ⟨_, xs.length - (k + 1), (by omega), rfl, k + 1, (by omega), (take_eq_succ (by omega) (by omega) htk (eqB_iff.1 (bnot_f h19))), rfl, ((hf18 0 rfl).trans hs7_0), ((hf18 1 rfl).trans hs7_1), rfl, st15⟩
    · skip
      have h8p := of_decide_eq_false h8
      refine wp_exit ?_
      refine wp_seq ?_
      refine sx_region ?_
      refine sx rfl (stp_assign (v := .bool true) rfl ?_)
      refine sx_nil ?_
      refine wp_ret ?_; repeat (first | refine then_ret ?_ | refine blk_ret ?_)
      refine ret1 Try.results42 rfl ?_
      obtain rfl : k = xs.length := by omega
      rw [List.take_length, List.take_of_length_le (by omega)] at htk
      exact ⟨congrArg (fun z => Ending.returned (.bool z)) (eqB_t htk).symm, st6.bare⟩
theorem File_ext {x y : File} (h0 : x.name = y.name) (h1 : x.data = y.data) (h2 : x.safe = y.safe) : x = y := by
  cases x; cases y; simp only at *; subst_vars; rfl
set_option maxHeartbeats 2000000 in
theorem eqFile_n (w : World) {x y : File} {cs ds : List Value} {fp gp : List Nat} (hc : Shape.C w cs x fp) (hd : Shape.C w ds y gp) :
    Calls Try.prog 88 #[.agg cs.toArray, .agg ds.toArray] w fun e w' => e = .returned (.bool (eqB x y)) ∧ St w w' [] := by
  refine enter2 Try.func88 rfl Try.ntmps88 (by decide) ?_
  refine wp_seq ?_
  refine sx_region ?_
  refine sx rfl (stp_box_agg (cs := cs) rfl (St.start w) ?_); intro b1 W2 hb3 st4
  refine sx rfl (stp_box_agg (cs := ds) rfl st4 ?_); intro b6 W7 hb8 st9
  refine sx rfl (stp_assign (v := .bool false) rfl ?_)
  refine sx_nil ?_
  refine wp_seq ?_
  refine wp_seq ?_
  refine sx_region ?_
  refine sx rfl (stp_fieldAddr fa_File_0 rfl ?_)
  have hk11 := hc
  obtain ⟨he11, rfl, hok11⟩ := hk11
  have he11 : _ = [.string x.name, .string x.data, I x.safe] := he11
  subst he11
  refine sx rfl (stp_load_bx ld_string rfl rfl (st9.get 1 rfl) (i := 0) rfl rfl ?_)
  refine sx rfl (stp_fieldAddr fa_File_0 rfl ?_)
  have hk12 := hd
  obtain ⟨he12, rfl, hok12⟩ := hk12
  have he12 : _ = [.string y.name, .string y.data, I y.safe] := he12
  subst he12
  refine sx rfl (stp_load_bx ld_string rfl rfl (st9.get 0 rfl) (i := 0) rfl rfl ?_)
  refine sx rfl (stp_sneq rfl rfl ?_)
  refine sx_nil ?_
  refine sx_if rfl (fun h13 => ?_) (fun h13 => ?_)
  · skip
    have h13p := of_decide_eq_false (bnot_t h13)
    refine wp_seq ?_
    refine sx_region ?_
    refine sx rfl (stp_assign (v := .bool false) rfl ?_)
    refine sx_nil ?_
    refine wp_ret ?_; repeat (first | refine then_ret ?_ | refine blk_ret ?_)
    refine ret1 Try.results88 rfl ?_
    exact ⟨congrArg (fun z => Ending.returned (.bool z)) (eqB_f (fun e => by subst e; first | exact h13p rfl | exact absurd (bnot_t h13) (by rw [eqB_t rfl]; decide) | exact absurd (bnot_t h13) (by simp))).symm, st9.bare⟩
  · skip
    have h13p := of_decide_eq_true (bnot_f h13)
    refine wp_skip ?_
    refine wp_seq ?_
    refine wp_seq ?_
    refine sx_region ?_
    refine sx rfl (stp_fieldAddr fa_File_1 rfl ?_)
    refine sx rfl (stp_load_bx ld_string rfl rfl (st9.get 1 rfl) (i := 1) rfl rfl ?_)
    refine sx rfl (stp_fieldAddr fa_File_1 rfl ?_)
    refine sx rfl (stp_load_bx ld_string rfl rfl (st9.get 0 rfl) (i := 1) rfl rfl ?_)
    refine sx rfl (stp_sneq rfl rfl ?_)
    refine sx_nil ?_
    refine sx_if rfl (fun h14 => ?_) (fun h14 => ?_)
    · skip
      have h14p := of_decide_eq_false (bnot_t h14)
      refine wp_seq ?_
      refine sx_region ?_
      refine sx rfl (stp_assign (v := .bool false) rfl ?_)
      refine sx_nil ?_
      refine wp_ret ?_; repeat (first | refine then_ret ?_ | refine blk_ret ?_)
      refine ret1 Try.results88 rfl ?_
      exact ⟨congrArg (fun z => Ending.returned (.bool z)) (eqB_f (fun e => by subst e; first | exact h14p rfl | exact absurd (bnot_t h14) (by rw [eqB_t rfl]; decide) | exact absurd (bnot_t h14) (by simp))).symm, st9.bare⟩
    · skip
      have h14p := of_decide_eq_true (bnot_f h14)
      refine wp_skip ?_
      refine wp_seq ?_
      refine wp_seq ?_
      refine sx_region ?_
      refine sx rfl (stp_fieldAddr fa_File_2 rfl ?_)
      refine sx rfl (stp_load_bx ld_int rfl rfl (st9.get 1 rfl) (i := 2) rfl rfl ?_)
      refine sx rfl (stp_fieldAddr fa_File_2 rfl ?_)
      refine sx rfl (stp_load_bx ld_int rfl rfl (st9.get 0 rfl) (i := 2) rfl rfl ?_)
      refine sx rfl (stp_neq rfl rfl ?_)
      refine sx_nil ?_
      refine sx_if rfl (fun h15 => ?_) (fun h15 => ?_)
      · skip
        have h15p := of_decide_eq_false (bnot_t h15)
        refine wp_seq ?_
        refine sx_region ?_
        refine sx rfl (stp_assign (v := .bool false) rfl ?_)
        refine sx_nil ?_
        refine wp_ret ?_; repeat (first | refine then_ret ?_ | refine blk_ret ?_)
        refine ret1 Try.results88 rfl ?_
        exact ⟨congrArg (fun z => Ending.returned (.bool z)) (eqB_f (fun e => by subst e; first | exact h15p rfl | exact absurd (bnot_t h15) (by rw [eqB_t rfl]; decide) | exact absurd (bnot_t h15) (by simp))).symm, st9.bare⟩
      · skip
        have h15p := of_decide_eq_true (bnot_f h15)
        refine wp_skip ?_
        refine wp_seq ?_
        refine sx_region ?_
        refine sx rfl (stp_assign (v := .bool true) rfl ?_)
        refine sx_nil ?_
        refine wp_ret ?_; repeat (first | refine then_ret ?_ | refine blk_ret ?_)
        refine ret1 Try.results88 rfl ?_
        exact ⟨congrArg (fun z => Ending.returned (.bool z)) (eqB_t (File_ext h13p h14p h15p)).symm, st9.bare⟩
set_option maxHeartbeats 2000000 in
theorem eqFileS_n (w : World) {v u : Value} {xs ys : List File} {fp gp : List Nat} (h : Sl w v xs fp) (g : Sl w u ys gp) :
    Calls Try.prog 65 #[v, u] w fun e w' => e = .returned (.bool (eqB xs ys)) ∧ St w w' [] := by
  have hcap := h.len_le
  have hcap2 := g.len_le
  refine enter2 Try.func65 rfl Try.ntmps65 (by decide) ?_
  refine wp_seq ?_
  refine sx_region ?_
  refine sx rfl (stp_assign (v := .bool false) rfl ?_)
  refine sx_nil ?_
  refine wp_seq ?_
  refine wp_seq ?_
  refine sx_region ?_
  refine sx rfl (stp_move (v := v) rfl ?_)
  refine sx rfl (stp_len sl_FileS rfl h ?_)
  refine sx rfl (stp_move (v := u) rfl ?_)
  refine sx rfl (stp_len sl_FileS rfl g ?_)
  refine sx rfl (stp_neq rfl rfl ?_)
  refine sx_nil ?_
  refine sx_if rfl (fun h1 => ?_) (fun h1 => ?_)
  · skip
    have h1p := of_decide_eq_false (bnot_t h1)
    refine wp_seq ?_
    refine sx_region ?_
    refine sx rfl (stp_assign (v := .bool false) rfl ?_)
    refine sx_nil ?_
    refine wp_ret ?_; repeat (first | refine then_ret ?_ | refine blk_ret ?_)
    refine ret1 Try.results65 rfl ?_
    exact ⟨congrArg (fun z => Ending.returned (.bool z)) (eqB_f (fun e => h1p (by rw [e]))).symm, (St.start w).bare⟩
  · skip
    have h1p := of_decide_eq_true (bnot_f h1)
    refine wp_skip ?_
    refine wp_seq ?_
    refine wp_seq ?_
    refine sx_region ?_
    refine sx rfl (stp_assign (v := I 0) rfl ?_)
    refine sx_nil ?_
    refine wp_block ?_
    refine sx_loop (fun (m : Nat) (f : Nat → Value) (W : World) => ∃ (k : Nat), k ≤ xs.length ∧ xs.take k = ys.take k ∧ m = xs.length - k ∧ f 0 = v ∧ f 1 = u ∧ f 5 = I (k : Int) ∧ St w W ([])) (xs.length - 0) ?_ ?_
    · exact ⟨0, Nat.zero_le _, rfl, rfl, rfl, rfl, rfl, (St.start w)⟩
    intro m2 f3 W4 hJ5
    obtain ⟨k, hk, htk, rfl, hs7_0, hs7_1, hs7_5, st6⟩ := hJ5
    refine wp_seq ?_
    refine wp_seq ?_
    refine sx_region ?_
    refine sx rfl (stp_move (v := I (k : Int)) hs7_5 ?_)
    refine sx rfl (stp_move (v := v) hs7_0 ?_)
    refine sx rfl (stp_len sl_FileS rfl h ?_)
    refine sx rfl (stp_lss rfl rfl ?_)
    refine sx_nil ?_
    refine sx_if rfl (fun h8 => ?_) (fun h8 => ?_)
    · skip
      have h8p := of_decide_eq_true h8
      refine wp_skip ?_
      refine wp_seq ?_
      refine wp_block ?_
      refine wp_seq ?_
      have hi51fab : k < xs.length := (by omega)
      have hq_ := idx h (i := k) hi51fab
      obtain ⟨b9, o9, cs9, f9, hp9, hr9, hc9, hm9⟩ := hq_
      have hk10 := hc9
      obtain ⟨he10, rfl, hok10⟩ := hk10
      have he10 : _ = [.string (xs[k]'hi51fab).name, .string (xs[k]'hi51fab).data, I (xs[k]'hi51fab).safe] := he10
      subst he10
      have hi28e79 : k < ys.length := (by omega)
      have hq_ := idx g (i := k) hi28e79
      obtain ⟨b11, o11, cs11, f11, hp11, hr11, hc11, hm11⟩ := hq_
      have hk12 := hc11
      obtain ⟨he12, rfl, hok12⟩ := hk12
      have he12 : _ = [.string (ys[k]'hi28e79).name, .string (ys[k]'hi28e79).data, I (ys[k]'hi28e79).safe] := he12
      subst he12
      refine sx_any [Pl.is (v) (Sl.yl h), Pl.is (I (k : Int)), Pl.is (.pointer (some ⟨b9, o9, none⟩)), Pl.is (.agg #[.string (xs[k]'hi51fab).name, .string (xs[k]'hi51fab).data, I (xs[k]'hi51fab).safe]), Pl.is (u) (Sl.yl g), Pl.is (I (k : Int)), Pl.is (.pointer (some ⟨b11, o11, none⟩)), Pl.is (.agg #[.string (ys[k]'hi28e79).name, .string (ys[k]'hi28e79).data, I (ys[k]'hi28e79).safe]), Pl.bool (eqB (xs[k]'hi51fab) (ys[k]'hi28e79)), Pl.bool (!(eqB (xs[k]'hi51fab) (ys[k]'hi28e79)))] mix (by rfl) st6 ⟨(fun f W hst hbl hd hf => stp_move (v := v) ((hf 0 rfl).trans hs7_0) ⟨Below.refl _ _, rfl⟩), (fun f W hst hbl hd hf => stp_move (v := I (k : Int)) ((hf 5 rfl).trans hs7_5) ⟨Below.refl _ _, rfl⟩), (fun f W hst hbl hd hf => stp_indexAddr sl_FileS (hd 0 17 rfl rfl) hp9 (hd 1 18 rfl rfl) rfl ⟨Below.refl _ _, rfl⟩), (fun f W hst hbl hd hf => stp_load_rgs (cs := [.string (xs[k]'hi51fab).name, .string (xs[k]'hi51fab).data, I (xs[k]'hi51fab).safe]) ld_File rfl (hd 2 19 rfl rfl) hr9 hst.below (i := 0) rfl rfl rfl ⟨Below.refl _ _, rfl⟩), (fun f W hst hbl hd hf => stp_move (v := u) ((hf 1 rfl).trans hs7_1) ⟨Below.refl _ _, rfl⟩), (fun f W hst hbl hd hf => stp_move (v := I (k : Int)) ((hf 5 rfl).trans hs7_5) ⟨Below.refl _ _, rfl⟩), (fun f W hst hbl hd hf => stp_indexAddr sl_FileS (hd 4 21 rfl rfl) hp11 (hd 5 22 rfl rfl) rfl ⟨Below.refl _ _, rfl⟩), (fun f W hst hbl hd hf => stp_load_rgs (cs := [.string (ys[k]'hi28e79).name, .string (ys[k]'hi28e79).data, I (ys[k]'hi28e79).safe]) ld_File rfl (hd 6 23 rfl rfl) hr11 hst.below (i := 0) rfl rfl rfl ⟨Below.refl _ _, rfl⟩), (fun f W hst hbl hd hf => stp_call2 Try.func88 rfl (hd 3 20 rfl rfl) (hd 7 24 rfl rfl) ((eqFile_n W hc9 hc11).mono (by rintro e W2 ⟨rfl, hk⟩; exact ⟨_, rfl, hk.below, rfl⟩))), (fun f W hst hbl hd hf => stp_not (hd 8 25 rfl rfl) ⟨Below.refl _ _, rfl⟩), trivial⟩ ?_
      intro f13 W14 st15 hb16 hv17 hf18
      refine sx_if (hv17 9 26 (by decide) rfl) (fun h19 => ?_) (fun h19 => ?_)
      · skip
        refine wp_seq ?_
        refine sx_region ?_
        refine sx rfl (stp_assign (v := .bool false) rfl ?_)
        refine sx_nil ?_
        refine wp_ret ?_; repeat (first | refine then_ret ?_ | refine blk_ret ?_)
        refine ret1 Try.results65 rfl ?_
        have hne : ¬ xs[k] = ys[k]'(by omega) := fun e => absurd (bnot_t h19) (by rw [eqB_t e]; decide)
        exact ⟨congrArg (fun z => Ending.returned (.bool z)) (eqB_f (fun e => hne (by subst e; rfl))).symm, st15.bare⟩
      · skip
        refine wp_skip ?_
        refine sx_region ?_
        refine sx rfl (stp_move (v := I (k : Int)) ((hf18 5 rfl).trans hs7_5) ?_)
        refine sx rfl (stp_add rfl rfl (by (simp only [I64] at *; omega)) ?_)
        refine sx rfl (stp_assign (v := I ((k : Int) + 1)) rfl ?_)
        refine sx_nil ?_
        exact ⟨_, xs.length - (k + 1), (by omega), rfl, k + 1, (by omega), (take_eq_succ (by omega) (by omega) htk (eqB_iff.1 (bnot_f h19))), rfl, ((hf18 0 rfl).trans hs7_0), ((hf18 1 rfl).trans hs7_1), rfl, st15⟩
    · skip
      have h8p := of_decide_eq_false h8
      refine wp_exit ?_
      refine wp_seq ?_
      refine sx_region ?_
      refine sx rfl (stp_assign (v := .bool true) rfl ?_)
      refine sx_nil ?_
      refine wp_ret ?_; repeat (first | refine then_ret ?_ | refine blk_ret ?_)
      refine ret1 Try.results65 rfl ?_
      obtain rfl : k = xs.length := by omega
      rw [List.take_length, List.take_of_length_le (by omega)] at htk
      exact ⟨congrArg (fun z => Ending.returned (.bool z)) (eqB_t htk).symm, st6.bare⟩
theorem Disk_ext {x y : Disk} (h0 : x.files = y.files) : x = y := by
  cases x; cases y; simp only at *; subst_vars; rfl
set_option maxHeartbeats 2000000 in
theorem eqDisk_n (w : World) {x y : Disk} {cs ds : List Value} {fp gp : List Nat} (hc : Shape.C w cs x fp) (hd : Shape.C w ds y gp) :
    Calls Try.prog 41 #[.agg cs.toArray, .agg ds.toArray] w fun e w' => e = .returned (.bool (eqB x y)) ∧ St w w' [] := by
  refine enter2 Try.func41 rfl Try.ntmps41 (by decide) ?_
  refine wp_seq ?_
  refine sx_region ?_
  refine sx rfl (stp_box_agg (cs := cs) rfl (St.start w) ?_); intro b1 W2 hb3 st4
  refine sx rfl (stp_box_agg (cs := ds) rfl st4 ?_); intro b6 W7 hb8 st9
  refine sx rfl (stp_assign (v := .bool false) rfl ?_)
  refine sx_nil ?_
  refine wp_seq ?_
  refine wp_seq ?_
  refine sx_region ?_
  refine sx rfl (stp_fieldAddr fa_Disk_0 rfl ?_)
  have hk11 := hc
  obtain ⟨v11_0, g11_0, rfl, hok11, h11_0, rfl⟩ := hk11
  refine sx rfl (stp_load_bx ld_FileS rfl rfl (st9.get 1 rfl) (i := 0) rfl rfl ?_)
  refine sx rfl (stp_fieldAddr fa_Disk_0 rfl ?_)
  have hk12 := hd
  obtain ⟨v12_0, g12_0, rfl, hok12, h12_0, rfl⟩ := hk12
  refine sx rfl (stp_load_bx ld_FileS rfl rfl (st9.get 0 rfl) (i := 0) rfl rfl ?_)
  refine sx rfl (stp_call2 Try.func65 rfl rfl rfl ((eqFileS_n W7 (h11_0.below st9.below) (h12_0.below st9.below)).mono ?_)); rintro _ W13 ⟨rfl, hk14⟩; refine ⟨_, rfl, ?_⟩
  have st15 := St.call st9 hk14
  refine sx rfl (stp_not rfl ?_)
  refine sx_nil ?_
  refine sx_if rfl (fun h17 => ?_) (fun h17 => ?_)
  · skip
    refine wp_seq ?_
    refine sx_region ?_
    refine sx rfl (stp_assign (v := .bool false) rfl ?_)
    refine sx_nil ?_
    refine wp_ret ?_; repeat (first | refine then_ret ?_ | refine blk_ret ?_)
    refine ret1 Try.results41 rfl ?_
    exact ⟨congrArg (fun z => Ending.returned (.bool z)) (eqB_f (fun e => by subst e; first | exact absurd (bnot_t h17) (by rw [eqB_t rfl]; decide) | exact absurd (bnot_t h17) (by simp))).symm, st15.bare⟩
  · skip
    refine wp_skip ?_
    refine wp_seq ?_
    refine sx_region ?_
    refine sx rfl (stp_assign (v := .bool true) rfl ?_)
    refine sx_nil ?_
    refine wp_ret ?_; repeat (first | refine then_ret ?_ | refine blk_ret ?_)
    refine ret1 Try.results41 rfl ?_
    exact ⟨congrArg (fun z => Ending.returned (.bool z)) (eqB_t (Disk_ext (eqB_iff.1 (bnot_f h17)))).symm, st15.bare⟩
theorem Engine_ext {x y : Engine} (h0 : x.yard = y.yard) (h1 : x.disk = y.disk) (h2 : x.next = y.next) (h3 : x.calls = y.calls) (h4 : x.waits = y.waits) (h5 : x.state = y.state) (h6 : x.broken = y.broken) : x = y := by
  cases x; cases y; simp only at *; subst_vars; rfl
set_option maxHeartbeats 2000000 in
theorem eqEngine_n (w : World) {x y : Engine} {cs ds : List Value} {fp gp : List Nat} (hc : Shape.C w cs x fp) (hd : Shape.C w ds y gp) :
    Calls Try.prog 19 #[.agg cs.toArray, .agg ds.toArray] w fun e w' => e = .returned (.bool (eqB x y)) ∧ St w w' [] := by
  refine enter2 Try.func19 rfl Try.ntmps19 (by decide) ?_
  refine wp_seq ?_
  refine sx_region ?_
  refine sx rfl (stp_box_agg (cs := cs) rfl (St.start w) ?_); intro b1 W2 hb3 st4
  refine sx rfl (stp_box_agg (cs := ds) rfl st4 ?_); intro b6 W7 hb8 st9
  refine sx rfl (stp_assign (v := .bool false) rfl ?_)
  refine sx_nil ?_
  refine wp_seq ?_
  refine wp_seq ?_
  refine sx_region ?_
  refine sx rfl (stp_fieldAddr fa_Engine_0 rfl ?_)
  have hk11 := hc
  obtain ⟨v11_0, v11_1, v11_2, v11_3, g11_0, g11_1, g11_2, g11_3, rfl, hok11, h11_0, h11_1, h11_2, h11_3, rfl⟩ := hk11
  refine sx rfl (stp_load_bxs (cs := [I x.yard.now, I x.yard.seq, v11_0, v11_1]) ld_Yard rfl rfl (st9.get 1 rfl) rfl rfl ?_)
  refine sx rfl (stp_fieldAddr fa_Engine_0 rfl ?_)
  have hk12 := hd
  obtain ⟨v12_0, v12_1, v12_2, v12_3, g12_0, g12_1, g12_2, g12_3, rfl, hok12, h12_0, h12_1, h12_2, h12_3, rfl⟩ := hk12
  refine sx rfl (stp_load_bxs (cs := [I y.yard.now, I y.yard.seq, v12_0, v12_1]) ld_Yard rfl rfl (st9.get 0 rfl) rfl rfl ?_)
  refine sx rfl (stp_call2 Try.func11 rfl rfl rfl ((eqYard_n W7 (show Shape.C _ [I x.yard.now, I x.yard.seq, v11_0, v11_1] x.yard _ from ⟨_, _, _, _, rfl, (by first | exact True.intro | (simp only [Edge.ok, Plan.ok, Entry.ok, Task.ok, Run.ok, Yard.ok, Reply.ok, Deed.ok, Note.ok, Wait.ok, File.ok, Disk.ok, Engine.ok, WorldD.ok, ActD.ok, Hand.ok, Span.ok, Crew.ok, View.ok, I64] at *; omega)), (h11_0.below st9.below), (h11_1.below st9.below), rfl⟩) (show Shape.C _ [I y.yard.now, I y.yard.seq, v12_0, v12_1] y.yard _ from ⟨_, _, _, _, rfl, (by first | exact True.intro | (simp only [Edge.ok, Plan.ok, Entry.ok, Task.ok, Run.ok, Yard.ok, Reply.ok, Deed.ok, Note.ok, Wait.ok, File.ok, Disk.ok, Engine.ok, WorldD.ok, ActD.ok, Hand.ok, Span.ok, Crew.ok, View.ok, I64] at *; omega)), (h12_0.below st9.below), (h12_1.below st9.below), rfl⟩)).mono ?_)); rintro _ W13 ⟨rfl, hk14⟩; refine ⟨_, rfl, ?_⟩
  have st15 := St.call st9 hk14
  refine sx rfl (stp_not rfl ?_)
  refine sx_nil ?_
  refine sx_if rfl (fun h17 => ?_) (fun h17 => ?_)
  · skip
    refine wp_seq ?_
    refine sx_region ?_
    refine sx rfl (stp_assign (v := .bool false) rfl ?_)
    refine sx_nil ?_
    refine wp_ret ?_; repeat (first | refine then_ret ?_ | refine blk_ret ?_)
    refine ret1 Try.results19 rfl ?_
    exact ⟨congrArg (fun z => Ending.returned (.bool z)) (eqB_f (fun e => by subst e; first | exact absurd (bnot_t h17) (by rw [eqB_t rfl]; decide) | exact absurd (bnot_t h17) (by simp))).symm, st15.bare⟩
  · skip
    refine wp_skip ?_
    refine wp_seq ?_
    refine wp_seq ?_
    refine sx_region ?_
    refine sx rfl (stp_fieldAddr fa_Engine_1 rfl ?_)
    refine sx rfl (stp_load_bxs (cs := [v11_2]) ld_Disk rfl rfl (st15.get 1 rfl) rfl rfl ?_)
    refine sx rfl (stp_fieldAddr fa_Engine_1 rfl ?_)
    refine sx rfl (stp_load_bxs (cs := [v12_2]) ld_Disk rfl rfl (st15.get 0 rfl) rfl rfl ?_)
    refine sx rfl (stp_call2 Try.func41 rfl rfl rfl ((eqDisk_n W13 (show Shape.C _ [v11_2] x.disk _ from ⟨_, _, rfl, (by first | exact True.intro | (simp only [Edge.ok, Plan.ok, Entry.ok, Task.ok, Run.ok, Yard.ok, Reply.ok, Deed.ok, Note.ok, Wait.ok, File.ok, Disk.ok, Engine.ok, WorldD.ok, ActD.ok, Hand.ok, Span.ok, Crew.ok, View.ok, I64] at *; omega)), (h11_2.below st15.below), rfl⟩) (show Shape.C _ [v12_2] y.disk _ from ⟨_, _, rfl, (by first | exact True.intro | (simp only [Edge.ok, Plan.ok, Entry.ok, Task.ok, Run.ok, Yard.ok, Reply.ok, Deed.ok, Note.ok, Wait.ok, File.ok, Disk.ok, Engine.ok, WorldD.ok, ActD.ok, Hand.ok, Span.ok, Crew.ok, View.ok, I64] at *; omega)), (h12_2.below st15.below), rfl⟩)).mono ?_)); rintro _ W18 ⟨rfl, hk19⟩; refine ⟨_, rfl, ?_⟩
    have st20 := St.call st15 hk19
    refine sx rfl (stp_not rfl ?_)
    refine sx_nil ?_
    refine sx_if rfl (fun h22 => ?_) (fun h22 => ?_)
    · skip
      refine wp_seq ?_
      refine sx_region ?_
      refine sx rfl (stp_assign (v := .bool false) rfl ?_)
      refine sx_nil ?_
      refine wp_ret ?_; repeat (first | refine then_ret ?_ | refine blk_ret ?_)
      refine ret1 Try.results19 rfl ?_
      exact ⟨congrArg (fun z => Ending.returned (.bool z)) (eqB_f (fun e => by subst e; first | exact absurd (bnot_t h22) (by rw [eqB_t rfl]; decide) | exact absurd (bnot_t h22) (by simp))).symm, st20.bare⟩
    · skip
      refine wp_skip ?_
      refine wp_seq ?_
      refine wp_seq ?_
      refine sx_region ?_
      refine sx rfl (stp_fieldAddr fa_Engine_2 rfl ?_)
      refine sx rfl (stp_load_bx ld_int rfl rfl (st20.get 1 rfl) (i := 5) rfl rfl ?_)
      refine sx rfl (stp_fieldAddr fa_Engine_2 rfl ?_)
      refine sx rfl (stp_load_bx ld_int rfl rfl (st20.get 0 rfl) (i := 5) rfl rfl ?_)
      refine sx rfl (stp_neq rfl rfl ?_)
      refine sx_nil ?_
      refine sx_if rfl (fun h23 => ?_) (fun h23 => ?_)
      · skip
        have h23p := of_decide_eq_false (bnot_t h23)
        refine wp_seq ?_
        refine sx_region ?_
        refine sx rfl (stp_assign (v := .bool false) rfl ?_)
        refine sx_nil ?_
        refine wp_ret ?_; repeat (first | refine then_ret ?_ | refine blk_ret ?_)
        refine ret1 Try.results19 rfl ?_
        exact ⟨congrArg (fun z => Ending.returned (.bool z)) (eqB_f (fun e => by subst e; first | exact h23p rfl | exact absurd (bnot_t h23) (by rw [eqB_t rfl]; decide) | exact absurd (bnot_t h23) (by simp))).symm, st20.bare⟩
      · skip
        have h23p := of_decide_eq_true (bnot_f h23)
        refine wp_skip ?_
        refine wp_seq ?_
        refine wp_seq ?_
        refine sx_region ?_
        refine sx rfl (stp_fieldAddr fa_Engine_3 rfl ?_)
        refine sx rfl (stp_load_bx ld_int rfl rfl (st20.get 1 rfl) (i := 6) rfl rfl ?_)
        refine sx rfl (stp_fieldAddr fa_Engine_3 rfl ?_)
        refine sx rfl (stp_load_bx ld_int rfl rfl (st20.get 0 rfl) (i := 6) rfl rfl ?_)
        refine sx rfl (stp_neq rfl rfl ?_)
        refine sx_nil ?_
        refine sx_if rfl (fun h24 => ?_) (fun h24 => ?_)
        · skip
          have h24p := of_decide_eq_false (bnot_t h24)
          refine wp_seq ?_
          refine sx_region ?_
          refine sx rfl (stp_assign (v := .bool false) rfl ?_)
          refine sx_nil ?_
          refine wp_ret ?_; repeat (first | refine then_ret ?_ | refine blk_ret ?_)
          refine ret1 Try.results19 rfl ?_
          exact ⟨congrArg (fun z => Ending.returned (.bool z)) (eqB_f (fun e => by subst e; first | exact h24p rfl | exact absurd (bnot_t h24) (by rw [eqB_t rfl]; decide) | exact absurd (bnot_t h24) (by simp))).symm, st20.bare⟩
        · skip
          have h24p := of_decide_eq_true (bnot_f h24)
          refine wp_skip ?_
          refine wp_seq ?_
          refine wp_seq ?_
          refine sx_region ?_
          refine sx rfl (stp_fieldAddr fa_Engine_4 rfl ?_)
          refine sx rfl (stp_load_bx ld_WaitS rfl rfl (st20.get 1 rfl) (i := 7) rfl rfl ?_)
          refine sx rfl (stp_fieldAddr fa_Engine_4 rfl ?_)
          refine sx rfl (stp_load_bx ld_WaitS rfl rfl (st20.get 0 rfl) (i := 7) rfl rfl ?_)
          refine sx rfl (stp_call2 Try.func42 rfl rfl rfl ((eqWaitS_n W18 (h11_3.below st20.below) (h12_3.below st20.below)).mono ?_)); rintro _ W25 ⟨rfl, hk26⟩; refine ⟨_, rfl, ?_⟩
          have st27 := St.call st20 hk26
          refine sx rfl (stp_not rfl ?_)
          refine sx_nil ?_
          refine sx_if rfl (fun h29 => ?_) (fun h29 => ?_)
          · skip
            refine wp_seq ?_
            refine sx_region ?_
            refine sx rfl (stp_assign (v := .bool false) rfl ?_)
            refine sx_nil ?_
            refine wp_ret ?_; repeat (first | refine then_ret ?_ | refine blk_ret ?_)
            refine ret1 Try.results19 rfl ?_
            exact ⟨congrArg (fun z => Ending.returned (.bool z)) (eqB_f (fun e => by subst e; first | exact absurd (bnot_t h29) (by rw [eqB_t rfl]; decide) | exact absurd (bnot_t h29) (by simp))).symm, st27.bare⟩
          · skip
            refine wp_skip ?_
            refine wp_seq ?_
            refine wp_seq ?_
            refine sx_region ?_
            refine sx rfl (stp_fieldAddr fa_Engine_5 rfl ?_)
            refine sx rfl (stp_load_bx ld_int rfl rfl (st27.get 1 rfl) (i := 8) rfl rfl ?_)
            refine sx rfl (stp_fieldAddr fa_Engine_5 rfl ?_)
            refine sx rfl (stp_load_bx ld_int rfl rfl (st27.get 0 rfl) (i := 8) rfl rfl ?_)
            refine sx rfl (stp_neq rfl rfl ?_)
            refine sx_nil ?_
            refine sx_if rfl (fun h30 => ?_) (fun h30 => ?_)
            · skip
              have h30p := of_decide_eq_false (bnot_t h30)
              refine wp_seq ?_
              refine sx_region ?_
              refine sx rfl (stp_assign (v := .bool false) rfl ?_)
              refine sx_nil ?_
              refine wp_ret ?_; repeat (first | refine then_ret ?_ | refine blk_ret ?_)
              refine ret1 Try.results19 rfl ?_
              exact ⟨congrArg (fun z => Ending.returned (.bool z)) (eqB_f (fun e => by subst e; first | exact h30p rfl | exact absurd (bnot_t h30) (by rw [eqB_t rfl]; decide) | exact absurd (bnot_t h30) (by simp))).symm, st27.bare⟩
            · skip
              have h30p := of_decide_eq_true (bnot_f h30)
              refine wp_skip ?_
              refine wp_seq ?_
              refine wp_seq ?_
              refine sx_region ?_
              refine sx rfl (stp_fieldAddr fa_Engine_6 rfl ?_)
              refine sx rfl (stp_load_bx ld_bool rfl rfl (st27.get 1 rfl) (i := 9) rfl rfl ?_)
              refine sx rfl (stp_fieldAddr fa_Engine_6 rfl ?_)
              refine sx rfl (stp_load_bx ld_bool rfl rfl (st27.get 0 rfl) (i := 9) rfl rfl ?_)
              refine sx rfl (stp_bneq Try.underlying4 rfl rfl ?_)
              refine sx_nil ?_
              refine sx_if rfl (fun h31 => ?_) (fun h31 => ?_)
              · skip
                refine wp_seq ?_
                refine sx_region ?_
                refine sx rfl (stp_assign (v := .bool false) rfl ?_)
                refine sx_nil ?_
                refine wp_ret ?_; repeat (first | refine then_ret ?_ | refine blk_ret ?_)
                refine ret1 Try.results19 rfl ?_
                exact ⟨congrArg (fun z => Ending.returned (.bool z)) (eqB_f (fun e => by subst e; first | exact absurd (bnot_t h31) (by rw [eqB_t rfl]; decide) | exact absurd (bnot_t h31) (by simp))).symm, st27.bare⟩
              · skip
                refine wp_skip ?_
                refine wp_seq ?_
                refine sx_region ?_
                refine sx rfl (stp_assign (v := .bool true) rfl ?_)
                refine sx_nil ?_
                refine wp_ret ?_; repeat (first | refine then_ret ?_ | refine blk_ret ?_)
                refine ret1 Try.results19 rfl ?_
                exact ⟨congrArg (fun z => Ending.returned (.bool z)) (eqB_t (Engine_ext (eqB_iff.1 (bnot_f h17)) (eqB_iff.1 (bnot_f h22)) h23p h24p (eqB_iff.1 (bnot_f h29)) h30p (by have := bnot_f h31; simpa using this))).symm, st27.bare⟩
theorem World_ext {x y : WorldD} (h0 : x.engine = y.engine) (h1 : x.deeds = y.deeds) (h2 : x.replies = y.replies) (h3 : x.told = y.told) (h4 : x.fell = y.fell) : x = y := by
  cases x; cases y; simp only at *; subst_vars; rfl
set_option maxHeartbeats 2000000 in
theorem eqWorld_n (w : World) {x y : WorldD} {cs ds : List Value} {fp gp : List Nat} (hc : Shape.C w cs x fp) (hd : Shape.C w ds y gp) :
    Calls Try.prog 22 #[.agg cs.toArray, .agg ds.toArray] w fun e w' => e = .returned (.bool (eqB x y)) ∧ St w w' [] := by
  refine enter2 Try.func22 rfl Try.ntmps22 (by decide) ?_
  refine wp_seq ?_
  refine sx_region ?_
  refine sx rfl (stp_box_agg (cs := cs) rfl (St.start w) ?_); intro b1 W2 hb3 st4
  refine sx rfl (stp_box_agg (cs := ds) rfl st4 ?_); intro b6 W7 hb8 st9
  refine sx rfl (stp_assign (v := .bool false) rfl ?_)
  refine sx_nil ?_
  refine wp_seq ?_
  refine wp_seq ?_
  refine sx_region ?_
  refine sx rfl (stp_fieldAddr fa_World_0 rfl ?_)
  have hk11 := hc
  obtain ⟨v11_0, v11_1, v11_2, v11_3, v11_4, v11_5, g11_0, g11_1, g11_2, g11_3, g11_4, g11_5, rfl, hok11, h11_0, h11_1, h11_2, h11_3, h11_4, h11_5, rfl⟩ := hk11
  refine sx rfl (stp_load_bxs (cs := [I x.engine.yard.now, I x.engine.yard.seq, v11_0, v11_1, v11_2, I x.engine.next, I x.engine.calls, v11_3, I x.engine.state, .bool x.engine.broken]) ld_Engine rfl rfl (st9.get 1 rfl) rfl rfl ?_)
  refine sx rfl (stp_fieldAddr fa_World_0 rfl ?_)
  have hk12 := hd
  obtain ⟨v12_0, v12_1, v12_2, v12_3, v12_4, v12_5, g12_0, g12_1, g12_2, g12_3, g12_4, g12_5, rfl, hok12, h12_0, h12_1, h12_2, h12_3, h12_4, h12_5, rfl⟩ := hk12
  refine sx rfl (stp_load_bxs (cs := [I y.engine.yard.now, I y.engine.yard.seq, v12_0, v12_1, v12_2, I y.engine.next, I y.engine.calls, v12_3, I y.engine.state, .bool y.engine.broken]) ld_Engine rfl rfl (st9.get 0 rfl) rfl rfl ?_)
  refine sx rfl (stp_call2 Try.func19 rfl rfl rfl ((eqEngine_n W7 (show Shape.C _ [I x.engine.yard.now, I x.engine.yard.seq, v11_0, v11_1, v11_2, I x.engine.next, I x.engine.calls, v11_3, I x.engine.state, .bool x.engine.broken] x.engine _ from ⟨_, _, _, _, _, _, _, _, rfl, (by first | exact True.intro | (simp only [Edge.ok, Plan.ok, Entry.ok, Task.ok, Run.ok, Yard.ok, Reply.ok, Deed.ok, Note.ok, Wait.ok, File.ok, Disk.ok, Engine.ok, WorldD.ok, ActD.ok, Hand.ok, Span.ok, Crew.ok, View.ok, I64] at *; omega)), (h11_0.below st9.below), (h11_1.below st9.below), (h11_2.below st9.below), (h11_3.below st9.below), rfl⟩) (show Shape.C _ [I y.engine.yard.now, I y.engine.yard.seq, v12_0, v12_1, v12_2, I y.engine.next, I y.engine.calls, v12_3, I y.engine.state, .bool y.engine.broken] y.engine _ from ⟨_, _, _, _, _, _, _, _, rfl, (by first | exact True.intro | (simp only [Edge.ok, Plan.ok, Entry.ok, Task.ok, Run.ok, Yard.ok, Reply.ok, Deed.ok, Note.ok, Wait.ok, File.ok, Disk.ok, Engine.ok, WorldD.ok, ActD.ok, Hand.ok, Span.ok, Crew.ok, View.ok, I64] at *; omega)), (h12_0.below st9.below), (h12_1.below st9.below), (h12_2.below st9.below), (h12_3.below st9.below), rfl⟩)).mono ?_)); rintro _ W13 ⟨rfl, hk14⟩; refine ⟨_, rfl, ?_⟩
  have st15 := St.call st9 hk14
  refine sx rfl (stp_not rfl ?_)
  refine sx_nil ?_
  refine sx_if rfl (fun h17 => ?_) (fun h17 => ?_)
  · skip
    refine wp_seq ?_
    refine sx_region ?_
    refine sx rfl (stp_assign (v := .bool false) rfl ?_)
    refine sx_nil ?_
    refine wp_ret ?_; repeat (first | refine then_ret ?_ | refine blk_ret ?_)
    refine ret1 Try.results22 rfl ?_
    exact ⟨congrArg (fun z => Ending.returned (.bool z)) (eqB_f (fun e => by subst e; first | exact absurd (bnot_t h17) (by rw [eqB_t rfl]; decide) | exact absurd (bnot_t h17) (by simp))).symm, st15.bare⟩
  · skip
    refine wp_skip ?_
    refine wp_seq ?_
    refine wp_seq ?_
    refine sx_region ?_
    refine sx rfl (stp_fieldAddr fa_World_1 rfl ?_)
    refine sx rfl (stp_load_bx ld_DeedS rfl rfl (st15.get 1 rfl) (i := 10) rfl rfl ?_)
    refine sx rfl (stp_fieldAddr fa_World_1 rfl ?_)
    refine sx rfl (stp_load_bx ld_DeedS rfl rfl (st15.get 0 rfl) (i := 10) rfl rfl ?_)
    refine sx rfl (stp_call2 Try.func45 rfl rfl rfl ((eqDeedS_n W13 (h11_4.below st15.below) (h12_4.below st15.below)).mono ?_)); rintro _ W18 ⟨rfl, hk19⟩; refine ⟨_, rfl, ?_⟩
    have st20 := St.call st15 hk19
    refine sx rfl (stp_not rfl ?_)
    refine sx_nil ?_
    refine sx_if rfl (fun h22 => ?_) (fun h22 => ?_)
    · skip
      refine wp_seq ?_
      refine sx_region ?_
      refine sx rfl (stp_assign (v := .bool false) rfl ?_)
      refine sx_nil ?_
      refine wp_ret ?_; repeat (first | refine then_ret ?_ | refine blk_ret ?_)
      refine ret1 Try.results22 rfl ?_
      exact ⟨congrArg (fun z => Ending.returned (.bool z)) (eqB_f (fun e => by subst e; first | exact absurd (bnot_t h22) (by rw [eqB_t rfl]; decide) | exact absurd (bnot_t h22) (by simp))).symm, st20.bare⟩
    · skip
      refine wp_skip ?_
      refine wp_seq ?_
      refine wp_seq ?_
      refine sx_region ?_
      refine sx rfl (stp_fieldAddr fa_World_2 rfl ?_)
      refine sx rfl (stp_load_bx ld_ReplyS rfl rfl (st20.get 1 rfl) (i := 11) rfl rfl ?_)
      refine sx rfl (stp_fieldAddr fa_World_2 rfl ?_)
      refine sx rfl (stp_load_bx ld_ReplyS rfl rfl (st20.get 0 rfl) (i := 11) rfl rfl ?_)
      refine sx rfl (stp_call2 Try.func46 rfl rfl rfl ((eqReplyS_n W18 (h11_5.below st20.below) (h12_5.below st20.below)).mono ?_)); rintro _ W23 ⟨rfl, hk24⟩; refine ⟨_, rfl, ?_⟩
      have st25 := St.call st20 hk24
      refine sx rfl (stp_not rfl ?_)
      refine sx_nil ?_
      refine sx_if rfl (fun h27 => ?_) (fun h27 => ?_)
      · skip
        refine wp_seq ?_
        refine sx_region ?_
        refine sx rfl (stp_assign (v := .bool false) rfl ?_)
        refine sx_nil ?_
        refine wp_ret ?_; repeat (first | refine then_ret ?_ | refine blk_ret ?_)
        refine ret1 Try.results22 rfl ?_
        exact ⟨congrArg (fun z => Ending.returned (.bool z)) (eqB_f (fun e => by subst e; first | exact absurd (bnot_t h27) (by rw [eqB_t rfl]; decide) | exact absurd (bnot_t h27) (by simp))).symm, st25.bare⟩
      · skip
        refine wp_skip ?_
        refine wp_seq ?_
        refine wp_seq ?_
        refine sx_region ?_
        refine sx rfl (stp_fieldAddr fa_World_3 rfl ?_)
        refine sx rfl (stp_load_bx ld_int rfl rfl (st25.get 1 rfl) (i := 12) rfl rfl ?_)
        refine sx rfl (stp_fieldAddr fa_World_3 rfl ?_)
        refine sx rfl (stp_load_bx ld_int rfl rfl (st25.get 0 rfl) (i := 12) rfl rfl ?_)
        refine sx rfl (stp_neq rfl rfl ?_)
        refine sx_nil ?_
        refine sx_if rfl (fun h28 => ?_) (fun h28 => ?_)
        · skip
          have h28p := of_decide_eq_false (bnot_t h28)
          refine wp_seq ?_
          refine sx_region ?_
          refine sx rfl (stp_assign (v := .bool false) rfl ?_)
          refine sx_nil ?_
          refine wp_ret ?_; repeat (first | refine then_ret ?_ | refine blk_ret ?_)
          refine ret1 Try.results22 rfl ?_
          exact ⟨congrArg (fun z => Ending.returned (.bool z)) (eqB_f (fun e => by subst e; first | exact h28p rfl | exact absurd (bnot_t h28) (by rw [eqB_t rfl]; decide) | exact absurd (bnot_t h28) (by simp))).symm, st25.bare⟩
        · skip
          have h28p := of_decide_eq_true (bnot_f h28)
          refine wp_skip ?_
          refine wp_seq ?_
          refine wp_seq ?_
          refine sx_region ?_
          refine sx rfl (stp_fieldAddr fa_World_4 rfl ?_)
          refine sx rfl (stp_load_bx ld_int rfl rfl (st25.get 1 rfl) (i := 13) rfl rfl ?_)
          refine sx rfl (stp_fieldAddr fa_World_4 rfl ?_)
          refine sx rfl (stp_load_bx ld_int rfl rfl (st25.get 0 rfl) (i := 13) rfl rfl ?_)
          refine sx rfl (stp_neq rfl rfl ?_)
          refine sx_nil ?_
          refine sx_if rfl (fun h29 => ?_) (fun h29 => ?_)
          · skip
            have h29p := of_decide_eq_false (bnot_t h29)
            refine wp_seq ?_
            refine sx_region ?_
            refine sx rfl (stp_assign (v := .bool false) rfl ?_)
            refine sx_nil ?_
            refine wp_ret ?_; repeat (first | refine then_ret ?_ | refine blk_ret ?_)
            refine ret1 Try.results22 rfl ?_
            exact ⟨congrArg (fun z => Ending.returned (.bool z)) (eqB_f (fun e => by subst e; first | exact h29p rfl | exact absurd (bnot_t h29) (by rw [eqB_t rfl]; decide) | exact absurd (bnot_t h29) (by simp))).symm, st25.bare⟩
          · skip
            have h29p := of_decide_eq_true (bnot_f h29)
            refine wp_skip ?_
            refine wp_seq ?_
            refine sx_region ?_
            refine sx rfl (stp_assign (v := .bool true) rfl ?_)
            refine sx_nil ?_
            refine wp_ret ?_; repeat (first | refine then_ret ?_ | refine blk_ret ?_)
            refine ret1 Try.results22 rfl ?_
            exact ⟨congrArg (fun z => Ending.returned (.bool z)) (eqB_t (World_ext (eqB_iff.1 (bnot_f h17)) (eqB_iff.1 (bnot_f h22)) (eqB_iff.1 (bnot_f h27)) h28p h29p)).symm, st25.bare⟩
set_option maxHeartbeats 2000000 in
theorem eqIntS_n (w : World) {v u : Value} {xs ys : List Int} {fp gp : List Nat} (h : Sl w v xs fp) (g : Sl w u ys gp) :
    Calls Try.prog 10 #[v, u] w fun e w' => e = .returned (.bool (eqB xs ys)) ∧ St w w' [] := by
  have hcap := h.len_le
  have hcap2 := g.len_le
  refine enter2 Try.func10 rfl Try.ntmps10 (by decide) ?_
  refine wp_seq ?_
  refine sx_region ?_
  refine sx rfl (stp_assign (v := .bool false) rfl ?_)
  refine sx_nil ?_
  refine wp_seq ?_
  refine wp_seq ?_
  refine sx_region ?_
  refine sx rfl (stp_move (v := v) rfl ?_)
  refine sx rfl (stp_len sl_IntS rfl h ?_)
  refine sx rfl (stp_move (v := u) rfl ?_)
  refine sx rfl (stp_len sl_IntS rfl g ?_)
  refine sx rfl (stp_neq rfl rfl ?_)
  refine sx_nil ?_
  refine sx_if rfl (fun h1 => ?_) (fun h1 => ?_)
  · skip
    have h1p := of_decide_eq_false (bnot_t h1)
    refine wp_seq ?_
    refine sx_region ?_
    refine sx rfl (stp_assign (v := .bool false) rfl ?_)
    refine sx_nil ?_
    refine wp_ret ?_; repeat (first | refine then_ret ?_ | refine blk_ret ?_)
    refine ret1 Try.results10 rfl ?_
    exact ⟨congrArg (fun z => Ending.returned (.bool z)) (eqB_f (fun e => h1p (by rw [e]))).symm, (St.start w).bare⟩
  · skip
    have h1p := of_decide_eq_true (bnot_f h1)
    refine wp_skip ?_
    refine wp_seq ?_
    refine wp_seq ?_
    refine sx_region ?_
    refine sx rfl (stp_assign (v := I 0) rfl ?_)
    refine sx_nil ?_
    refine wp_block ?_
    refine sx_loop (fun (m : Nat) (f : Nat → Value) (W : World) => ∃ (k : Nat), k ≤ xs.length ∧ xs.take k = ys.take k ∧ m = xs.length - k ∧ f 0 = v ∧ f 1 = u ∧ f 5 = I (k : Int) ∧ St w W ([])) (xs.length - 0) ?_ ?_
    · exact ⟨0, Nat.zero_le _, rfl, rfl, rfl, rfl, rfl, (St.start w)⟩
    intro m2 f3 W4 hJ5
    obtain ⟨k, hk, htk, rfl, hs7_0, hs7_1, hs7_5, st6⟩ := hJ5
    refine wp_seq ?_
    refine wp_seq ?_
    refine sx_region ?_
    refine sx rfl (stp_move (v := I (k : Int)) hs7_5 ?_)
    refine sx rfl (stp_move (v := v) hs7_0 ?_)
    refine sx rfl (stp_len sl_IntS rfl h ?_)
    refine sx rfl (stp_lss rfl rfl ?_)
    refine sx_nil ?_
    refine sx_if rfl (fun h8 => ?_) (fun h8 => ?_)
    · skip
      have h8p := of_decide_eq_true h8
      refine wp_skip ?_
      refine wp_seq ?_
      refine wp_block ?_
      refine wp_seq ?_
      have hi51fab : k < xs.length := (by omega)
      have hq_ := idx h (i := k) hi51fab
      obtain ⟨b9, o9, cs9, f9, hp9, hr9, hc9, hm9⟩ := hq_
      have hk9 := hc9
      obtain ⟨rfl, rfl, hok9⟩ := hk9
      have hi28e79 : k < ys.length := (by omega)
      have hq_ := idx g (i := k) hi28e79
      obtain ⟨b10, o10, cs10, f10, hp10, hr10, hc10, hm10⟩ := hq_
      have hk10 := hc10
      obtain ⟨rfl, rfl, hok10⟩ := hk10
      refine sx_any [Pl.is (v) (Sl.yl h), Pl.is (I (k : Int)), Pl.is (.pointer (some ⟨b9, o9, none⟩)), Pl.is (I (xs[k]'hi51fab)), Pl.is (u) (Sl.yl g), Pl.is (I (k : Int)), Pl.is (.pointer (some ⟨b10, o10, none⟩)), Pl.is (I (ys[k]'hi28e79)), Pl.bool (!decide ((xs[k]'hi51fab) = (ys[k]'hi28e79)))] mix (by rfl) st6 ⟨(fun f W hst hbl hd hf => stp_move (v := v) ((hf 0 rfl).trans hs7_0) ⟨Below.refl _ _, rfl⟩), (fun f W hst hbl hd hf => stp_move (v := I (k : Int)) ((hf 5 rfl).trans hs7_5) ⟨Below.refl _ _, rfl⟩), (fun f W hst hbl hd hf => stp_indexAddr sl_IntS (hd 0 17 rfl rfl) hp9 (hd 1 18 rfl rfl) rfl ⟨Below.refl _ _, rfl⟩), (fun f W hst hbl hd hf => stp_load_rg ld_int rfl (hd 2 19 rfl rfl) hr9 hst.below (i := 0) rfl rfl ⟨Below.refl _ _, rfl⟩), (fun f W hst hbl hd hf => stp_move (v := u) ((hf 1 rfl).trans hs7_1) ⟨Below.refl _ _, rfl⟩), (fun f W hst hbl hd hf => stp_move (v := I (k : Int)) ((hf 5 rfl).trans hs7_5) ⟨Below.refl _ _, rfl⟩), (fun f W hst hbl hd hf => stp_indexAddr sl_IntS (hd 4 21 rfl rfl) hp10 (hd 5 22 rfl rfl) rfl ⟨Below.refl _ _, rfl⟩), (fun f W hst hbl hd hf => stp_load_rg ld_int rfl (hd 6 23 rfl rfl) hr10 hst.below (i := 0) rfl rfl ⟨Below.refl _ _, rfl⟩), (fun f W hst hbl hd hf => stp_neq (hd 3 20 rfl rfl) (hd 7 24 rfl rfl) ⟨Below.refl _ _, rfl⟩), trivial⟩ ?_
      intro f11 W12 st13 hb14 hv15 hf16
      refine sx_if (hv15 8 25 (by decide) rfl) (fun h17 => ?_) (fun h17 => ?_)
      · skip
        have h17p := of_decide_eq_false (bnot_t h17)
        refine wp_seq ?_
        refine sx_region ?_
        refine sx rfl (stp_assign (v := .bool false) rfl ?_)
        refine sx_nil ?_
        refine wp_ret ?_; repeat (first | refine then_ret ?_ | refine blk_ret ?_)
        refine ret1 Try.results10 rfl ?_
        have hne : ¬ xs[k] = ys[k]'(by omega) := h17p
        exact ⟨congrArg (fun z => Ending.returned (.bool z)) (eqB_f (fun e => hne (by subst e; rfl))).symm, st13.bare⟩
      · skip
        have h17p := of_decide_eq_true (bnot_f h17)
        refine wp_skip ?_
        refine sx_region ?_
        refine sx rfl (stp_move (v := I (k : Int)) ((hf16 5 rfl).trans hs7_5) ?_)
        refine sx rfl (stp_add rfl rfl (by (simp only [I64] at *; omega)) ?_)
        refine sx rfl (stp_assign (v := I ((k : Int) + 1)) rfl ?_)
        refine sx_nil ?_
        exact ⟨_, xs.length - (k + 1), (by omega), rfl, k + 1, (by omega), (take_eq_succ (by omega) (by omega) htk h17p), rfl, ((hf16 0 rfl).trans hs7_0), ((hf16 1 rfl).trans hs7_1), rfl, st13⟩
    · skip
      have h8p := of_decide_eq_false h8
      refine wp_exit ?_
      refine wp_seq ?_
      refine sx_region ?_
      refine sx rfl (stp_assign (v := .bool true) rfl ?_)
      refine sx_nil ?_
      refine wp_ret ?_; repeat (first | refine then_ret ?_ | refine blk_ret ?_)
      refine ret1 Try.results10 rfl ?_
      obtain rfl : k = xs.length := by omega
      rw [List.take_length, List.take_of_length_le (by omega)] at htk
      exact ⟨congrArg (fun z => Ending.returned (.bool z)) (eqB_t htk).symm, st6.bare⟩
end Go.Proofs.Ytpkfgalpjaoebaa
