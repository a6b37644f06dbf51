/-
  LostOf, of the program and of the reference. (Printed by a program of this project's.)
-/
import Derived.Test.YtpkfgalpjaoebaaSxMin
import Derived.Test.YtpkfgalpjaoebaaLeft
namespace Go.Proofs.Ytpkfgalpjaoebaa
set_option linter.unusedSimpArgs false
set_option linter.unusedVariables false
set_option maxRecDepth 100000
open Go.RowKit


def lostOf (e f : Engine) : Int := if (1 ≤ e.next ∧ e.next ≤ 1000000000) ∧ (1 ≤ f.next ∧ f.next ≤ 1000000000) then max 0 (e.next + 1 - f.next) else 0

set_option maxHeartbeats 2000000 in
theorem LostOfI (w : World) {e f : Engine} {cs ds : List Value} {fp gp : List Nat} (hc : Shape.C w cs e fp) (hd : Shape.C w ds f gp) :
    Calls Try.prog 18 #[.agg cs.toArray, .agg ds.toArray] w fun ee w' => ee = .returned (I (lostOf e f)) ∧ St w w' [] := by
  refine enter2 Try.func18 rfl Try.ntmps18 (by decide) ?_
  refine wp_seq ?_
  refine sx_region ?_
  refine sx rfl (stp_box_agg (cs := cs) rfl (St.start w) ?_); intro b1 W2 hb3 st4
  refine sx rfl (stp_box_agg (cs := ds) rfl st4 ?_); intro b6 W7 hb8 st9
  refine sx rfl (stp_assign (v := I 0) rfl ?_)
  refine sx_nil ?_
  refine wp_seq ?_
  refine wp_seq ?_
  refine sx_region ?_
  refine sx rfl (stp_fieldAddr fa_Engine_2 rfl ?_)
  have hk11 := hc
  obtain ⟨v11_0, v11_1, v11_2, v11_3, g11_0, g11_1, g11_2, g11_3, rfl, hok11, h11_0, h11_1, h11_2, h11_3, rfl⟩ := hk11
  refine sx rfl (stp_load_bx ld_int rfl rfl (st9.get 1 rfl) (i := 5) rfl rfl ?_)
  refine sx rfl (stp_call3 Try.func40 rfl rfl rfl rfl ((within_n W7 e.next 1 1000000000).mono ?_)); rintro _ W12 ⟨rfl, hk13⟩; refine ⟨_, rfl, ?_⟩
  have st14 := St.call st9 hk13
  refine sx rfl (stp_not rfl ?_)
  refine sx rfl (stp_move (v := .bool (!(inB e.next 1 1000000000))) rfl ?_)
  rcases bd (!(inB e.next 1 1000000000)) with h16 | h16
  · skip
    have h16p := inB_iff'.1 (bnot_f h16)
    refine sx_on (j := 4) (dd := 9) rfl rfl (by decide) (yl_on (e := !(inB e.next 1 1000000000)) rfl h16) (stp_fieldAddr fa_Engine_2 rfl ?_)
    have hk17 := hd
    obtain ⟨v17_0, v17_1, v17_2, v17_3, g17_0, g17_1, g17_2, g17_3, rfl, hok17, h17_0, h17_1, h17_2, h17_3, rfl⟩ := hk17
    refine sx_on (j := 4) (dd := 9) rfl rfl (by decide) (yl_on (e := !(inB e.next 1 1000000000)) rfl h16) (stp_load_bx ld_int rfl rfl (st14.get 0 rfl) (i := 5) rfl rfl ?_)
    refine sx_on (j := 4) (dd := 9) rfl rfl (by decide) (yl_on (e := !(inB e.next 1 1000000000)) rfl h16) (stp_call3 Try.func40 rfl rfl rfl rfl ((within_n W12 f.next 1 1000000000).mono ?_)); rintro _ W18 ⟨rfl, hk19⟩; refine ⟨_, rfl, ?_⟩
    have st20 := St.call st14 hk19
    refine sx_on (j := 4) (dd := 9) rfl rfl (by decide) (yl_on (e := !(inB e.next 1 1000000000)) rfl h16) (stp_not rfl ?_)
    refine sx rfl (stp_pick_f (v := .bool (!(inB f.next 1 1000000000))) ((rfl : _ = (.bool (!(inB e.next 1 1000000000)) : Value)).trans (congrArg Value.bool h16)) rfl ?_)
    refine sx_nil ?_
    refine sx_if rfl (fun h22 => ?_) (fun h22 => ?_)
    · skip
      have h22p := inB_not (bnot_t h22)
      refine wp_seq ?_
      refine sx_region ?_
      refine sx rfl (stp_assign (v := I 0) rfl ?_)
      refine sx_nil ?_
      refine wp_ret ?_; repeat (first | refine then_ret ?_ | refine blk_ret ?_)
      refine ret1 Try.results18 rfl ?_
      exact ⟨(congrArg (fun z => Ending.returned (I z)) (by unfold lostOf; rw [if_neg (by omega)])), st20.bare⟩
    · skip
      have h22p := inB_iff'.1 (bnot_f h22)
      refine wp_skip ?_
      refine wp_seq ?_
      refine sx_region ?_
      refine sx rfl (stp_fieldAddr fa_Engine_2 rfl ?_)
      refine sx rfl (stp_load_bx ld_int rfl rfl (st20.get 1 rfl) (i := 5) rfl rfl ?_)
      refine sx rfl (stp_add rfl rfl (by (simp only [I64] at *; omega)) ?_)
      refine sx rfl (stp_fieldAddr fa_Engine_2 rfl ?_)
      refine sx rfl (stp_load_bx ld_int rfl rfl (st20.get 0 rfl) (i := 5) rfl rfl ?_)
      refine sx rfl (stp_sub rfl rfl (by (simp only [I64] at *; omega)) ?_)
      refine sx rfl (stp_max rfl rfl ?_)
      refine sx rfl (stp_assign (v := I (max 0 ((e.next + 1) - f.next))) rfl ?_)
      refine sx_nil ?_
      refine wp_ret ?_; repeat (first | refine then_ret ?_ | refine blk_ret ?_)
      refine ret1 Try.results18 rfl ?_
      exact ⟨(congrArg (fun z => Ending.returned (I z)) (by unfold lostOf; rw [if_pos (by omega)]; try omega)), st20.bare⟩
  · skip
    have h16p := inB_not (bnot_t h16)
    iterate 4 refine sx_off (j := 4) (dd := 9) rfl rfl (by decide) (yl_off (e := !(inB e.next 1 1000000000)) rfl h16) ?_
    refine sx rfl (stp_pick_t (v := .bool true) ((rfl : _ = (.bool (!(inB e.next 1 1000000000)) : Value)).trans (congrArg Value.bool h16)) rfl ?_)
    refine sx_nil ?_
    refine sx_t rfl rfl ?_
    refine wp_seq ?_
    refine sx_region ?_
    refine sx rfl (stp_assign (v := I 0) rfl ?_)
    refine sx_nil ?_
    refine wp_ret ?_; repeat (first | refine then_ret ?_ | refine blk_ret ?_)
    refine ret1 Try.results18 rfl ?_
    exact ⟨(congrArg (fun z => Ending.returned (I z)) (by unfold lostOf; rw [if_neg (by omega)])), st14.bare⟩
set_option maxHeartbeats 2000000 in
theorem LostOfS (w : World) {e f : Engine} {cs ds : List Value} {fp gp : List Nat} (hc : Shape.C w cs e fp) (hd : Shape.C w ds f gp) :
    Calls Try.prog 16 #[.agg cs.toArray, .agg ds.toArray] w fun ee w' => ee = .returned (I (lostOf e f)) ∧ St w w' [] := by
  refine enter2 Try.func16 rfl Try.ntmps16 (by decide) ?_
  refine wp_seq ?_
  refine sx_region ?_
  refine sx rfl (stp_box_agg (cs := cs) rfl (St.start w) ?_); intro b1 W2 hb3 st4
  refine sx rfl (stp_box_agg (cs := ds) rfl st4 ?_); intro b6 W7 hb8 st9
  refine sx rfl (stp_assign (v := I 0) rfl ?_)
  refine sx_nil ?_
  refine wp_seq ?_
  refine wp_seq ?_
  refine sx_region ?_
  refine sx rfl (stp_fieldAddr fa_Engine_2 rfl ?_)
  have hk11 := hc
  obtain ⟨v11_0, v11_1, v11_2, v11_3, g11_0, g11_1, g11_2, g11_3, rfl, hok11, h11_0, h11_1, h11_2, h11_3, rfl⟩ := hk11
  refine sx rfl (stp_load_bx ld_int rfl rfl (st9.get 1 rfl) (i := 5) rfl rfl ?_)
  refine sx rfl (stp_call3 Try.func37 rfl rfl rfl rfl ((l01In_n W7 e.next 1 1000000000).mono ?_)); rintro _ W12 ⟨rfl, hk13⟩; refine ⟨_, rfl, ?_⟩
  have st14 := St.call st9 hk13
  refine sx rfl (stp_not rfl ?_)
  refine sx rfl (stp_move (v := .bool (!(inB e.next 1 1000000000))) rfl ?_)
  rcases bd (!(inB e.next 1 1000000000)) with h16 | h16
  · skip
    have h16p := inB_iff'.1 (bnot_f h16)
    refine sx_on (j := 4) (dd := 9) rfl rfl (by decide) (yl_on (e := !(inB e.next 1 1000000000)) rfl h16) (stp_fieldAddr fa_Engine_2 rfl ?_)
    have hk17 := hd
    obtain ⟨v17_0, v17_1, v17_2, v17_3, g17_0, g17_1, g17_2, g17_3, rfl, hok17, h17_0, h17_1, h17_2, h17_3, rfl⟩ := hk17
    refine sx_on (j := 4) (dd := 9) rfl rfl (by decide) (yl_on (e := !(inB e.next 1 1000000000)) rfl h16) (stp_load_bx ld_int rfl rfl (st14.get 0 rfl) (i := 5) rfl rfl ?_)
    refine sx_on (j := 4) (dd := 9) rfl rfl (by decide) (yl_on (e := !(inB e.next 1 1000000000)) rfl h16) (stp_call3 Try.func37 rfl rfl rfl rfl ((l01In_n W12 f.next 1 1000000000).mono ?_)); rintro _ W18 ⟨rfl, hk19⟩; refine ⟨_, rfl, ?_⟩
    have st20 := St.call st14 hk19
    refine sx_on (j := 4) (dd := 9) rfl rfl (by decide) (yl_on (e := !(inB e.next 1 1000000000)) rfl h16) (stp_not rfl ?_)
    refine sx rfl (stp_pick_f (v := .bool (!(inB f.next 1 1000000000))) ((rfl : _ = (.bool (!(inB e.next 1 1000000000)) : Value)).trans (congrArg Value.bool h16)) rfl ?_)
    refine sx rfl (stp_move (v := .bool (!(inB f.next 1 1000000000))) rfl ?_)
    rcases bd (!(inB f.next 1 1000000000)) with h22 | h22
    · skip
      have h22p := inB_iff'.1 (bnot_f h22)
      refine sx_on (j := 10) (dd := 15) rfl rfl (by decide) (yl_on (e := !(inB f.next 1 1000000000)) rfl h22) (stp_fieldAddr fa_Engine_2 rfl ?_)
      refine sx_on (j := 10) (dd := 15) rfl rfl (by decide) (yl_on (e := !(inB f.next 1 1000000000)) rfl h22) (stp_load_bx ld_int rfl rfl (st20.get 0 rfl) (i := 5) rfl rfl ?_)
      refine sx_on (j := 10) (dd := 15) rfl rfl (by decide) (yl_on (e := !(inB f.next 1 1000000000)) rfl h22) (stp_fieldAddr fa_Engine_2 rfl ?_)
      refine sx_on (j := 10) (dd := 15) rfl rfl (by decide) (yl_on (e := !(inB f.next 1 1000000000)) rfl h22) (stp_load_bx ld_int rfl rfl (st20.get 1 rfl) (i := 5) rfl rfl ?_)
      refine sx_on (j := 10) (dd := 15) rfl rfl (by decide) (yl_on (e := !(inB f.next 1 1000000000)) rfl h22) (stp_gtr rfl rfl ?_)
      refine sx rfl (stp_pick_f (v := .bool (decide (e.next < f.next))) ((rfl : _ = (.bool (!(inB f.next 1 1000000000)) : Value)).trans (congrArg Value.bool h22)) rfl ?_)
      refine sx_nil ?_
      refine sx_if rfl (fun h23 => ?_) (fun h23 => ?_)
      · skip
        have h23p := of_decide_eq_true h23
        refine wp_seq ?_
        refine sx_region ?_
        refine sx rfl (stp_assign (v := I 0) rfl ?_)
        refine sx_nil ?_
        refine wp_ret ?_; repeat (first | refine then_ret ?_ | refine blk_ret ?_)
        refine ret1 Try.results16 rfl ?_
        exact ⟨(congrArg (fun z => Ending.returned (I z)) (by unfold lostOf; rw [if_pos (by omega)]; try omega)), st20.bare⟩
      · skip
        have h23p := of_decide_eq_false h23
        refine wp_skip ?_
        refine wp_seq ?_
        refine sx_region ?_
        refine sx rfl (stp_fieldAddr fa_Engine_2 rfl ?_)
        refine sx rfl (stp_load_bx ld_int rfl rfl (st20.get 1 rfl) (i := 5) rfl rfl ?_)
        refine sx rfl (stp_fieldAddr fa_Engine_2 rfl ?_)
        refine sx rfl (stp_load_bx ld_int rfl rfl (st20.get 0 rfl) (i := 5) rfl rfl ?_)
        refine sx rfl (stp_sub rfl rfl (by (simp only [I64] at *; omega)) ?_)
        refine sx rfl (stp_add rfl rfl (by (simp only [I64] at *; omega)) ?_)
        refine sx rfl (stp_assign (v := I ((e.next - f.next) + 1)) rfl ?_)
        refine sx_nil ?_
        refine wp_ret ?_; repeat (first | refine then_ret ?_ | refine blk_ret ?_)
        refine ret1 Try.results16 rfl ?_
        exact ⟨(congrArg (fun z => Ending.returned (I z)) (by unfold lostOf; rw [if_pos (by omega)]; try omega)), st20.bare⟩
    · skip
      have h22p := inB_not (bnot_t h22)
      iterate 5 refine sx_off (j := 10) (dd := 15) rfl rfl (by decide) (yl_off (e := !(inB f.next 1 1000000000)) rfl h22) ?_
      refine sx rfl (stp_pick_t (v := .bool true) ((rfl : _ = (.bool (!(inB f.next 1 1000000000)) : Value)).trans (congrArg Value.bool h22)) rfl ?_)
      refine sx_nil ?_
      refine sx_t rfl rfl ?_
      refine wp_seq ?_
      refine sx_region ?_
      refine sx rfl (stp_assign (v := I 0) rfl ?_)
      refine sx_nil ?_
      refine wp_ret ?_; repeat (first | refine then_ret ?_ | refine blk_ret ?_)
      refine ret1 Try.results16 rfl ?_
      exact ⟨(congrArg (fun z => Ending.returned (I z)) (by unfold lostOf; rw [if_neg (by omega)])), st20.bare⟩
  · skip
    have h16p := inB_not (bnot_t h16)
    iterate 4 refine sx_off (j := 4) (dd := 9) rfl rfl (by decide) (yl_off (e := !(inB e.next 1 1000000000)) rfl h16) ?_
    refine sx rfl (stp_pick_t (v := .bool true) ((rfl : _ = (.bool (!(inB e.next 1 1000000000)) : Value)).trans (congrArg Value.bool h16)) rfl ?_)
    refine sx rfl (stp_move (v := .bool true) rfl ?_)
    iterate 5 refine sx_off (j := 10) (dd := 15) rfl rfl (by decide) (yl_off (e := true) rfl rfl) ?_
    refine sx rfl (stp_pick_t (v := .bool true) rfl rfl ?_)
    refine sx_nil ?_
    refine sx_t rfl rfl ?_
    refine wp_seq ?_
    refine sx_region ?_
    refine sx rfl (stp_assign (v := I 0) rfl ?_)
    refine sx_nil ?_
    refine wp_ret ?_; repeat (first | refine then_ret ?_ | refine blk_ret ?_)
    refine ret1 Try.results16 rfl ?_
    exact ⟨(congrArg (fun z => Ending.returned (I z)) (by unfold lostOf; rw [if_neg (by omega)])), st14.bare⟩
end Go.Proofs.Ytpkfgalpjaoebaa
