/-
  The law on RunLine, walked. (Printed by a program of this project's.)
-/
import Derived.Test.YtchnllpegfbleaaDoorRunL
import Derived.Test.YtchnllpegfbleaaDoorSz
import Derived.Test.YtchnllpegfbleaaDoorEq
import Derived.Test.YtchnllpegfbleaaDoorTo
namespace Go.Proofs.YtchnllpegfbleaaDoor
set_option linter.unusedSimpArgs false
set_option linter.unusedVariables false
set_option maxRecDepth 100000
open Go.RowKit

set_option maxHeartbeats 2000000 in
theorem runLine_law (w : World) (cs0 : List Value) (x0 : Run) (fp0 : List Nat) (hc0 : Shape.C w cs0 x0 fp0) (htab : Lib.TabIs Tryd.prog w "internal/strconv.uint64pow10" .u64 Lib.pow10Tab) :
    Calls Tryd.prog 4 #[.agg cs0.toArray] w fun e w' => e = .returned (.bool true) ∧ Below w.heap.size w w' := by
  refine enter1 Tryd.func4 rfl Tryd.ntmps4 (by decide) ?_
  refine wp_seq ?_
  refine sx_region ?_
  refine sx rfl (stp_box_agg (cs := cs0) rfl (St.start w) ?_); intro b1 W2 hb3 st4
  refine sx rfl (stp_assign (v := .bool false) rfl ?_)
  refine sx_nil ?_
  refine wp_seq ?_
  refine sx_region ?_
  refine sx rfl (stp_assign (v := I 1048576) rfl ?_)
  refine sx_nil ?_
  refine wp_seq ?_
  refine sx_region ?_
  refine sx rfl (stp_load_bxa ld_RunL rfl rfl (st4.get 0 rfl) (Shape.len hc0) ?_)
  refine sx rfl (stp_move (v := I 1048576) rfl ?_)
  refine sx rfl (stp_call2 Tryd.func10 rfl rfl rfl ((szRun_n W2 (C_below hc0 st4.below) 1048576 (by omega) (by omega)).mono ?_)); rintro _ W6 ⟨rfl, hk7⟩; refine ⟨_, rfl, ?_⟩
  have st8 := St.call st4 hk7
  refine sx rfl (stp_assign (v := I (szL 1048576 x0.wt)) rfl ?_)
  refine sx_nil ?_
  refine wp_seq ?_
  refine wp_seq ?_
  refine sx_region ?_
  refine sx rfl (stp_move (v := I (szL 1048576 x0.wt)) rfl ?_)
  refine sx rfl (stp_lss rfl rfl ?_)
  refine sx_nil ?_
  refine sx_if rfl (fun h10 => ?_) (fun h10 => ?_)
  · skip
    have h10p := of_decide_eq_true h10
    have h10q := szL_lt h10p (by omega)
    refine wp_seq ?_
    refine sx_region ?_
    refine sx rfl (stp_assign (v := .bool true) rfl ?_)
    refine sx_nil ?_
    refine wp_ret ?_; repeat (first | refine then_ret ?_ | refine blk_ret ?_)
    refine ret1 Tryd.results4 rfl ?_
    exact ⟨rfl, st8.below⟩
  · skip
    have h10p := of_decide_eq_false h10
    have h10q := szL_ge h10p (by omega)
    refine wp_skip ?_
    refine wp_seq ?_
    refine sx_region ?_
    refine sx rfl (stp_load_bxa ld_RunL rfl rfl (st8.get 0 rfl) (Shape.len hc0) ?_)
    refine sx rfl (stp_call1 Tryd.func12 rfl rfl ((toRun_n W6 (C_below hc0 st8.below) (by first | exact hw | omega | (simp only [Plan.wt, Run.wt, Yard.wt, Deed.wt, Note.wt, File.wt, Disk.wt, Engine.wt, WorldD.wt, ActD.wt, Span.wt, Crew.wt] at *; omega))).mono ?_)); rintro _ W13 ⟨cs11, fp11, rfl, hk14⟩; refine ⟨_, rfl, ?_⟩
    have st15 := St.call st8 hk14
    refine sx rfl (stp_call1 Tryd.func11 rfl rfl ((RunLineS W13 (own_C (st15.get 0 rfl) rfl) (by omega)).mono ?_)); rintro _ W17 ⟨rfl, hk18⟩; refine ⟨_, rfl, ?_⟩
    have st19 := St.call st15 hk18
    refine sx rfl (stp_assign (v := .string (runLine x0)) rfl ?_)
    refine sx_nil ?_
    refine wp_seq ?_
    refine sx_region ?_
    refine sx rfl (stp_load_bxa ld_RunL rfl rfl (st19.get 1 rfl) (Shape.len hc0) ?_)
    refine sx rfl (stp_call1 Tryd.func12 rfl rfl ((toRun_n W17 (C_below hc0 st19.below) (by first | exact hw | omega | (simp only [Plan.wt, Run.wt, Yard.wt, Deed.wt, Note.wt, File.wt, Disk.wt, Engine.wt, WorldD.wt, ActD.wt, Span.wt, Crew.wt] at *; omega))).mono ?_)); rintro _ W23 ⟨cs21, fp21, rfl, hk24⟩; refine ⟨_, rfl, ?_⟩
    have st25 := St.call st19 hk24
    refine sx rfl (stp_alloc zz_Run st25 ?_); intro b27 W28 hb29 st30
    refine sx rfl (stp_store_all (cs := cs21) ld_Run (own_C (st30.get 1 rfl) rfl) rfl rfl st30 rfl ?_); intro W32 st33
    refine sx_nil ?_
    refine wp_seq ?_
    refine sx_region ?_
    refine sx rfl (stp_load_bxa ld_Run rfl rfl (st33.get 0 rfl) (Shape.len (own_C (st33.get 1 rfl) rfl)) ?_)
    refine sx rfl (stp_call1 Tryd.func13 rfl rfl ((RunLineI W32 (own_C (st33.get 1 rfl) rfl) (by omega) (TabIs.below htab st33.below)).mono ?_)); rintro _ W34 ⟨rfl, hk35⟩; refine ⟨_, rfl, ?_⟩
    have st36 := St.call st33 hk35
    refine sx rfl (stp_assign (v := .string (runLine x0)) rfl ?_)
    refine sx_nil ?_
    refine wp_seq ?_
    refine wp_seq ?_
    refine sx_region ?_
    refine sx rfl (stp_move (v := .string (runLine x0)) rfl ?_)
    refine sx rfl (stp_move (v := .string (runLine x0)) rfl ?_)
    refine sx rfl (stp_sneq rfl rfl ?_)
    refine sx_nil ?_
    refine sx_if rfl (fun h38 => ?_) (fun h38 => ?_)
    · skip
      have h38p := of_decide_eq_false (bnot_t h38)
      exact absurd rfl h38p
    · skip
      have h38p := of_decide_eq_true (bnot_f h38)
      refine wp_skip ?_
      refine wp_seq ?_
      refine wp_seq ?_
      refine sx_any [Pl.is (.agg cs21.toArray), Pl.is (.agg cs0.toArray), Pl.sval (α := Run) x0, Pl.bool (eqB x0 x0), Pl.bool (!(eqB x0 x0))] mix (by rfl) st36 ⟨(fun f W hst hbl hd hf => stp_load_bxa ld_Run rfl ((hf 5 rfl).trans (show _ = (.pointer (some ⟨b27, 0, none⟩) : Value) from rfl)) (hst.get 0 rfl) (Shape.len (own_C (hst.get 1 rfl) rfl)) ⟨Below.refl _ _, rfl⟩), (fun f W hst hbl hd hf => stp_load_bxa ld_RunL rfl ((hf 1 rfl).trans (show _ = (.pointer (some ⟨b1, 0, none⟩) : Value) from rfl)) (hst.get 3 rfl) (Shape.len hc0) ⟨Below.refl _ _, rfl⟩), (fun f W hst hbl hd hf => stp_call1 Tryd.func12 rfl (hd 1 23 rfl rfl) ((toRun_n W (C_below hc0 hst.below) (by first | exact hw | omega | (simp only [Plan.wt, Run.wt, Yard.wt, Deed.wt, Note.wt, File.wt, Disk.wt, Engine.wt, WorldD.wt, ActD.wt, Span.wt, Crew.wt] at *; omega))).mono (by rintro e W2 ⟨cs, fp, rfl, hk⟩; exact ⟨_, rfl, hk.below, fp, own_V (hk.get 0 rfl)⟩))), (fun f W hst hbl hd hf => by obtain ⟨fp41, cs41, e41, hc41⟩ := hd 2 24 rfl rfl; exact stp_call2 Tryd.func14 rfl (hd 0 22 rfl rfl) e41 ((eqRun_n W (own_C (hst.get 1 rfl) rfl) hc41).mono (by rintro e W2 ⟨rfl, hk⟩; exact ⟨_, rfl, hk.below, rfl⟩))), (fun f W hst hbl hd hf => stp_not (hd 3 25 rfl rfl) ⟨Below.refl _ _, rfl⟩), trivial⟩ ?_
      intro f42 W43 st44 hb45 hv46 hf47
      refine sx_if (hv46 4 26 (by decide) rfl) (fun h48 => ?_) (fun h48 => ?_)
      · skip
        exact absurd (bnot_t h48) (by rw [eqB_t rfl]; decide)
      · skip
        refine wp_skip ?_
        refine wp_seq ?_
        refine sx_region ?_
        refine sx rfl (stp_assign (v := .bool true) rfl ?_)
        refine sx_nil ?_
        refine wp_ret ?_; repeat (first | refine then_ret ?_ | refine blk_ret ?_)
        refine ret1 Tryd.results4 rfl ?_
        exact ⟨rfl, st44.below⟩
end Go.Proofs.YtchnllpegfbleaaDoor
