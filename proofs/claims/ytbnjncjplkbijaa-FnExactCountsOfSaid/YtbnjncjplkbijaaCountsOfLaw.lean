/-
  The law on CountsOf, walked. (Printed by a program of this project's.)
-/
import Derived.Test.YtbnjncjplkbijaaTo
import Derived.Test.YtbnjncjplkbijaaSz
import Derived.Test.YtbnjncjplkbijaaEq
import Derived.Test.YtbnjncjplkbijaaView
namespace Go.Proofs.Ytbnjncjplkbijaa
set_option linter.unusedSimpArgs false
set_option linter.unusedVariables false
set_option maxRecDepth 100000
open Go.RowKit

set_option maxHeartbeats 2000000 in
theorem countsOf_law (w : World) (cs0 : List Value) (x0 : Yard) (fp0 : List Nat) (hc0 : Shape.C w cs0 x0 fp0) :
    Calls Try.prog 9 #[.agg cs0.toArray] w fun e w' => e = .returned (.bool true) ∧ Below w.heap.size w w' := by
  refine enter1 Try.func9 rfl Try.ntmps9 (by decide) ?_
  refine wp_seq ?_
  refine sx_region ?_
  refine sx rfl (stp_box_agg (cs := cs0) rfl (St.start w) ?_); intro b1 W2 hb3 st4
  refine sx rfl (stp_assign rfl ?_)
  refine sx_nil ?_
  refine wp_seq ?_
  refine sx_region ?_
  refine sx rfl (stp_assign rfl ?_)
  refine sx_nil ?_
  refine wp_seq ?_
  refine sx_region ?_
  refine sx rfl (stp_load_bxa ld_YardL rfl rfl (st4.get 0 rfl) (Shape.len hc0) ?_)
  refine sx rfl (stp_move rfl ?_)
  refine sx rfl (stp_call2 Try.func23 rfl rfl rfl ((szYard_n W2 (C_below hc0 st4.below) 1048576 (by omega) (by omega)).mono ?_)); rintro _ W6 ⟨rfl, hk7⟩; refine ⟨_, rfl, ?_⟩
  have st8 := St.call st4 hk7
  refine sx rfl (stp_assign rfl ?_)
  refine sx_nil ?_
  refine wp_seq ?_
  refine wp_seq ?_
  refine sx_region ?_
  refine sx rfl (stp_move rfl ?_)
  refine sx rfl (stp_lss rfl rfl ?_)
  refine sx_nil ?_
  refine sx_if rfl (fun h10 => ?_) (fun h10 => ?_)
  · skip
    have h10p := of_decide_eq_true h10
    have h10q := szL_lt h10p (by omega)
    refine wp_seq ?_
    refine sx_region ?_
    refine sx rfl (stp_assign rfl ?_)
    refine sx_nil ?_
    refine wp_ret ?_; repeat (first | refine then_ret ?_ | refine blk_ret ?_)
    refine ret1 Try.results9 rfl ?_
    exact ⟨rfl, st8.below⟩
  · skip
    have h10p := of_decide_eq_false h10
    have h10q := szL_ge h10p (by omega)
    refine wp_skip ?_
    refine wp_seq ?_
    refine sx_region ?_
    refine sx rfl (stp_load_bxa ld_YardL rfl rfl (st8.get 0 rfl) (Shape.len hc0) ?_)
    refine sx rfl (stp_call1 Try.func25 rfl rfl ((toYard_n W6 (C_below hc0 st8.below) (by first | exact hw | omega | (simp only [Plan.wt, Run.wt, Yard.wt, Deed.wt, Note.wt, File.wt, Disk.wt, Engine.wt, WorldD.wt, ActD.wt, Span.wt, Crew.wt] at *; omega))).mono ?_)); rintro _ W13 ⟨cs11, fp11, rfl, hk14⟩; refine ⟨_, rfl, ?_⟩
    have st15 := St.call st8 hk14
    refine sx rfl (stp_call1 Try.func45 rfl rfl ((CountsOfS W13 (own_C (st15.get 0 rfl) rfl) (by omega)).mono ?_)); rintro _ W17 ⟨rfl, hokf20, hk18⟩; refine ⟨_, rfl, ?_⟩
    have st19 := St.call st15 hk18
    refine sx rfl (stp_alloc zz_View st19 ?_); intro b21 W22 hb23 st24
    refine sx rfl (stp_store_agg (cs := [I (cntTo x0 x0.runs.length).state, I (cntTo x0 x0.runs.length).waits, I (cntTo x0 x0.runs.length).ready, I (cntTo x0 x0.runs.length).runs, I (cntTo x0 x0.runs.length).done, I (cntTo x0 x0.runs.length).failed, I (cntTo x0 x0.runs.length).left]) (C' := [I (cntTo x0 x0.runs.length).state, I (cntTo x0 x0.runs.length).waits, I (cntTo x0 x0.runs.length).ready, I (cntTo x0 x0.runs.length).runs, I (cntTo x0 x0.runs.length).done, I (cntTo x0 x0.runs.length).failed, I (cntTo x0 x0.runs.length).left]) (by kernel_rfl) rfl rfl (one_cons rfl (one_cons rfl (one_cons rfl (one_cons rfl (one_cons rfl (one_cons rfl (one_cons rfl one_nil))))))) st24 (Nat.le_of_ble_eq_true rfl) rfl ?_); intro W26 st27
    refine sx_nil ?_
    refine wp_seq ?_
    refine sx_region ?_
    refine sx rfl (stp_load_bxa ld_YardL rfl rfl (st27.get 2 rfl) (Shape.len hc0) ?_)
    refine sx rfl (stp_call1 Try.func25 rfl rfl ((toYard_n W26 (C_below hc0 st27.below) (by first | exact hw | omega | (simp only [Plan.wt, Run.wt, Yard.wt, Deed.wt, Note.wt, File.wt, Disk.wt, Engine.wt, WorldD.wt, ActD.wt, Span.wt, Crew.wt] at *; omega))).mono ?_)); rintro _ W30 ⟨cs28, fp28, rfl, hk31⟩; refine ⟨_, rfl, ?_⟩
    have st32 := St.call st27 hk31
    refine sx rfl (stp_alloc zz_Yard st32 ?_); intro b34 W35 hb36 st37
    refine sx rfl (stp_store_all (cs := cs28) ld_Yard (own_C (st37.get 1 rfl) rfl) rfl rfl st37 rfl ?_); intro W39 st40
    refine sx_nil ?_
    refine wp_seq ?_
    refine sx_region ?_
    refine sx rfl (stp_load_bxa ld_Yard rfl rfl (st40.get 0 rfl) (Shape.len (own_C (st40.get 1 rfl) rfl)) ?_)
    refine sx rfl (stp_call1 Try.func46 rfl rfl ((CountsOfI W39 (own_C (st40.get 1 rfl) rfl) (by omega)).mono ?_)); rintro _ W41 ⟨rfl, hokf44, hk42⟩; refine ⟨_, rfl, ?_⟩
    have st43 := St.call st40 hk42
    refine sx rfl (stp_alloc zz_View st43 ?_); intro b45 W46 hb47 st48
    refine sx rfl (stp_store_agg (cs := [I (cntTo x0 x0.runs.length).state, I (cntTo x0 x0.runs.length).waits, I (cntTo x0 x0.runs.length).ready, I (cntTo x0 x0.runs.length).runs, I (cntTo x0 x0.runs.length).done, I (cntTo x0 x0.runs.length).failed, I (cntTo x0 x0.runs.length).left]) (C' := [I (cntTo x0 x0.runs.length).state, I (cntTo x0 x0.runs.length).waits, I (cntTo x0 x0.runs.length).ready, I (cntTo x0 x0.runs.length).runs, I (cntTo x0 x0.runs.length).done, I (cntTo x0 x0.runs.length).failed, I (cntTo x0 x0.runs.length).left]) (by kernel_rfl) rfl rfl (one_cons rfl (one_cons rfl (one_cons rfl (one_cons rfl (one_cons rfl (one_cons rfl (one_cons rfl one_nil))))))) st48 (Nat.le_of_ble_eq_true rfl) rfl ?_); intro W50 st51
    refine sx_nil ?_
    refine wp_seq ?_
    refine wp_seq ?_
    refine sx_region ?_
    refine sx rfl (stp_load_bxs (cs := [I (cntTo x0 x0.runs.length).state, I (cntTo x0 x0.runs.length).waits, I (cntTo x0 x0.runs.length).ready, I (cntTo x0 x0.runs.length).runs, I (cntTo x0 x0.runs.length).done, I (cntTo x0 x0.runs.length).failed, I (cntTo x0 x0.runs.length).left]) ld_View rfl rfl (st51.get 0 rfl) rfl rfl ?_)
    refine sx rfl (stp_load_bxs (cs := [I (cntTo x0 x0.runs.length).state, I (cntTo x0 x0.runs.length).waits, I (cntTo x0 x0.runs.length).ready, I (cntTo x0 x0.runs.length).runs, I (cntTo x0 x0.runs.length).done, I (cntTo x0 x0.runs.length).failed, I (cntTo x0 x0.runs.length).left]) ld_View rfl rfl (st51.get 3 rfl) rfl rfl ?_)
    refine sx rfl (stp_call2 Try.func47 rfl rfl rfl ((eqView_n W50 (show Shape.C _ [I (cntTo x0 x0.runs.length).state, I (cntTo x0 x0.runs.length).waits, I (cntTo x0 x0.runs.length).ready, I (cntTo x0 x0.runs.length).runs, I (cntTo x0 x0.runs.length).done, I (cntTo x0 x0.runs.length).failed, I (cntTo x0 x0.runs.length).left] (cntTo x0 x0.runs.length) [] from ⟨rfl, rfl, hokf44⟩) (show Shape.C _ [I (cntTo x0 x0.runs.length).state, I (cntTo x0 x0.runs.length).waits, I (cntTo x0 x0.runs.length).ready, I (cntTo x0 x0.runs.length).runs, I (cntTo x0 x0.runs.length).done, I (cntTo x0 x0.runs.length).failed, I (cntTo x0 x0.runs.length).left] (cntTo x0 x0.runs.length) [] from ⟨rfl, rfl, hokf20⟩)).mono ?_)); rintro _ W52 ⟨rfl, hk53⟩; refine ⟨_, rfl, ?_⟩
    have st54 := St.call st51 hk53
    refine sx rfl (stp_not rfl ?_)
    refine sx_nil ?_
    refine sx_if rfl (fun h56 => ?_) (fun h56 => ?_)
    · skip
      exact absurd (bnot_t h56) (by rw [eqB_t rfl]; decide)
    · skip
      refine wp_skip ?_
      refine wp_seq ?_
      refine wp_seq ?_
      refine sx_any [Pl.is (.agg cs28.toArray), Pl.is (.agg cs0.toArray), Pl.sval (α := Yard) x0, Pl.bool (eqB x0 x0), Pl.bool (!(eqB x0 x0))] mix (by rfl) st54 ⟨(fun f W hst hbl hd hf => stp_load_bxa ld_Yard rfl ((hf 5 rfl).trans (show _ = (.pointer (some ⟨b34, 0, none⟩) : Value) from rfl)) (hst.get 1 rfl) (Shape.len (own_C (hst.get 2 rfl) rfl)) ⟨Below.refl _ _, rfl⟩), (fun f W hst hbl hd hf => stp_load_bxa ld_YardL rfl ((hf 1 rfl).trans (show _ = (.pointer (some ⟨b1, 0, none⟩) : Value) from rfl)) (hst.get 5 rfl) (Shape.len hc0) ⟨Below.refl _ _, rfl⟩), (fun f W hst hbl hd hf => stp_call1 Try.func25 rfl (hd 1 24 rfl rfl) ((toYard_n W (C_below hc0 hst.below) (by first | exact hw | omega | (simp only [Plan.wt, Run.wt, Yard.wt, Deed.wt, Note.wt, File.wt, Disk.wt, Engine.wt, WorldD.wt, ActD.wt, Span.wt, Crew.wt] at *; omega))).mono (by rintro e W2 ⟨cs, fp, rfl, hk⟩; exact ⟨_, rfl, hk.below, fp, own_V (hk.get 0 rfl)⟩))), (fun f W hst hbl hd hf => by obtain ⟨fp59, cs59, e59, hc59⟩ := hd 2 25 rfl rfl; exact stp_call2 Try.func27 rfl (hd 0 23 rfl rfl) e59 ((eqYard_n W (own_C (hst.get 2 rfl) rfl) hc59).mono (by rintro e W2 ⟨rfl, hk⟩; exact ⟨_, rfl, hk.below, rfl⟩))), (fun f W hst hbl hd hf => stp_not (hd 3 26 rfl rfl) ⟨Below.refl _ _, rfl⟩), trivial⟩ ?_
      intro f60 W61 st62 hb63 hv64 hf65
      refine sx_if (hv64 4 27 (by decide) rfl) (fun h66 => ?_) (fun h66 => ?_)
      · skip
        exact absurd (bnot_t h66) (by rw [eqB_t rfl]; decide)
      · skip
        refine wp_skip ?_
        refine wp_seq ?_
        refine sx_region ?_
        refine sx rfl (stp_assign rfl ?_)
        refine sx_nil ?_
        refine wp_ret ?_; repeat (first | refine then_ret ?_ | refine blk_ret ?_)
        refine ret1 Try.results9 rfl ?_
        exact ⟨rfl, st62.below⟩
end Go.Proofs.Ytbnjncjplkbijaa
