/-
  The law on LostOf, walked. (Printed by a program of this project's.)
-/
import Derived.Test.YtpkfgalpjaoebaaTo
import Derived.Test.YtpkfgalpjaoebaaSz
import Derived.Test.YtpkfgalpjaoebaaEq
import Derived.Test.YtpkfgalpjaoebaaLost
namespace Go.Proofs.Ytpkfgalpjaoebaa
set_option linter.unusedSimpArgs false
set_option linter.unusedVariables false
set_option maxRecDepth 100000
open Go.RowKit

set_option maxHeartbeats 2000000 in
theorem lostOf_law (w : World) (cs0 : List Value) (x0 : Engine) (fp0 : List Nat) (hc0 : Shape.C w cs0 x0 fp0) (cs1 : List Value) (x1 : Engine) (fp1 : List Nat) (hc1 : Shape.C w cs1 x1 fp1) :
    Calls Try.prog 4 #[.agg cs0.toArray, .agg cs1.toArray] w fun e w' => e = .returned (.bool true) ∧ Below w.heap.size w w' := by
  refine enter2 Try.func4 rfl Try.ntmps4 (by decide) ?_
  refine wp_seq ?_
  refine sx_region ?_
  refine sx rfl (stp_box_agg (cs := cs0) rfl (St.start w) ?_); intro b1 W2 hb3 st4
  refine sx rfl (stp_box_agg (cs := cs1) rfl st4 ?_); intro b6 W7 hb8 st9
  refine sx rfl (stp_assign (v := .bool false) rfl ?_)
  refine sx_nil ?_
  refine wp_seq ?_
  refine sx_region ?_
  refine sx rfl (stp_assign (v := I 1048576) rfl ?_)
  refine sx_nil ?_
  refine wp_seq ?_
  refine sx_region ?_
  refine sx rfl (stp_load_bxa ld_EngineL rfl rfl (st9.get 1 rfl) (Shape.len hc0) ?_)
  refine sx rfl (stp_move (v := I 1048576) rfl ?_)
  refine sx rfl (stp_call2 Try.func15 rfl rfl rfl ((szEngine_n W7 (C_below hc0 st9.below) 1048576 (by omega) (by omega)).mono ?_)); rintro _ W11 ⟨rfl, hk12⟩; refine ⟨_, rfl, ?_⟩
  have st13 := St.call st9 hk12
  refine sx rfl (stp_assign (v := I (szL 1048576 x0.wt)) rfl ?_)
  refine sx_nil ?_
  refine wp_seq ?_
  refine wp_seq ?_
  refine sx_region ?_
  refine sx rfl (stp_move (v := I (szL 1048576 x0.wt)) rfl ?_)
  refine sx rfl (stp_lss rfl rfl ?_)
  refine sx_nil ?_
  refine sx_if rfl (fun h15 => ?_) (fun h15 => ?_)
  · skip
    have h15p := of_decide_eq_true h15
    have h15q := szL_lt h15p (by omega)
    refine wp_seq ?_
    refine sx_region ?_
    refine sx rfl (stp_assign (v := .bool true) rfl ?_)
    refine sx_nil ?_
    refine wp_ret ?_; repeat (first | refine then_ret ?_ | refine blk_ret ?_)
    refine ret1 Try.results4 rfl ?_
    exact ⟨rfl, st13.below⟩
  · skip
    have h15p := of_decide_eq_false h15
    have h15q := szL_ge h15p (by omega)
    refine wp_skip ?_
    refine wp_seq ?_
    refine sx_region ?_
    refine sx rfl (stp_load_bxa ld_EngineL rfl rfl (st13.get 0 rfl) (Shape.len hc1) ?_)
    refine sx rfl (stp_move (v := I (szL 1048576 x0.wt)) rfl ?_)
    refine sx rfl (stp_call2 Try.func15 rfl rfl rfl ((szEngine_n W11 (C_below hc1 st13.below) (szL 1048576 x0.wt) (by omega) (by omega)).mono ?_)); rintro _ W16 ⟨rfl, hk17⟩; refine ⟨_, rfl, ?_⟩
    have st18 := St.call st13 hk17
    refine sx rfl (stp_assign (v := I (szL (szL 1048576 x0.wt) x1.wt)) rfl ?_)
    refine sx_nil ?_
    refine wp_seq ?_
    refine wp_seq ?_
    refine sx_region ?_
    refine sx rfl (stp_move (v := I (szL (szL 1048576 x0.wt) x1.wt)) rfl ?_)
    refine sx rfl (stp_lss rfl rfl ?_)
    refine sx_nil ?_
    refine sx_if rfl (fun h20 => ?_) (fun h20 => ?_)
    · skip
      have h20p := of_decide_eq_true h20
      have h20q := szL_lt h20p (by omega)
      refine wp_seq ?_
      refine sx_region ?_
      refine sx rfl (stp_assign (v := .bool true) rfl ?_)
      refine sx_nil ?_
      refine wp_ret ?_; repeat (first | refine then_ret ?_ | refine blk_ret ?_)
      refine ret1 Try.results4 rfl ?_
      exact ⟨rfl, st18.below⟩
    · skip
      have h20p := of_decide_eq_false h20
      have h20q := szL_ge h20p (by omega)
      refine wp_skip ?_
      refine wp_seq ?_
      refine sx_any [Pl.is (.agg cs0.toArray), Pl.sval (α := Engine) x0, Pl.is (.agg cs1.toArray), Pl.sval (α := Engine) x1, Pl.is (I (lostOf x0 x1)), Pl.is (I (lostOf x0 x1))] mix (by rfl) st18 ⟨(fun f W hst hbl hd hf => stp_load_bxa ld_EngineL rfl ((hf 2 rfl).trans (show _ = (.pointer (some ⟨b1, 0, none⟩) : Value) from rfl)) (hst.get 1 rfl) (Shape.len hc0) ⟨Below.refl _ _, rfl⟩), (fun f W hst hbl hd hf => stp_call1 Try.func17 rfl (hd 0 20 rfl rfl) ((toEngine_n W (C_below hc0 hst.below) (by first | exact hw | omega | (simp only [Plan.wt, Run.wt, Yard.wt, Deed.wt, Note.wt, File.wt, Disk.wt, Engine.wt, WorldD.wt, ActD.wt, Span.wt, Crew.wt] at *; omega))).mono (by rintro e W2 ⟨cs, fp, rfl, hk⟩; exact ⟨_, rfl, hk.below, fp, own_V (hk.get 0 rfl)⟩))), (fun f W hst hbl hd hf => stp_load_bxa ld_EngineL rfl ((hf 3 rfl).trans (show _ = (.pointer (some ⟨b6, 0, none⟩) : Value) from rfl)) (hst.get 0 rfl) (Shape.len hc1) ⟨Below.refl _ _, rfl⟩), (fun f W hst hbl hd hf => stp_call1 Try.func17 rfl (hd 2 22 rfl rfl) ((toEngine_n W (C_below hc1 hst.below) (by first | exact hw | omega | (simp only [Plan.wt, Run.wt, Yard.wt, Deed.wt, Note.wt, File.wt, Disk.wt, Engine.wt, WorldD.wt, ActD.wt, Span.wt, Crew.wt] at *; omega))).mono (by rintro e W2 ⟨cs, fp, rfl, hk⟩; exact ⟨_, rfl, hk.below, fp, own_V (hk.get 0 rfl)⟩))), (fun f W hst hbl hd hf => by obtain ⟨fp23, cs23, e23, hc23⟩ := hd 1 21 rfl rfl; obtain ⟨fp26, cs26, e26, hc26⟩ := hd 3 23 rfl rfl; exact stp_call2 Try.func16 rfl e23 e26 ((LostOfS W hc23 hc26).mono (by rintro e W2 ⟨rfl, hk⟩; exact ⟨_, rfl, hk.below, rfl⟩))), (fun f W hst hbl hd hf => stp_assign (v := I (lostOf x0 x1)) (hd 4 24 rfl rfl) ⟨Below.refl _ _, rfl⟩), trivial⟩ ?_
      intro f27 W28 st29 hb30 hv31 hf32
      refine wp_seq ?_
      refine sx_region ?_
      refine sx rfl (stp_load_bxa ld_EngineL rfl ((hf32 2 rfl).trans (show _ = (.pointer (some ⟨b1, 0, none⟩) : Value) from rfl)) (st29.get 1 rfl) (Shape.len hc0) ?_)
      refine sx rfl (stp_call1 Try.func17 rfl rfl ((toEngine_n W28 (C_below hc0 st29.below) (by first | exact hw | omega | (simp only [Plan.wt, Run.wt, Yard.wt, Deed.wt, Note.wt, File.wt, Disk.wt, Engine.wt, WorldD.wt, ActD.wt, Span.wt, Crew.wt] at *; omega))).mono ?_)); rintro _ W35 ⟨cs33, fp33, rfl, hk36⟩; refine ⟨_, rfl, ?_⟩
      have st37 := St.call st29 hk36
      refine sx rfl (stp_alloc zz_Engine st37 ?_); intro b39 W40 hb41 st42
      refine sx rfl (stp_store_all (cs := cs33) ld_Engine (own_C (st42.get 1 rfl) rfl) rfl rfl st42 rfl ?_); intro W44 st45
      refine sx_nil ?_
      refine wp_seq ?_
      refine sx_region ?_
      refine sx rfl (stp_load_bxa ld_EngineL rfl ((hf32 3 rfl).trans (show _ = (.pointer (some ⟨b6, 0, none⟩) : Value) from rfl)) (st45.get 2 rfl) (Shape.len hc1) ?_)
      refine sx rfl (stp_call1 Try.func17 rfl rfl ((toEngine_n W44 (C_below hc1 st45.below) (by first | exact hw | omega | (simp only [Plan.wt, Run.wt, Yard.wt, Deed.wt, Note.wt, File.wt, Disk.wt, Engine.wt, WorldD.wt, ActD.wt, Span.wt, Crew.wt] at *; omega))).mono ?_)); rintro _ W48 ⟨cs46, fp46, rfl, hk49⟩; refine ⟨_, rfl, ?_⟩
      have st50 := St.call st45 hk49
      refine sx rfl (stp_alloc zz_Engine st50 ?_); intro b52 W53 hb54 st55
      refine sx rfl (stp_store_all (cs := cs46) ld_Engine (own_C (st55.get 1 rfl) rfl) rfl rfl st55 rfl ?_); intro W57 st58
      refine sx_nil ?_
      refine wp_seq ?_
      refine sx_region ?_
      refine sx rfl (stp_load_bxa ld_Engine rfl rfl (st58.get 2 rfl) (Shape.len (own_C (st58.get 3 rfl) rfl)) ?_)
      refine sx rfl (stp_load_bxa ld_Engine rfl rfl (st58.get 0 rfl) (Shape.len (own_C (st58.get 1 rfl) rfl)) ?_)
      refine sx rfl (stp_call2 Try.func18 rfl rfl rfl ((LostOfI W57 (own_C (st58.get 3 rfl) rfl) (own_C (st58.get 1 rfl) rfl)).mono ?_)); rintro _ W59 ⟨rfl, hk60⟩; refine ⟨_, rfl, ?_⟩
      have st61 := St.call st58 hk60
      refine sx rfl (stp_assign (v := I (lostOf x0 x1)) rfl ?_)
      refine sx_nil ?_
      refine wp_seq ?_
      refine wp_seq ?_
      refine sx_region ?_
      refine sx rfl (stp_move (v := I (lostOf x0 x1)) rfl ?_)
      refine sx rfl (stp_move (v := I (lostOf x0 x1)) (hv31 5 6 (by decide) rfl) ?_)
      refine sx rfl (stp_neq rfl rfl ?_)
      refine sx_nil ?_
      refine sx_if rfl (fun h63 => ?_) (fun h63 => ?_)
      · skip
        have h63p := of_decide_eq_false (bnot_t h63)
        exact absurd rfl h63p
      · skip
        have h63p := of_decide_eq_true (bnot_f h63)
        refine wp_skip ?_
        refine wp_seq ?_
        refine wp_seq ?_
        refine sx_any [Pl.is (.agg cs33.toArray), Pl.is (.agg cs0.toArray), Pl.sval (α := Engine) x0, Pl.bool (eqB x0 x0), Pl.bool (!(eqB x0 x0))] mix (by rfl) st61 ⟨(fun f W hst hbl hd hf => stp_load_bxa ld_Engine rfl ((hf 7 rfl).trans (show _ = (.pointer (some ⟨b39, 0, none⟩) : Value) from rfl)) (hst.get 2 rfl) (Shape.len (own_C (hst.get 3 rfl) rfl)) ⟨Below.refl _ _, rfl⟩), (fun f W hst hbl hd hf => stp_load_bxa ld_EngineL rfl ((hf 2 rfl).trans ((hf32 2 rfl).trans (show _ = (.pointer (some ⟨b1, 0, none⟩) : Value) from rfl))) (hst.get 5 rfl) (Shape.len hc0) ⟨Below.refl _ _, rfl⟩), (fun f W hst hbl hd hf => stp_call1 Try.func17 rfl (hd 1 36 rfl rfl) ((toEngine_n W (C_below hc0 hst.below) (by first | exact hw | omega | (simp only [Plan.wt, Run.wt, Yard.wt, Deed.wt, Note.wt, File.wt, Disk.wt, Engine.wt, WorldD.wt, ActD.wt, Span.wt, Crew.wt] at *; omega))).mono (by rintro e W2 ⟨cs, fp, rfl, hk⟩; exact ⟨_, rfl, hk.below, fp, own_V (hk.get 0 rfl)⟩))), (fun f W hst hbl hd hf => by obtain ⟨fp66, cs66, e66, hc66⟩ := hd 2 37 rfl rfl; exact stp_call2 Try.func19 rfl (hd 0 35 rfl rfl) e66 ((eqEngine_n W (own_C (hst.get 3 rfl) rfl) hc66).mono (by rintro e W2 ⟨rfl, hk⟩; exact ⟨_, rfl, hk.below, rfl⟩))), (fun f W hst hbl hd hf => stp_not (hd 3 38 rfl rfl) ⟨Below.refl _ _, rfl⟩), trivial⟩ ?_
        intro f67 W68 st69 hb70 hv71 hf72
        refine sx_if (hv71 4 39 (by decide) rfl) (fun h73 => ?_) (fun h73 => ?_)
        · skip
          exact absurd (bnot_t h73) (by rw [eqB_t rfl]; decide)
        · skip
          refine wp_skip ?_
          refine wp_seq ?_
          refine wp_seq ?_
          refine sx_any [Pl.is (.agg cs46.toArray), Pl.is (.agg cs1.toArray), Pl.sval (α := Engine) x1, Pl.bool (eqB x1 x1), Pl.bool (!(eqB x1 x1))] mix (by rfl) st69 ⟨(fun f W hst hbl hd hf => stp_load_bxa ld_Engine rfl ((hf 8 rfl).trans ((hf72 8 rfl).trans (show _ = (.pointer (some ⟨b52, 0, none⟩) : Value) from rfl))) (hst.get 0 rfl) (Shape.len (own_C (hst.get 1 rfl) rfl)) ⟨Below.refl _ _, rfl⟩), (fun f W hst hbl hd hf => stp_load_bxa ld_EngineL rfl ((hf 3 rfl).trans ((hf72 3 rfl).trans ((hf32 3 rfl).trans (show _ = (.pointer (some ⟨b6, 0, none⟩) : Value) from rfl)))) (hst.get 4 rfl) (Shape.len hc1) ⟨Below.refl _ _, rfl⟩), (fun f W hst hbl hd hf => stp_call1 Try.func17 rfl (hd 1 41 rfl rfl) ((toEngine_n W (C_below hc1 hst.below) (by first | exact hw | omega | (simp only [Plan.wt, Run.wt, Yard.wt, Deed.wt, Note.wt, File.wt, Disk.wt, Engine.wt, WorldD.wt, ActD.wt, Span.wt, Crew.wt] at *; omega))).mono (by rintro e W2 ⟨cs, fp, rfl, hk⟩; exact ⟨_, rfl, hk.below, fp, own_V (hk.get 0 rfl)⟩))), (fun f W hst hbl hd hf => by obtain ⟨fp76, cs76, e76, hc76⟩ := hd 2 42 rfl rfl; exact stp_call2 Try.func19 rfl (hd 0 40 rfl rfl) e76 ((eqEngine_n W (own_C (hst.get 1 rfl) rfl) hc76).mono (by rintro e W2 ⟨rfl, hk⟩; exact ⟨_, rfl, hk.below, rfl⟩))), (fun f W hst hbl hd hf => stp_not (hd 3 43 rfl rfl) ⟨Below.refl _ _, rfl⟩), trivial⟩ ?_
          intro f77 W78 st79 hb80 hv81 hf82
          refine sx_if (hv81 4 44 (by decide) rfl) (fun h83 => ?_) (fun h83 => ?_)
          · skip
            exact absurd (bnot_t h83) (by rw [eqB_t rfl]; decide)
          · skip
            refine wp_skip ?_
            refine wp_seq ?_
            refine sx_region ?_
            refine sx rfl (stp_assign (v := .bool true) rfl ?_)
            refine sx_nil ?_
            refine wp_ret ?_; repeat (first | refine then_ret ?_ | refine blk_ret ?_)
            refine ret1 Try.results4 rfl ?_
            exact ⟨rfl, st79.below⟩
end Go.Proofs.Ytpkfgalpjaoebaa
