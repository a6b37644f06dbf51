/-
  The law on StuckOf, walked. (Printed by a program of this project's.)
-/
import Derived.Test.YtpkfgalpjaoebaaTo
import Derived.Test.YtpkfgalpjaoebaaSz
import Derived.Test.YtpkfgalpjaoebaaEq
import Derived.Test.YtpkfgalpjaoebaaView
import Derived.Test.YtpkfgalpjaoebaaMk
namespace Go.Proofs.Ytpkfgalpjaoebaa
set_option linter.unusedSimpArgs false
set_option linter.unusedVariables false
set_option maxRecDepth 100000
open Go.RowKit

set_option maxHeartbeats 2000000 in
theorem stuckOf_law (w : World) (cs0 : List Value) (x0 : Yard) (fp0 : List Nat) (hc0 : Shape.C w cs0 x0 fp0) :
    Calls Try.prog 3 #[.agg cs0.toArray] w fun e w' => e = .returned (.bool true) ∧ Below w.heap.size w w' := by
  have hlr := idsOf_len x0 isStuck x0.runs.length
  have hyr : x0.runs.length ≤ x0.wt := by unfold Yard.wt wtL; omega
  refine enter1 Try.func3 rfl Try.ntmps3 (by decide) ?_
  refine wp_seq ?_
  refine sx_region ?_
  refine sx rfl (stp_box_agg (cs := cs0) rfl (St.start w) ?_); intro b1 W2 hb3 st4
  refine sx rfl (stp_assign (v := .bool false) rfl ?_)
  refine sx_nil ?_
  refine wp_seq ?_
  refine sx_region ?_
  refine sx rfl (stp_assign (v := I 1048576) rfl ?_)
  refine sx_nil ?_
  refine wp_seq ?_
  refine sx_region ?_
  refine sx rfl (stp_load_bxa ld_YardL rfl rfl (st4.get 0 rfl) (Shape.len hc0) ?_)
  refine sx rfl (stp_move (v := I 1048576) rfl ?_)
  refine sx rfl (stp_call2 Try.func6 rfl rfl rfl ((szYard_n W2 (C_below hc0 st4.below) 1048576 (by omega) (by omega)).mono ?_)); rintro _ W6 ⟨rfl, hk7⟩; refine ⟨_, rfl, ?_⟩
  have st8 := St.call st4 hk7
  refine sx rfl (stp_assign (v := I (szL 1048576 x0.wt)) rfl ?_)
  refine sx_nil ?_
  refine wp_seq ?_
  refine wp_seq ?_
  refine sx_region ?_
  refine sx rfl (stp_move (v := I (szL 1048576 x0.wt)) rfl ?_)
  refine sx rfl (stp_lss rfl rfl ?_)
  refine sx_nil ?_
  refine sx_if rfl (fun h10 => ?_) (fun h10 => ?_)
  · skip
    have h10p := of_decide_eq_true h10
    have h10q := szL_lt h10p (by omega)
    refine wp_seq ?_
    refine sx_region ?_
    refine sx rfl (stp_assign (v := .bool true) rfl ?_)
    refine sx_nil ?_
    refine wp_ret ?_; repeat (first | refine then_ret ?_ | refine blk_ret ?_)
    refine ret1 Try.results3 rfl ?_
    exact ⟨rfl, st8.below⟩
  · skip
    have h10p := of_decide_eq_false h10
    have h10q := szL_ge h10p (by omega)
    refine wp_skip ?_
    refine wp_seq ?_
    refine sx_region ?_
    refine sx rfl (stp_load_bxa ld_YardL rfl rfl (st8.get 0 rfl) (Shape.len hc0) ?_)
    refine sx rfl (stp_call1 Try.func8 rfl rfl ((toYard_n W6 (C_below hc0 st8.below) (by first | exact hw | omega | (simp only [Plan.wt, Run.wt, Yard.wt, Deed.wt, Note.wt, File.wt, Disk.wt, Engine.wt, WorldD.wt, ActD.wt, Span.wt, Crew.wt] at *; omega))).mono ?_)); rintro _ W13 ⟨cs11, fp11, rfl, hk14⟩; refine ⟨_, rfl, ?_⟩
    have st15 := St.call st8 hk14
    refine sx rfl (stp_call1 Try.func7 rfl rfl ((StuckOfS W13 (own_C (st15.get 0 rfl) rfl) (by omega)).mono ?_)); rintro _ W19 ⟨v17, fp17, rfl, hk20⟩; refine ⟨_, rfl, ?_⟩
    have st21 := St.call st15 hk20
    refine sx rfl (stp_assign (v := v17) rfl ?_)
    refine sx_nil ?_
    refine wp_seq ?_
    refine sx_region ?_
    refine sx rfl (stp_load_bxa ld_YardL rfl rfl (st21.get 2 rfl) (Shape.len hc0) ?_)
    refine sx rfl (stp_call1 Try.func8 rfl rfl ((toYard_n W19 (C_below hc0 st21.below) (by first | exact hw | omega | (simp only [Plan.wt, Run.wt, Yard.wt, Deed.wt, Note.wt, File.wt, Disk.wt, Engine.wt, WorldD.wt, ActD.wt, Span.wt, Crew.wt] at *; omega))).mono ?_)); rintro _ W25 ⟨cs23, fp23, rfl, hk26⟩; refine ⟨_, rfl, ?_⟩
    have st27 := St.call st21 hk26
    refine sx rfl (stp_alloc zz_Yard st27 ?_); intro b29 W30 hb31 st32
    refine sx rfl (stp_store_all (cs := cs23) ld_Yard (own_C (st32.get 1 rfl) rfl) rfl rfl st32 rfl ?_); intro W34 st35
    refine sx_nil ?_
    refine wp_seq ?_
    refine sx_region ?_
    refine sx rfl (stp_load_bxa ld_Yard rfl rfl (st35.get 0 rfl) (Shape.len (own_C (st35.get 1 rfl) rfl)) ?_)
    refine sx rfl (stp_call1 Try.func9 rfl rfl ((StuckOfI W34 (own_C (st35.get 1 rfl) rfl) (by omega)).mono ?_)); rintro _ W38 ⟨v36, fp36, rfl, hk39⟩; refine ⟨_, rfl, ?_⟩
    have st40 := St.call st35 hk39
    refine sx rfl (stp_assign (v := v36) rfl ?_)
    refine sx_nil ?_
    refine wp_seq ?_
    refine wp_seq ?_
    refine sx_region ?_
    refine sx rfl (stp_move (v := v36) rfl ?_)
    refine sx rfl (stp_move (v := v17) rfl ?_)
    refine sx rfl (stp_call2 Try.func10 rfl rfl rfl ((eqIntS_n W38 (own_Sl (st40.get 0 rfl)) (own_Sl (st40.get 3 rfl))).mono ?_)); rintro _ W42 ⟨rfl, hk43⟩; refine ⟨_, rfl, ?_⟩
    have st44 := St.call st40 hk43
    refine sx rfl (stp_not rfl ?_)
    refine sx_nil ?_
    refine sx_if rfl (fun h46 => ?_) (fun h46 => ?_)
    · skip
      exact absurd (bnot_t h46) (by rw [eqB_t rfl]; decide)
    · skip
      refine wp_skip ?_
      refine wp_seq ?_
      refine wp_seq ?_
      refine sx_any [Pl.is (.agg cs23.toArray), Pl.is (.agg cs0.toArray), Pl.sval (α := Yard) x0, Pl.bool (eqB x0 x0), Pl.bool (!(eqB x0 x0))] mix (by rfl) st44 ⟨(fun f W hst hbl hd hf => stp_load_bxa ld_Yard rfl ((hf 5 rfl).trans (show _ = (.pointer (some ⟨b29, 0, none⟩) : Value) from rfl)) (hst.get 1 rfl) (Shape.len (own_C (hst.get 2 rfl) rfl)) ⟨Below.refl _ _, rfl⟩), (fun f W hst hbl hd hf => stp_load_bxa ld_YardL rfl ((hf 1 rfl).trans (show _ = (.pointer (some ⟨b1, 0, none⟩) : Value) from rfl)) (hst.get 5 rfl) (Shape.len hc0) ⟨Below.refl _ _, rfl⟩), (fun f W hst hbl hd hf => stp_call1 Try.func8 rfl (hd 1 28 rfl rfl) ((toYard_n W (C_below hc0 hst.below) (by first | exact hw | omega | (simp only [Plan.wt, Run.wt, Yard.wt, Deed.wt, Note.wt, File.wt, Disk.wt, Engine.wt, WorldD.wt, ActD.wt, Span.wt, Crew.wt] at *; omega))).mono (by rintro e W2 ⟨cs, fp, rfl, hk⟩; exact ⟨_, rfl, hk.below, fp, own_V (hk.get 0 rfl)⟩))), (fun f W hst hbl hd hf => by obtain ⟨fp49, cs49, e49, hc49⟩ := hd 2 29 rfl rfl; exact stp_call2 Try.func11 rfl (hd 0 27 rfl rfl) e49 ((eqYard_n W (own_C (hst.get 2 rfl) rfl) hc49).mono (by rintro e W2 ⟨rfl, hk⟩; exact ⟨_, rfl, hk.below, rfl⟩))), (fun f W hst hbl hd hf => stp_not (hd 3 30 rfl rfl) ⟨Below.refl _ _, rfl⟩), trivial⟩ ?_
      intro f50 W51 st52 hb53 hv54 hf55
      refine sx_if (hv54 4 31 (by decide) rfl) (fun h56 => ?_) (fun h56 => ?_)
      · skip
        exact absurd (bnot_t h56) (by rw [eqB_t rfl]; decide)
      · skip
        refine wp_skip ?_
        refine wp_seq ?_
        refine sx_region ?_
        refine sx rfl (stp_assign (v := I 1) rfl ?_)
        refine sx_nil ?_
        refine wp_seq ?_
        refine sx_region ?_
        refine sx rfl (stp_load_bxa ld_Yard rfl ((hf55 5 rfl).trans (show _ = (.pointer (some ⟨b29, 0, none⟩) : Value) from rfl)) (st52.get 1 rfl) (Shape.len (own_C (st52.get 2 rfl) rfl)) ?_)
        refine sx rfl (stp_move (v := I 1) rfl ?_)
        have st61 := st52.f2
        refine sx rfl (stp_call2 Try.func12 rfl rfl rfl ((markYard_n st61 1 (by omega) (by have := nt_Yard x0; omega)).mono ?_)); rintro _ W57 ⟨fp60, rfl, st59⟩; refine ⟨_, rfl, ?_⟩
        refine sx rfl (stp_assign (v := I (1 + (ntT_Yard x0 : Nat))) rfl ?_)
        refine sx_nil ?_
        refine wp_seq ?_
        refine wp_seq ?_
        refine sx_region ?_
        refine sx rfl (stp_move (v := I (1 + (ntT_Yard x0 : Nat))) rfl ?_)
        refine sx rfl (stp_lss rfl rfl ?_)
        refine sx rfl (stp_move (v := .bool (decide ((1 + (ntT_Yard x0 : Nat)) < 0))) rfl ?_)
        rcases bd (decide ((1 + (ntT_Yard x0 : Nat)) < 0)) with h62 | h62
        · skip
          have h62p := of_decide_eq_false h62
          refine sx_on (j := 2) (dd := 37) rfl rfl (by decide) (yl_on (e := decide ((1 + (ntT_Yard x0 : Nat)) < 0)) rfl h62) (stp_move (v := v36) ((hf55 6 rfl).trans (show _ = v36 from rfl)) ?_)
          refine sx_on (j := 2) (dd := 37) rfl rfl (by decide) (yl_on (e := decide ((1 + (ntT_Yard x0 : Nat)) < 0)) rfl h62) (stp_move (v := v17) ((hf55 4 rfl).trans (show _ = v17 from rfl)) ?_)
          refine sx_on (j := 2) (dd := 37) rfl rfl (by decide) (yl_on (e := decide ((1 + (ntT_Yard x0 : Nat)) < 0)) rfl h62) (stp_call2 Try.func10 rfl rfl rfl ((eqIntS_n W57 (own_Sl (st59.get 1 rfl)) (own_Sl (st59.get 3 rfl))).mono ?_)); rintro _ W63 ⟨rfl, hk64⟩; refine ⟨_, rfl, ?_⟩
          have st65 := St.call st59 hk64
          refine sx_on (j := 2) (dd := 37) rfl rfl (by decide) (yl_on (e := decide ((1 + (ntT_Yard x0 : Nat)) < 0)) rfl h62) (stp_not rfl ?_)
          refine sx rfl (stp_pick_f (v := .bool (!(eqB (idsOf x0 isStuck x0.runs.length) (idsOf x0 isStuck x0.runs.length)))) ((rfl : _ = (.bool (decide ((1 + (ntT_Yard x0 : Nat)) < 0)) : Value)).trans (congrArg Value.bool h62)) rfl ?_)
          refine sx_nil ?_
          refine sx_f rfl h46 ?_
          refine wp_skip ?_
          refine wp_seq ?_
          refine sx_region ?_
          refine sx rfl (stp_assign (v := I 1) rfl ?_)
          refine sx_nil ?_
          refine wp_seq ?_
          refine sx_region ?_
          refine sx rfl (stp_move (v := v36) ((hf55 6 rfl).trans (show _ = v36 from rfl)) ?_)
          refine sx rfl (stp_move (v := I 1) rfl ?_)
          have st71 := st65.f1
          refine sx rfl (stp_call2 Try.func13 rfl rfl rfl ((markIntS_n st71 1 (by omega) (by have := cb_IntS (idsOf x0 isStuck x0.runs.length); omega)).mono ?_)); rintro _ W67 ⟨fp70, rfl, st69⟩; refine ⟨_, rfl, ?_⟩
          refine sx rfl (stp_assign (v := I (1 + (cL neI (idsOf x0 isStuck x0.runs.length) : Nat))) rfl ?_)
          refine sx_nil ?_
          refine wp_seq ?_
          refine sx_region ?_
          refine sx rfl (stp_assign (v := I 1) rfl ?_)
          refine sx_nil ?_
          refine wp_seq ?_
          refine sx_region ?_
          refine sx rfl (stp_move (v := v36) ((hf55 6 rfl).trans (show _ = v36 from rfl)) ?_)
          refine sx rfl (stp_move (v := I 1) rfl ?_)
          refine sx rfl (stp_call2 Try.func14 rfl rfl rfl ((heldIntS_n W67 (x := (idsOf x0 isStuck x0.runs.length)) (own_Sl (st69.get 0 rfl)) (by omega) (by have := cb_IntS (idsOf x0 isStuck x0.runs.length); omega)).mono ?_)); rintro _ W72 ⟨rfl, hk73⟩; refine ⟨_, rfl, ?_⟩
          have st74 := St.call st69 hk73
          refine sx rfl (stp_assign (v := I (1 + (cL neI (idsOf x0 isStuck x0.runs.length) : Nat))) rfl ?_)
          refine sx_nil ?_
          refine wp_seq ?_
          refine wp_seq ?_
          refine sx_region ?_
          refine sx rfl (stp_move (v := I (1 + (cL neI (idsOf x0 isStuck x0.runs.length) : Nat))) rfl ?_)
          refine sx rfl (stp_lss rfl rfl ?_)
          refine sx_nil ?_
          refine sx_if rfl (fun h76 => ?_) (fun h76 => ?_)
          · skip
            have h76p := of_decide_eq_true h76
            omega
          · skip
            have h76p := of_decide_eq_false h76
            refine wp_skip ?_
            refine wp_seq ?_
            refine wp_seq ?_
            refine sx_region ?_
            refine sx rfl (stp_move (v := I (1 + (cL neI (idsOf x0 isStuck x0.runs.length) : Nat))) rfl ?_)
            refine sx rfl (stp_move (v := I (1 + (cL neI (idsOf x0 isStuck x0.runs.length) : Nat))) rfl ?_)
            refine sx rfl (stp_neq rfl rfl ?_)
            refine sx_nil ?_
            refine sx_if rfl (fun h77 => ?_) (fun h77 => ?_)
            · skip
              have h77p := of_decide_eq_false (bnot_t h77)
              exact absurd rfl h77p
            · skip
              have h77p := of_decide_eq_true (bnot_f h77)
              refine wp_skip ?_
              refine wp_seq ?_
              refine sx_region ?_
              refine sx rfl (stp_load_bxa ld_YardL rfl ((hf55 1 rfl).trans (show _ = (.pointer (some ⟨b1, 0, none⟩) : Value) from rfl)) (st74.get 5 rfl) (Shape.len hc0) ?_)
              refine sx rfl (stp_call1 Try.func8 rfl rfl ((toYard_n W72 (C_below hc0 st74.below) (by first | exact hw | omega | (simp only [Plan.wt, Run.wt, Yard.wt, Deed.wt, Note.wt, File.wt, Disk.wt, Engine.wt, WorldD.wt, ActD.wt, Span.wt, Crew.wt] at *; omega))).mono ?_)); rintro _ W80 ⟨cs78, fp78, rfl, hk81⟩; refine ⟨_, rfl, ?_⟩
              have st82 := St.call st74 hk81
              refine sx rfl (stp_call1 Try.func9 rfl rfl ((StuckOfI W80 (own_C (st82.get 0 rfl) rfl) (by omega)).mono ?_)); rintro _ W86 ⟨v84, fp84, rfl, hk87⟩; refine ⟨_, rfl, ?_⟩
              have st88 := St.call st82 hk87
              refine sx rfl (stp_assign (v := v84) rfl ?_)
              refine sx_nil ?_
              refine wp_seq ?_
              refine wp_seq ?_
              refine sx_region ?_
              refine sx rfl (stp_move (v := v84) rfl ?_)
              refine sx rfl (stp_move (v := v17) ((hf55 4 rfl).trans (show _ = v17 from rfl)) ?_)
              refine sx rfl (stp_call2 Try.func10 rfl rfl rfl ((eqIntS_n W86 (own_Sl (st88.get 0 rfl)) (own_Sl (st88.get 5 rfl))).mono ?_)); rintro _ W90 ⟨rfl, hk91⟩; refine ⟨_, rfl, ?_⟩
              have st92 := St.call st88 hk91
              refine sx rfl (stp_not rfl ?_)
              refine sx_nil ?_
              refine sx_f rfl h46 ?_
              refine wp_skip ?_
              refine wp_seq ?_
              refine sx_region ?_
              refine sx rfl (stp_assign (v := I 1) rfl ?_)
              refine sx_nil ?_
              refine wp_seq ?_
              refine sx_region ?_
              refine sx rfl (stp_move (v := v36) ((hf55 6 rfl).trans (show _ = v36 from rfl)) ?_)
              refine sx rfl (stp_move (v := I 1) rfl ?_)
              refine sx rfl (stp_call2 Try.func14 rfl rfl rfl ((heldIntS_n W90 (x := (idsOf x0 isStuck x0.runs.length)) (own_Sl (st92.get 2 rfl)) (by omega) (by have := cb_IntS (idsOf x0 isStuck x0.runs.length); omega)).mono ?_)); rintro _ W94 ⟨rfl, hk95⟩; refine ⟨_, rfl, ?_⟩
              have st96 := St.call st92 hk95
              refine sx rfl (stp_assign (v := I (1 + (cL neI (idsOf x0 isStuck x0.runs.length) : Nat))) rfl ?_)
              refine sx_nil ?_
              refine wp_seq ?_
              refine wp_seq ?_
              refine sx_region ?_
              refine sx rfl (stp_move (v := I (1 + (cL neI (idsOf x0 isStuck x0.runs.length) : Nat))) rfl ?_)
              refine sx rfl (stp_lss rfl rfl ?_)
              refine sx_nil ?_
              refine sx_f rfl h76 ?_
              refine wp_skip ?_
              refine wp_seq ?_
              refine wp_seq ?_
              refine sx_region ?_
              refine sx rfl (stp_move (v := I (1 + (cL neI (idsOf x0 isStuck x0.runs.length) : Nat))) rfl ?_)
              refine sx rfl (stp_move (v := I (1 + (cL neI (idsOf x0 isStuck x0.runs.length) : Nat))) rfl ?_)
              refine sx rfl (stp_neq rfl rfl ?_)
              refine sx_nil ?_
              refine sx_f rfl h77 ?_
              refine wp_skip ?_
              refine wp_seq ?_
              refine sx_region ?_
              refine sx rfl (stp_assign (v := .bool true) rfl ?_)
              refine sx_nil ?_
              refine wp_ret ?_; repeat (first | refine then_ret ?_ | refine blk_ret ?_)
              refine ret1 Try.results3 rfl ?_
              exact ⟨rfl, st96.below⟩
        · skip
          have h62p := of_decide_eq_true h62
          omega
end Go.Proofs.Ytpkfgalpjaoebaa
