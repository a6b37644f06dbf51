/-
  The law on WorldNew, walked. (Printed by a program of this project's.)
-/
import Derived.Test.YtpkfgalpjaoebaaTo
import Derived.Test.YtpkfgalpjaoebaaSz
import Derived.Test.YtpkfgalpjaoebaaEq
import Derived.Test.YtpkfgalpjaoebaaNew
import Derived.Test.YtpkfgalpjaoebaaMk
namespace Go.Proofs.Ytpkfgalpjaoebaa
set_option linter.unusedSimpArgs false
set_option linter.unusedVariables false
set_option maxRecDepth 100000
open Go.RowKit

set_option maxHeartbeats 2000000 in
theorem worldNew_law (w : World) :
    Calls Try.prog 5 #[] w fun e w' => e = .returned (.bool true) ∧ Below w.heap.size w w' := by
  have hwn : worldNew.wt ≤ 100 := by decide
  refine enter0 Try.func5 rfl Try.ntmps5 (by decide) ?_
  refine wp_seq ?_
  refine sx_region ?_
  refine sx rfl (stp_assign (v := .bool false) rfl ?_)
  refine sx_nil ?_
  refine wp_seq ?_
  refine sx_region ?_
  refine sx rfl (stp_call0 Try.func20 rfl  ((WorldNewS w ).mono ?_)); rintro _ W3 ⟨cs1, fp1, rfl, hk4⟩; refine ⟨_, rfl, ?_⟩
  have st5 := St.call (St.start w) hk4
  refine sx rfl (stp_alloc zz_World st5 ?_); intro b7 W8 hb9 st10
  refine sx rfl (stp_store_all (cs := cs1) ld_World (own_C (st10.get 1 rfl) rfl) rfl rfl st10 rfl ?_); intro W12 st13
  refine sx_nil ?_
  refine wp_seq ?_
  refine sx_region ?_
  refine sx rfl (stp_call0 Try.func21 rfl  ((WorldNewI W12 ).mono ?_)); rintro _ W16 ⟨cs14, fp14, rfl, hk17⟩; refine ⟨_, rfl, ?_⟩
  have st18 := St.call st13 hk17
  refine sx rfl (stp_alloc zz_World st18 ?_); intro b20 W21 hb22 st23
  refine sx rfl (stp_store_all (cs := cs14) ld_World (own_C (st23.get 1 rfl) rfl) rfl rfl st23 rfl ?_); intro W25 st26
  refine sx_nil ?_
  refine wp_seq ?_
  refine wp_seq ?_
  refine sx_region ?_
  refine sx rfl (stp_load_bxa ld_World rfl rfl (st26.get 0 rfl) (Shape.len (own_C (st26.get 1 rfl) rfl)) ?_)
  refine sx rfl (stp_load_bxa ld_World rfl rfl (st26.get 2 rfl) (Shape.len (own_C (st26.get 3 rfl) rfl)) ?_)
  refine sx rfl (stp_call2 Try.func22 rfl rfl rfl ((eqWorld_n W25 (own_C (st26.get 1 rfl) rfl) (own_C (st26.get 3 rfl) rfl)).mono ?_)); rintro _ W27 ⟨rfl, hk28⟩; refine ⟨_, rfl, ?_⟩
  have st29 := St.call st26 hk28
  refine sx rfl (stp_not rfl ?_)
  refine sx_nil ?_
  refine sx_if rfl (fun h31 => ?_) (fun h31 => ?_)
  · skip
    exact absurd (bnot_t h31) (by rw [eqB_t rfl]; decide)
  · skip
    refine wp_skip ?_
    refine wp_seq ?_
    refine sx_region ?_
    refine sx rfl (stp_assign (v := I 1) rfl ?_)
    refine sx_nil ?_
    refine wp_seq ?_
    refine sx_region ?_
    refine sx rfl (stp_load_bxa ld_World rfl rfl (st29.get 0 rfl) (Shape.len (own_C (st29.get 1 rfl) rfl)) ?_)
    refine sx rfl (stp_move (v := I 1) rfl ?_)
    have st36 := st29.f1
    refine sx rfl (stp_call2 Try.func23 rfl rfl rfl ((markWorld_n st36 1 (by omega) (by have := nt_World worldNew; omega)).mono ?_)); rintro _ W32 ⟨fp35, rfl, st34⟩; refine ⟨_, rfl, ?_⟩
    refine sx rfl (stp_assign (v := I (1 + (ntT_World worldNew : Nat))) rfl ?_)
    refine sx_nil ?_
    refine wp_seq ?_
    refine sx_region ?_
    refine sx rfl (stp_assign (v := I 1) rfl ?_)
    refine sx_nil ?_
    refine wp_seq ?_
    refine sx_region ?_
    refine sx rfl (stp_load_bxa ld_World rfl rfl (st34.get 1 rfl) (Shape.len (own_C (st34.get 0 rfl) rfl)) ?_)
    refine sx rfl (stp_move (v := I 1) rfl ?_)
    refine sx rfl (stp_call2 Try.func24 rfl rfl rfl ((heldWorld_n W32 (x := worldNew) (own_C (st34.get 0 rfl) rfl) (by omega) (by have := nt_World worldNew; omega)).mono ?_)); rintro _ W37 ⟨rfl, hk38⟩; refine ⟨_, rfl, ?_⟩
    have st39 := St.call st34 hk38
    refine sx rfl (stp_assign (v := I (1 + (ntT_World worldNew : Nat))) rfl ?_)
    refine sx_nil ?_
    refine wp_seq ?_
    refine wp_seq ?_
    refine sx_region ?_
    refine sx rfl (stp_move (v := I (1 + (ntT_World worldNew : Nat))) rfl ?_)
    refine sx rfl (stp_lss rfl rfl ?_)
    refine sx_nil ?_
    refine sx_if rfl (fun h41 => ?_) (fun h41 => ?_)
    · skip
      have h41p := of_decide_eq_true h41
      omega
    · skip
      have h41p := of_decide_eq_false h41
      refine wp_skip ?_
      refine wp_seq ?_
      refine wp_seq ?_
      refine sx_region ?_
      refine sx rfl (stp_move (v := I (1 + (ntT_World worldNew : Nat))) rfl ?_)
      refine sx rfl (stp_move (v := I (1 + (ntT_World worldNew : Nat))) rfl ?_)
      refine sx rfl (stp_neq rfl rfl ?_)
      refine sx_nil ?_
      refine sx_if rfl (fun h42 => ?_) (fun h42 => ?_)
      · skip
        have h42p := of_decide_eq_false (bnot_t h42)
        exact absurd rfl h42p
      · skip
        have h42p := of_decide_eq_true (bnot_f h42)
        refine wp_skip ?_
        refine wp_seq ?_
        refine sx_region ?_
        refine sx rfl (stp_call0 Try.func21 rfl  ((WorldNewI W37 ).mono ?_)); rintro _ W45 ⟨cs43, fp43, rfl, hk46⟩; refine ⟨_, rfl, ?_⟩
        have st47 := St.call st39 hk46
        refine sx rfl (stp_alloc zz_World st47 ?_); intro b49 W50 hb51 st52
        refine sx rfl (stp_store_all (cs := cs43) ld_World (own_C (st52.get 1 rfl) rfl) rfl rfl st52 rfl ?_); intro W54 st55
        refine sx_nil ?_
        refine wp_seq ?_
        refine wp_seq ?_
        refine sx_region ?_
        refine sx rfl (stp_load_bxa ld_World rfl rfl (st55.get 0 rfl) (Shape.len (own_C (st55.get 1 rfl) rfl)) ?_)
        refine sx rfl (stp_load_bxa ld_World rfl rfl (st55.get 4 rfl) (Shape.len (own_C (st55.get 5 rfl) rfl)) ?_)
        refine sx rfl (stp_call2 Try.func22 rfl rfl rfl ((eqWorld_n W54 (own_C (st55.get 1 rfl) rfl) (own_C (st55.get 5 rfl) rfl)).mono ?_)); rintro _ W56 ⟨rfl, hk57⟩; refine ⟨_, rfl, ?_⟩
        have st58 := St.call st55 hk57
        refine sx rfl (stp_not rfl ?_)
        refine sx_nil ?_
        refine sx_f rfl h31 ?_
        refine wp_skip ?_
        refine wp_seq ?_
        refine sx_region ?_
        refine sx rfl (stp_assign (v := I 1) rfl ?_)
        refine sx_nil ?_
        refine wp_seq ?_
        refine sx_region ?_
        refine sx rfl (stp_load_bxa ld_World rfl rfl (st58.get 3 rfl) (Shape.len (own_C (st58.get 2 rfl) rfl)) ?_)
        refine sx rfl (stp_move (v := I 1) rfl ?_)
        refine sx rfl (stp_call2 Try.func24 rfl rfl rfl ((heldWorld_n W56 (x := worldNew) (own_C (st58.get 2 rfl) rfl) (by omega) (by have := nt_World worldNew; omega)).mono ?_)); rintro _ W60 ⟨rfl, hk61⟩; refine ⟨_, rfl, ?_⟩
        have st62 := St.call st58 hk61
        refine sx rfl (stp_assign (v := I (1 + (ntT_World worldNew : Nat))) rfl ?_)
        refine sx_nil ?_
        refine wp_seq ?_
        refine wp_seq ?_
        refine sx_region ?_
        refine sx rfl (stp_move (v := I (1 + (ntT_World worldNew : Nat))) rfl ?_)
        refine sx rfl (stp_lss rfl rfl ?_)
        refine sx_nil ?_
        refine sx_f rfl h41 ?_
        refine wp_skip ?_
        refine wp_seq ?_
        refine wp_seq ?_
        refine sx_region ?_
        refine sx rfl (stp_move (v := I (1 + (ntT_World worldNew : Nat))) rfl ?_)
        refine sx rfl (stp_move (v := I (1 + (ntT_World worldNew : Nat))) rfl ?_)
        refine sx rfl (stp_neq rfl rfl ?_)
        refine sx_nil ?_
        refine sx_f rfl h42 ?_
        refine wp_skip ?_
        refine wp_seq ?_
        refine sx_region ?_
        refine sx rfl (stp_assign (v := .bool true) rfl ?_)
        refine sx_nil ?_
        refine wp_ret ?_; repeat (first | refine then_ret ?_ | refine blk_ret ?_)
        refine ret1 Try.results5 rfl ?_
        exact ⟨rfl, st62.below⟩
end Go.Proofs.Ytpkfgalpjaoebaa
