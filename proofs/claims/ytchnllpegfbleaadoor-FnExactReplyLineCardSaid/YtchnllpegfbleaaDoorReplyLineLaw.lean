/-
  The law on ReplyLine, walked. (Printed by a program of this project's.)
-/
import Derived.Test.YtchnllpegfbleaaDoorReplyL
import Derived.Test.YtchnllpegfbleaaDoorTo
namespace Go.Proofs.YtchnllpegfbleaaDoor
set_option linter.unusedSimpArgs false
set_option linter.unusedVariables false
set_option maxRecDepth 100000
open Go.RowKit

set_option maxHeartbeats 2000000 in
theorem replyLine_law (w : World) (cs0 : List Value) (x0 : Reply) (fp0 : List Nat) (hc0 : Shape.C w cs0 x0 fp0) (htab : Lib.TabIs Tryd.prog w "internal/strconv.uint64pow10" .u64 Lib.pow10Tab) :
    Calls Tryd.prog 3 #[.agg cs0.toArray] w fun e w' => e = .returned (.bool true) ∧ Below w.heap.size w w' := by
  refine enter1 Tryd.func3 rfl Tryd.ntmps3 (by decide) ?_
  refine wp_seq ?_
  refine sx_region ?_
  refine sx rfl (stp_box_agg (cs := cs0) rfl (St.start w) ?_); intro b1 W2 hb3 st4
  refine sx rfl (stp_assign (v := .bool false) rfl ?_)
  refine sx_nil ?_
  refine wp_seq ?_
  refine sx_region ?_
  refine sx rfl (stp_load_bxa ld_ReplyL rfl rfl (st4.get 0 rfl) (Shape.len hc0) ?_)
  refine sx rfl (stp_call1 Tryd.func8 rfl rfl ((toReply_n W2 hc0).mono ?_)); rintro _ W6 ⟨rfl, hokf9, hk7⟩; refine ⟨_, rfl, ?_⟩
  have st8 := St.call st4 hk7
  refine sx rfl (stp_call1 Tryd.func7 rfl rfl ((ReplyLineS W6 (show Shape.C _ [I x0.code, I x0.run, I x0.task, I x0.try_] x0 [] from ⟨rfl, rfl, hokf9⟩)).mono ?_)); rintro _ W10 ⟨rfl, hk11⟩; refine ⟨_, rfl, ?_⟩
  have st12 := St.call st8 hk11
  refine sx rfl (stp_assign (v := .string (replyLine x0)) rfl ?_)
  refine sx_nil ?_
  refine wp_seq ?_
  refine sx_region ?_
  refine sx rfl (stp_load_bxa ld_ReplyL rfl rfl (st12.get 0 rfl) (Shape.len hc0) ?_)
  refine sx rfl (stp_call1 Tryd.func8 rfl rfl ((toReply_n W10 hc0).mono ?_)); rintro _ W14 ⟨rfl, hokf17, hk15⟩; refine ⟨_, rfl, ?_⟩
  have st16 := St.call st12 hk15
  refine sx rfl (stp_call1 Tryd.func9 rfl rfl ((ReplyLineI W14 (show Shape.C _ [I x0.code, I x0.run, I x0.task, I x0.try_] x0 [] from ⟨rfl, rfl, hokf17⟩) (TabIs.below htab st16.below)).mono ?_)); rintro _ W18 ⟨rfl, hk19⟩; refine ⟨_, rfl, ?_⟩
  have st20 := St.call st16 hk19
  refine sx rfl (stp_assign (v := .string (replyLine x0)) rfl ?_)
  refine sx_nil ?_
  refine wp_seq ?_
  refine wp_seq ?_
  refine sx_region ?_
  refine sx rfl (stp_move (v := .string (replyLine x0)) rfl ?_)
  refine sx rfl (stp_move (v := .string (replyLine x0)) rfl ?_)
  refine sx rfl (stp_sneq rfl rfl ?_)
  refine sx_nil ?_
  refine sx_if rfl (fun h22 => ?_) (fun h22 => ?_)
  · skip
    have h22p := of_decide_eq_false (bnot_t h22)
    exact absurd rfl h22p
  · skip
    have h22p := of_decide_eq_true (bnot_f h22)
    refine wp_skip ?_
    refine wp_seq ?_
    refine sx_region ?_
    refine sx rfl (stp_assign (v := .bool true) rfl ?_)
    refine sx_nil ?_
    refine wp_ret ?_; repeat (first | refine then_ret ?_ | refine blk_ret ?_)
    refine ret1 Tryd.results3 rfl ?_
    exact ⟨rfl, st20.below⟩
end Go.Proofs.YtchnllpegfbleaaDoor
