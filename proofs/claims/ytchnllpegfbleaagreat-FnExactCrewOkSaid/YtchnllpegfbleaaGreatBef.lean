/-
  The tasks before and behind a task: of the program and of the reference. (Printed by a program of this project's.)
-/
import Derived.Test.YtchnllpegfbleaaGreatPlan
import Derived.Test.YtchnllpegfbleaaGreatSort
import Derived.Test.YtchnllpegfbleaaGreatSxNew
namespace Go.Proofs.YtchnllpegfbleaaGreat
set_option linter.unusedSimpArgs false
set_option linter.unusedVariables false
set_option maxRecDepth 100000
open Go.RowKit

set_option maxHeartbeats 2000000 in
theorem BeforeE (w : World) {p : Plan} {cs : List Value} {fp : List Nat} (hc : Shape.C w cs p fp) (task : Int) (hn : 1 ≤ p.tasks ∧ p.tasks ≤ 12) (hl : p.edges.length ≤ 30) (hE : EdgesIn p.tasks.toNat p.edges) :
    Calls Tryz.prog 214 #[.agg cs.toArray, I task] w fun e w' => ∃ (v : Value) (fp' : List Nat), e = .returned v ∧ St w w' [Res.own v (sortI (froms p.edges task)) fp'] := by
  refine enter2 Tryz.func214 rfl Tryz.ntmps214 (by decide) ?_
  refine wp_seq ?_
  refine sx_region ?_
  refine sx rfl (stp_box_agg (cs := cs) rfl (St.start w) ?_); intro b1 W2 hb3 st4
  refine sx rfl (stp_assign (v := .slice none 0 0) rfl ?_)
  refine sx_nil ?_
  refine wp_seq ?_
  refine sx_region ?_
  refine sx rfl (stp_buildSlice (cs := []) (e := 3) pnil (run_buildSlice0 ap_IntS _) st4 ?_); intro b6 W7 hb8 st9
  have st9 := st9.row_empty (α := Int)
  refine sx rfl (stp_assign (v := (.slice (some ⟨b6, 0, none⟩) 0 0)) rfl ?_)
  refine sx_nil ?_
  refine wp_seq ?_
  refine wp_seq ?_
  refine sx_region ?_
  refine sx rfl (stp_assign (v := I 0) rfl ?_)
  refine sx_nil ?_
  refine wp_block ?_
  refine sx_loop (fun (m : Nat) (f : Nat → Value) (W : World) => ∃ (k : Nat) (v11 : Value), k ≤ p.tasks.toNat ∧ m = p.tasks.toNat - k ∧ f 1 = I task ∧ f 2 = .pointer (some ⟨b1, 0, none⟩) ∧ f 5 = v11 ∧ f 6 = I (k : Int) ∧ St w W ([Res.row (α := Int) 3 v11 (byTurn (froms p.edges task) k) [], Res.bx b1 cs 106])) (p.tasks.toNat - 0) ?_ ?_
  · exact ⟨0, (.slice (some ⟨b6, 0, none⟩) 0 0), (by first | omega | simp), rfl, rfl, rfl, rfl, rfl, st9⟩
  intro m12 f13 W14 hJ15
  obtain ⟨k, v11, hcd17_0, rfl, hs17_1, hs17_2, hs17_5, hs17_6, st16⟩ := hJ15
  refine wp_seq ?_
  refine wp_seq ?_
  refine sx_region ?_
  refine sx rfl (stp_move (v := I (k : Int)) hs17_6 ?_)
  refine sx rfl (stp_fieldAddr fa_Plan_3 hs17_2 ?_)
  have hk18 := hc
  obtain ⟨v18_0, g18_0, rfl, hok18, h18_0, rfl⟩ := hk18
  refine sx rfl (stp_load_bx ld_int rfl rfl (st16.get 1 rfl) (i := 3) rfl rfl ?_)
  refine sx rfl (stp_lss rfl rfl ?_)
  refine sx_nil ?_
  refine sx_if rfl (fun h19 => ?_) (fun h19 => ?_)
  · skip
    have h19p := of_decide_eq_true h19
    refine wp_skip ?_
    refine wp_seq ?_
    refine wp_block ?_
    refine wp_seq ?_
    refine sx_region ?_
    refine sx rfl (stp_assign (v := I 0) rfl ?_)
    refine sx_nil ?_
    refine wp_block ?_
    refine sx_loop (fun (m : Nat) (f : Nat → Value) (W : World) => ∃ (i : Nat) (v20 : Value), i ≤ p.edges.length ∧ m = p.edges.length - i ∧ f 1 = I task ∧ f 2 = .pointer (some ⟨b1, 0, none⟩) ∧ f 5 = v20 ∧ f 6 = I (k : Int) ∧ f 7 = I (i : Int) ∧ St w W ([Res.row (α := Int) 3 v20 (byTurn (froms p.edges task) k ++ onesF (p.edges.take i) task (k : Int)) [], Res.bx b1 [I p.prio, I p.most, I p.wait, I p.tasks, v18_0] 106])) (p.edges.length - 0) ?_ ?_
    · exact ⟨0, v11, (by first | omega | simp), rfl, hs17_1, hs17_2, hs17_5, hs17_6, rfl, (by have hz := st16; rw [show byTurn (froms p.edges task) k = byTurn (froms p.edges task) k ++ onesF (p.edges.take 0) task (k : Int) from (List.append_nil _).symm] at hz; exact hz)⟩
    intro m21 f22 W23 hJ24
    obtain ⟨i, v20, hcd26_0, rfl, hs26_1, hs26_2, hs26_5, hs26_6, hs26_7, st25⟩ := hJ24
    have hol := onesF_len p.edges task (k : Int) i k
    refine wp_seq ?_
    refine wp_seq ?_
    refine sx_region ?_
    refine sx rfl (stp_move (v := I (i : Int)) hs26_7 ?_)
    refine sx rfl (stp_fieldAddr fa_Plan_4 hs26_2 ?_)
    refine sx rfl (stp_load_bx ld_EdgeS rfl rfl (st25.get 1 rfl) (i := 4) rfl rfl ?_)
    refine sx rfl (stp_len sl_EdgeS rfl h18_0 ?_)
    refine sx rfl (stp_lss rfl rfl ?_)
    refine sx_nil ?_
    refine sx_if rfl (fun h27 => ?_) (fun h27 => ?_)
    · skip
      have h27p := of_decide_eq_true h27
      refine wp_skip ?_
      refine wp_seq ?_
      refine wp_block ?_
      refine wp_seq ?_
      refine sx_region ?_
      refine sx rfl (stp_fieldAddr fa_Plan_4 hs26_2 ?_)
      refine sx rfl (stp_load_bx ld_EdgeS rfl rfl (st25.get 1 rfl) (i := 4) rfl rfl ?_)
      refine sx rfl (stp_move (v := I (i : Int)) hs26_7 ?_)
      have hi99fa3 : i < p.edges.length := (by omega)
      have hq_ := idx h18_0 (i := i) hi99fa3
      obtain ⟨b28, o28, cs28, f28, hp28, hr28, hc28, hm28⟩ := hq_
      refine sx rfl (stp_indexAddr sl_EdgeS rfl hp28 rfl rfl ?_)
      refine sx rfl (stp_fieldAddr fa_Edge_0 rfl ?_)
      have hk29 := hc28
      obtain ⟨he29, rfl, hok29⟩ := hk29
      have he29 : _ = [I (p.edges[i]'hi99fa3).from_, I (p.edges[i]'hi99fa3).to_] := he29
      subst he29
      refine sx rfl (stp_load_rg ld_int rfl rfl hr28 st25.below (i := 0) rfl rfl ?_)
      refine sx rfl (stp_move (v := I (k : Int)) hs26_6 ?_)
      refine sx rfl (stp_eql rfl rfl ?_)
      refine sx rfl (stp_move (v := .bool (decide ((p.edges[i]'hi99fa3).from_ = (k : Int)))) rfl ?_)
      rcases bd (decide ((p.edges[i]'hi99fa3).from_ = (k : Int))) with h30 | h30
      · skip
        have h30p := of_decide_eq_false h30
        iterate 8 refine sx_off (j := 8) (dd := 30) rfl rfl (by decide) (yl_off (e := decide ((p.edges[i]'hi99fa3).from_ = (k : Int))) rfl h30) ?_
        refine sx rfl (stp_pick_f (v := .bool false) ((rfl : _ = (.bool (decide ((p.edges[i]'hi99fa3).from_ = (k : Int))) : Value)).trans (congrArg Value.bool h30)) rfl ?_)
        refine sx_nil ?_
        refine sx_f rfl rfl ?_
        refine wp_skip ?_
        refine sx_region ?_
        refine sx rfl (stp_move (v := I (i : Int)) hs26_7 ?_)
        refine sx rfl (stp_add rfl rfl (by (simp only [I64] at *; omega)) ?_)
        refine sx rfl (stp_assign (v := I ((i : Int) + 1)) rfl ?_)
        refine sx_nil ?_
        exact ⟨_, p.edges.length - (i + 1), (by omega), rfl, i + 1, v20, (by omega), rfl, hs26_1, hs26_2, hs26_5, hs26_6, rfl, (by rw [onesF_step_f (by omega) (by intro hh_; exact absurd hh_.1 h30p)]; exact st25)⟩
      · skip
        have h30p := of_decide_eq_true h30
        refine sx_on (j := 8) (dd := 30) rfl rfl (by decide) (yl_on (e := decide ((p.edges[i]'hi99fa3).from_ = (k : Int))) rfl h30) (stp_fieldAddr fa_Plan_4 hs26_2 ?_)
        refine sx_on (j := 8) (dd := 30) rfl rfl (by decide) (yl_on (e := decide ((p.edges[i]'hi99fa3).from_ = (k : Int))) rfl h30) (stp_load_bx ld_EdgeS rfl rfl (st25.get 1 rfl) (i := 4) rfl rfl ?_)
        refine sx_on (j := 8) (dd := 30) rfl rfl (by decide) (yl_on (e := decide ((p.edges[i]'hi99fa3).from_ = (k : Int))) rfl h30) (stp_move (v := I (i : Int)) hs26_7 ?_)
        refine sx_on (j := 8) (dd := 30) rfl rfl (by decide) (yl_on (e := decide ((p.edges[i]'hi99fa3).from_ = (k : Int))) rfl h30) (stp_indexAddr sl_EdgeS rfl hp28 rfl rfl ?_)
        refine sx_on (j := 8) (dd := 30) rfl rfl (by decide) (yl_on (e := decide ((p.edges[i]'hi99fa3).from_ = (k : Int))) rfl h30) (stp_fieldAddr fa_Edge_1 rfl ?_)
        refine sx_on (j := 8) (dd := 30) rfl rfl (by decide) (yl_on (e := decide ((p.edges[i]'hi99fa3).from_ = (k : Int))) rfl h30) (stp_load_rg ld_int rfl rfl hr28 st25.below (i := 1) rfl rfl ?_)
        refine sx_on (j := 8) (dd := 30) rfl rfl (by decide) (yl_on (e := decide ((p.edges[i]'hi99fa3).from_ = (k : Int))) rfl h30) (stp_move (v := I task) hs26_1 ?_)
        refine sx_on (j := 8) (dd := 30) rfl rfl (by decide) (yl_on (e := decide ((p.edges[i]'hi99fa3).from_ = (k : Int))) rfl h30) (stp_eql rfl rfl ?_)
        refine sx rfl (stp_pick_t (v := .bool (decide ((p.edges[i]'hi99fa3).to_ = task))) ((rfl : _ = (.bool (decide ((p.edges[i]'hi99fa3).from_ = (k : Int))) : Value)).trans (congrArg Value.bool h30)) rfl ?_)
        refine sx_nil ?_
        refine sx_if rfl (fun h31 => ?_) (fun h31 => ?_)
        · skip
          have h31p := of_decide_eq_true h31
          refine sx_region ?_
          refine sx rfl (stp_move (v := v20) hs26_5 ?_)
          refine sx rfl (stp_move (v := I (k : Int)) hs26_6 ?_)
          refine sx rfl (stp_buildSlice (cs := [I (k : Int)]) (e := 3) (pcons (v := I (k : Int)) rfl pnil) (run_buildSlice1 ap_IntS _ _ rfl rfl (by decide)) st25 ?_); intro b32 W33 hb34 st35
          have st37 := st35.f1
          refine sx rfl (stp_append_bx (ys := [(k : Int)]) ap_IntS rfl rfl rfl st37 (Elems.ic (by simp only [I64]; omega) Elems.i0) (by unfold maxLen; omega) (by omega) ?_); intro v38 W39 st40
          refine sx rfl (stp_assign (v := v38) rfl ?_)
          refine sx_nil ?_
          refine sx_region ?_
          refine sx rfl (stp_move (v := I (i : Int)) hs26_7 ?_)
          refine sx rfl (stp_add rfl rfl (by (simp only [I64] at *; omega)) ?_)
          refine sx rfl (stp_assign (v := I ((i : Int) + 1)) rfl ?_)
          refine sx_nil ?_
          exact ⟨_, p.edges.length - (i + 1), (by omega), rfl, i + 1, v38, (by omega), rfl, hs26_1, hs26_2, rfl, hs26_6, rfl, (by rw [onesF_step_t (by omega) (by constructor <;> assumption), ← List.append_assoc]; exact st40)⟩
        · skip
          have h31p := of_decide_eq_false h31
          refine wp_skip ?_
          refine sx_region ?_
          refine sx rfl (stp_move (v := I (i : Int)) hs26_7 ?_)
          refine sx rfl (stp_add rfl rfl (by (simp only [I64] at *; omega)) ?_)
          refine sx rfl (stp_assign (v := I ((i : Int) + 1)) rfl ?_)
          refine sx_nil ?_
          exact ⟨_, p.edges.length - (i + 1), (by omega), rfl, i + 1, v20, (by omega), rfl, hs26_1, hs26_2, hs26_5, hs26_6, rfl, (by rw [onesF_step_f (by omega) (by intro hh_; exact absurd hh_.2 h31p)]; exact st25)⟩
    · skip
      have h27p := of_decide_eq_false h27
      refine wp_exit ?_
      refine sx_region ?_
      refine sx rfl (stp_move (v := I (k : Int)) hs26_6 ?_)
      refine sx rfl (stp_add rfl rfl (by (simp only [I64] at *; omega)) ?_)
      refine sx rfl (stp_assign (v := I ((k : Int) + 1)) rfl ?_)
      refine sx_nil ?_
      exact ⟨_, p.tasks.toNat - (k + 1), (by omega), rfl, k + 1, v20, (by omega), rfl, hs26_1, hs26_2, hs26_5, rfl, (by rw [byTurn_succ]; rw [show i = p.edges.length by omega, List.take_length] at st25; exact st25)⟩
  · skip
    have h19p := of_decide_eq_false h19
    refine wp_exit ?_
    refine wp_seq ?_
    refine sx_region ?_
    refine sx rfl (stp_move (v := v11) hs17_5 ?_)
    refine sx rfl (stp_assign (v := v11) rfl ?_)
    refine sx_nil ?_
    refine wp_ret ?_; repeat (first | refine then_ret ?_ | refine blk_ret ?_)
    refine ret1 Tryz.results214 rfl ?_
    obtain rfl : k = p.tasks.toNat := by omega
    rw [byTurn_eq (froms_rng hE task)] at st16
    have hq_ := st16.shut
    obtain ⟨fpz, stz⟩ := hq_
    exact ⟨_, fpz, rfl, stz.only 0 rfl⟩
set_option maxHeartbeats 2000000 in
theorem BeforeOfI (w : World) {p : Plan} {cs : List Value} {fp : List Nat} (hc : Shape.C w cs p fp) (task : Int) :
    Calls Tryz.prog 231 #[.agg cs.toArray, I task] w fun e w' => ∃ (v : Value) (fp' : List Nat), e = .returned v ∧ St w w' [Res.own v (beforeOf p task) fp'] := by
  refine enter2 Tryz.func231 rfl Tryz.ntmps231 (by decide) ?_
  refine wp_seq ?_
  refine sx_region ?_
  refine sx rfl (stp_box_agg (cs := cs) rfl (St.start w) ?_); intro b1 W2 hb3 st4
  refine sx rfl (stp_assign (v := .slice none 0 0) rfl ?_)
  refine sx_nil ?_
  refine wp_seq ?_
  refine wp_seq ?_
  refine sx_region ?_
  refine sx rfl (stp_load_bxa ld_Plan rfl rfl (st4.get 0 rfl) (Shape.len hc) ?_)
  refine sx rfl (stp_call1 Tryz.func160 rfl rfl ((PlanFaultI W2 (C_below hc st4.below)).mono ?_)); rintro _ W6 ⟨rfl, hk7⟩; refine ⟨_, rfl, ?_⟩
  have st8 := St.call st4 hk7
  refine sx rfl (stp_neq rfl rfl ?_)
  refine sx_nil ?_
  refine sx_if rfl (fun h10 => ?_) (fun h10 => ?_)
  · skip
    have h10p := of_decide_eq_false (bnot_t h10)
    refine wp_seq ?_
    refine sx_region ?_
    refine sx rfl (stp_assign (v := .slice none 0 0) rfl ?_)
    refine sx_nil ?_
    refine wp_ret ?_; repeat (first | refine then_ret ?_ | refine blk_ret ?_)
    refine ret1 Tryz.results231 rfl ?_
    have hb : beforeOf p task = [] := by unfold beforeOf; rw [if_neg (by assumption)]
    rw [hb]
    exact ⟨_, [], rfl, (St.own_nil (α := Int) st8).only 0 rfl⟩
  · skip
    have h10p := of_decide_eq_true (bnot_f h10)
    refine wp_skip ?_
    refine wp_seq ?_
    refine sx_region ?_
    have hF0 : planFault p = 0 := by omega
    have hq_ := pf_ok hF0
    obtain ⟨hM, hE, _, _⟩ := hq_
    have hMb := pM hM
    refine sx rfl (stp_assign (v := .slice none 0 0) rfl ?_)
    refine sx_nil ?_
    refine wp_seq ?_
    refine wp_seq ?_
    refine sx_region ?_
    refine sx rfl (stp_fieldAddr fa_Plan_4 rfl ?_)
    have hk11 := hc
    obtain ⟨v11_0, g11_0, rfl, hok11, h11_0, rfl⟩ := hk11
    refine sx rfl (stp_load_bx ld_EdgeS rfl rfl (st8.get 0 rfl) (i := 4) rfl rfl ?_)
    refine sx rfl (stp_len sl_EdgeS rfl h11_0 ?_)
    refine sx rfl (stp_move (v := I 0) rfl ?_)
    refine sx_nil ?_
    refine wp_block ?_
    have st13 := st8.row_nil (α := Int) 3
    refine sx_loop (fun (m : Nat) (f : Nat → Value) (W : World) => ∃ (k : Nat) (v12 : Value), k ≤ p.edges.length ∧ m = p.edges.length - k ∧ f 1 = I task ∧ f 5 = v12 ∧ f 12 = v11_0 ∧ f 13 = I (p.edges.length : Int) ∧ f 14 = I (k : Int) ∧ St w W ([Res.row (α := Int) 3 v12 (froms (p.edges.take k) task) [], Res.bx b1 [I p.prio, I p.most, I p.wait, I p.tasks, v11_0] 106])) (p.edges.length - 0) ?_ ?_
    · exact ⟨0, (.slice none 0 0), (by first | omega | simp), rfl, rfl, rfl, rfl, rfl, rfl, st13⟩
    intro m15 f16 W17 hJ18
    obtain ⟨k, v12, hcd20_0, rfl, hs20_1, hs20_5, hs20_12, hs20_13, hs20_14, st19⟩ := hJ18
    have hfl := froms_len (p.edges.take k) task
    have htl := List.length_take_le k p.edges
    refine wp_seq ?_
    refine sx_region ?_
    refine sx rfl (stp_lss hs20_14 hs20_13 ?_)
    refine sx_nil ?_
    refine wp_seq ?_
    refine sx_if rfl (fun h21 => ?_) (fun h21 => ?_)
    · skip
      have h21p := of_decide_eq_true h21
      refine wp_skip ?_
      refine wp_seq ?_
      refine wp_block ?_
      refine wp_seq ?_
      refine sx_region ?_
      have hiab516 : k < p.edges.length := (by omega)
      have hq_ := idx h11_0 (i := k) hiab516
      obtain ⟨b22, o22, cs22, f22, hp22, hr22, hc22, hm22⟩ := hq_
      refine sx rfl (stp_indexAddr sl_EdgeS hs20_12 hp22 hs20_14 rfl ?_)
      refine sx rfl (stp_load_rga ld_Edge rfl rfl hr22 st19.below (Shape.len hc22) ?_)
      refine sx rfl (stp_alloc zz_Edge st19 ?_); intro b23 W24 hb25 st26
      refine sx rfl (stp_store_all (cs := cs22) ld_Edge hc22 rfl rfl st26 rfl ?_); intro W28 st29
      refine sx_nil ?_
      refine wp_seq ?_
      refine sx_region ?_
      refine sx rfl (stp_fieldAddr fa_Edge_1 rfl ?_)
      have hea := hE.at (k := k) (by omega)
      have hk30 := hc22
      obtain ⟨he30, rfl, hok30⟩ := hk30
      have he30 : _ = [I (p.edges[k]'hiab516).from_, I (p.edges[k]'hiab516).to_] := he30
      subst he30
      refine sx rfl (stp_load_bx ld_int rfl rfl (st29.get 0 rfl) (i := 1) rfl rfl ?_)
      refine sx rfl (stp_move (v := I task) hs20_1 ?_)
      refine sx rfl (stp_eql rfl rfl ?_)
      refine sx_nil ?_
      refine sx_if rfl (fun h31 => ?_) (fun h31 => ?_)
      · skip
        have h31p := of_decide_eq_true h31
        refine sx_region ?_
        refine sx rfl (stp_move (v := v12) hs20_5 ?_)
        refine sx rfl (stp_fieldAddr fa_Edge_0 rfl ?_)
        refine sx rfl (stp_load_bx ld_int rfl rfl (st29.get 0 rfl) (i := 0) rfl rfl ?_)
        refine sx rfl (stp_buildSlice (cs := [I (p.edges[k]'hiab516).from_]) (e := 3) (pcons (v := I (p.edges[k]'hiab516).from_) rfl pnil) (run_buildSlice1 ap_IntS _ _ rfl rfl (by decide)) st29 ?_); intro b32 W33 hb34 st35
        have st37 := st35.f2
        refine sx rfl (stp_append_bx (ys := [(p.edges[k]'hiab516).from_]) ap_IntS rfl rfl rfl st37 (Elems.ic (by have := hc; simp only [I64]; omega) Elems.i0) (by unfold maxLen; omega) (by omega) ?_); intro v38 W39 st40
        skip
        skip
        skip
        refine sx rfl (stp_assign (v := v38) rfl ?_)
        refine sx_nil ?_
        refine sx_region ?_
        refine sx rfl (stp_add hs20_14 rfl (by (simp only [I64] at *; omega)) ?_)
        refine sx rfl (stp_move (v := I ((k : Int) + 1)) rfl ?_)
        refine sx_nil ?_
        have st41 := st40.f2
        have st42 := st41.f1
        have st43 := st42.d2
        exact ⟨_, p.edges.length - (k + 1), (by omega), rfl, k + 1, v38, (by omega), rfl, hs20_1, rfl, hs20_12, hs20_13, rfl, (by rw [froms_step_t (by omega) h31p]; exact st43)⟩
      · skip
        have h31p := of_decide_eq_false h31
        refine wp_skip ?_
        refine sx_region ?_
        refine sx rfl (stp_add hs20_14 rfl (by (simp only [I64] at *; omega)) ?_)
        refine sx rfl (stp_move (v := I ((k : Int) + 1)) rfl ?_)
        refine sx_nil ?_
        have st44 := st29.f2
        have st45 := st44.f2
        have st46 := st45.d2
        exact ⟨_, p.edges.length - (k + 1), (by omega), rfl, k + 1, v12, (by omega), rfl, hs20_1, hs20_5, hs20_12, hs20_13, rfl, (by rw [froms_step_f (by omega) h31p]; exact st46)⟩
    · skip
      have h21p := of_decide_eq_false h21
      refine wp_exit ?_
      refine wp_seq ?_
      refine sx_region ?_
      refine sx rfl (stp_move (v := v12) hs20_5 ?_)
      have hq_ := st19.shut
      obtain ⟨fp48, st49⟩ := hq_
      refine sx rfl (stp_call1 Tryz.func226 rfl rfl ((SortOwn st49 (by rw [List.take_of_length_le (by omega)] at hfl; rw [List.take_of_length_le (by omega)]; omega)).mono ?_)); rintro _ W47 ⟨rfl, fp51, st50⟩; refine ⟨_, rfl, ?_⟩
      refine sx_nil ?_
      refine wp_seq ?_
      refine sx_region ?_
      refine sx rfl (stp_move (v := v12) hs20_5 ?_)
      refine sx rfl (stp_assign (v := v12) rfl ?_)
      refine sx_nil ?_
      refine wp_ret ?_; repeat (first | refine then_ret ?_ | refine blk_ret ?_)
      refine ret1 Tryz.results231 rfl ?_
      obtain rfl : k = p.edges.length := by omega
      rw [List.take_length] at st50
      have hb : beforeOf p task = sortI (froms p.edges task) := by unfold beforeOf; rw [if_pos (by omega)]
      rw [hb]
      exact ⟨_, _, rfl, st50.only 0 rfl⟩
end Go.Proofs.YtchnllpegfbleaaGreat
