/-
  When a crew is right: of the program and of the reference. (Printed by a program of this project's.)
-/
import Derived.Test.YtchnllpegfbleaaGreatYardOk
namespace Go.Proofs.YtchnllpegfbleaaGreat
set_option linter.unusedSimpArgs false
set_option linter.unusedVariables false
set_option maxRecDepth 100000
open Go.RowKit


def holdOk (r : Reply) : Prop := r.code = 0 ∧ 0 ≤ r.try_
noncomputable def crewOk (c : Crew) : Bool := pB (yardOk c.yard = true ∧ (1 ≤ (c.holds.length : Int) ∧ (c.holds.length : Int) ≤ 8) ∧ (0 ≤ c.turns ∧ c.turns ≤ 1000000000) ∧ (0 ≤ c.did ∧ c.did ≤ 1000000000) ∧ ∀ r ∈ c.holds, holdOk r)

set_option maxHeartbeats 2000000 in
theorem Num16S (w : World) (n : Int) :
    Calls Tryz.prog 44 #[I n] w fun e w' => e = .returned (.bool (inB n 0 1000000000)) ∧ St w w' [] := by
  refine enter1 Tryz.func44 rfl Tryz.ntmps44 (by decide) ?_
  refine wp_seq ?_
  refine sx_region ?_
  refine sx rfl (stp_assign (v := .bool false) rfl ?_)
  refine sx_nil ?_
  refine wp_seq ?_
  refine sx_region ?_
  refine sx rfl (stp_move (v := I n) rfl ?_)
  refine sx rfl (stp_call3 Tryz.func43 rfl rfl rfl rfl ((l01In_n w n 0 1000000000).mono ?_)); rintro _ W1 ⟨rfl, hk2⟩; refine ⟨_, rfl, ?_⟩
  have st3 := St.call (St.start w) hk2
  refine sx rfl (stp_assign (v := .bool (inB n 0 1000000000)) rfl ?_)
  refine sx_nil ?_
  refine wp_ret ?_; repeat (first | refine then_ret ?_ | refine blk_ret ?_)
  refine ret1 Tryz.results44 rfl ?_
  exact ⟨rfl, st3.bare⟩
set_option maxHeartbeats 2000000 in
theorem CrewOkI (w : World) {x : Crew} {cs : List Value} {fp : List Nat} (hc : Shape.C w cs x fp) (hw : x.wt ≤ 1048576) :
    Calls Tryz.prog 13 #[.agg cs.toArray] w fun e w' => e = .returned (.bool (crewOk x)) ∧ St w w' [] := by
  have hyw : x.yard.wt + x.holds.length ≤ 1048576 := hw
  refine enter1 Tryz.func13 rfl Tryz.ntmps13 (by decide) ?_
  refine wp_seq ?_
  refine sx_region ?_
  refine sx rfl (stp_box_agg (cs := cs) rfl (St.start w) ?_); intro b1 W2 hb3 st4
  refine sx rfl (stp_assign (v := .bool false) rfl ?_)
  refine sx_nil ?_
  refine wp_seq ?_
  refine wp_seq ?_
  refine sx_region ?_
  refine sx rfl (stp_fieldAddr fa_Crew_0 rfl ?_)
  have hk6 := hc
  obtain ⟨v6_0, v6_1, v6_2, g6_0, g6_1, g6_2, rfl, hok6, h6_0, h6_1, h6_2, rfl⟩ := hk6
  refine sx rfl (stp_load_bxs (cs := [I x.yard.now, I x.yard.seq, v6_0, v6_1]) ld_Yard rfl rfl (st4.get 0 rfl) rfl rfl ?_)
  refine sx rfl (stp_call1 Tryz.func46 rfl rfl ((YardOkI W2 (show Shape.C _ [I x.yard.now, I x.yard.seq, v6_0, v6_1] x.yard _ from ⟨_, _, _, _, rfl, (by first | exact True.intro | (simp only [Edge.ok, Plan.ok, Entry.ok, Task.ok, Run.ok, Yard.ok, Reply.ok, Deed.ok, Note.ok, Wait.ok, File.ok, Disk.ok, Engine.ok, WorldD.ok, ActD.ok, Hand.ok, Span.ok, Crew.ok, View.ok, I64] at *; omega)), (h6_0.below st4.below), (h6_1.below st4.below), rfl⟩) (by omega)).mono ?_)); rintro _ W7 ⟨rfl, hk8⟩; refine ⟨_, rfl, ?_⟩
  have st9 := St.call st4 hk8
  refine sx rfl (stp_not rfl ?_)
  refine sx rfl (stp_move (v := .bool (!(yardOk x.yard))) rfl ?_)
  rcases bd (!(yardOk x.yard)) with h11 | h11
  · skip
    refine sx_on (j := 4) (dd := 9) rfl rfl (by decide) (yl_on (e := !(yardOk x.yard)) rfl h11) (stp_fieldAddr fa_Crew_1 rfl ?_)
    refine sx_on (j := 4) (dd := 9) rfl rfl (by decide) (yl_on (e := !(yardOk x.yard)) rfl h11) (stp_load_bx ld_ReplyS rfl rfl (st9.get 0 rfl) (i := 4) rfl rfl ?_)
    refine sx_on (j := 4) (dd := 9) rfl rfl (by decide) (yl_on (e := !(yardOk x.yard)) rfl h11) (stp_len sl_ReplyS rfl h6_2 ?_)
    refine sx_on (j := 4) (dd := 9) rfl rfl (by decide) (yl_on (e := !(yardOk x.yard)) rfl h11) (stp_call3 Tryz.func47 rfl rfl rfl rfl ((within_n W7 (x.holds.length : Int) 1 8).mono ?_)); rintro _ W12 ⟨rfl, hk13⟩; refine ⟨_, rfl, ?_⟩
    have st14 := St.call st9 hk13
    refine sx_on (j := 4) (dd := 9) rfl rfl (by decide) (yl_on (e := !(yardOk x.yard)) rfl h11) (stp_not rfl ?_)
    refine sx rfl (stp_pick_f (v := .bool (!(inB (x.holds.length : Int) 1 8))) ((rfl : _ = (.bool (!(yardOk x.yard)) : Value)).trans (congrArg Value.bool h11)) rfl ?_)
    refine sx rfl (stp_move (v := .bool (!(inB (x.holds.length : Int) 1 8))) rfl ?_)
    rcases bd (!(inB (x.holds.length : Int) 1 8)) with h16 | h16
    · skip
      have h16p := inB_iff'.1 (bnot_f h16)
      refine sx_on (j := 11) (dd := 16) rfl rfl (by decide) (yl_on (e := !(inB (x.holds.length : Int) 1 8)) rfl h16) (stp_fieldAddr fa_Crew_2 rfl ?_)
      refine sx_on (j := 11) (dd := 16) rfl rfl (by decide) (yl_on (e := !(inB (x.holds.length : Int) 1 8)) rfl h16) (stp_load_bx ld_int rfl rfl (st14.get 0 rfl) (i := 5) rfl rfl ?_)
      refine sx_on (j := 11) (dd := 16) rfl rfl (by decide) (yl_on (e := !(inB (x.holds.length : Int) 1 8)) rfl h16) (stp_call3 Tryz.func47 rfl rfl rfl rfl ((within_n W12 x.turns 0 1000000000).mono ?_)); rintro _ W17 ⟨rfl, hk18⟩; refine ⟨_, rfl, ?_⟩
      have st19 := St.call st14 hk18
      refine sx_on (j := 11) (dd := 16) rfl rfl (by decide) (yl_on (e := !(inB (x.holds.length : Int) 1 8)) rfl h16) (stp_not rfl ?_)
      refine sx rfl (stp_pick_f (v := .bool (!(inB x.turns 0 1000000000))) ((rfl : _ = (.bool (!(inB (x.holds.length : Int) 1 8)) : Value)).trans (congrArg Value.bool h16)) rfl ?_)
      refine sx rfl (stp_move (v := .bool (!(inB x.turns 0 1000000000))) rfl ?_)
      rcases bd (!(inB x.turns 0 1000000000)) with h21 | h21
      · skip
        have h21p := inB_iff'.1 (bnot_f h21)
        refine sx_on (j := 17) (dd := 22) rfl rfl (by decide) (yl_on (e := !(inB x.turns 0 1000000000)) rfl h21) (stp_fieldAddr fa_Crew_3 rfl ?_)
        refine sx_on (j := 17) (dd := 22) rfl rfl (by decide) (yl_on (e := !(inB x.turns 0 1000000000)) rfl h21) (stp_load_bx ld_int rfl rfl (st19.get 0 rfl) (i := 6) rfl rfl ?_)
        refine sx_on (j := 17) (dd := 22) rfl rfl (by decide) (yl_on (e := !(inB x.turns 0 1000000000)) rfl h21) (stp_call3 Tryz.func47 rfl rfl rfl rfl ((within_n W17 x.did 0 1000000000).mono ?_)); rintro _ W22 ⟨rfl, hk23⟩; refine ⟨_, rfl, ?_⟩
        have st24 := St.call st19 hk23
        refine sx_on (j := 17) (dd := 22) rfl rfl (by decide) (yl_on (e := !(inB x.turns 0 1000000000)) rfl h21) (stp_not rfl ?_)
        refine sx rfl (stp_pick_f (v := .bool (!(inB x.did 0 1000000000))) ((rfl : _ = (.bool (!(inB x.turns 0 1000000000)) : Value)).trans (congrArg Value.bool h21)) rfl ?_)
        refine sx_nil ?_
        refine sx_if rfl (fun h26 => ?_) (fun h26 => ?_)
        · skip
          have h26p := inB_not (bnot_t h26)
          refine wp_seq ?_
          refine sx_region ?_
          refine sx rfl (stp_assign (v := .bool false) rfl ?_)
          refine sx_nil ?_
          refine wp_ret ?_; repeat (first | refine then_ret ?_ | refine blk_ret ?_)
          refine ret1 Tryz.results13 rfl ?_
          exact ⟨(congrArg (fun z => Ending.returned (.bool z)) (by unfold crewOk; rw [pB_f (by rintro ⟨hz1, hz2, hz3, hz4, hz5⟩; omega)])), st24.bare⟩
        · skip
          have h26p := inB_iff'.1 (bnot_f h26)
          refine wp_skip ?_
          refine wp_seq ?_
          refine wp_seq ?_
          refine sx_region ?_
          refine sx rfl (stp_fieldAddr fa_Crew_1 rfl ?_)
          refine sx rfl (stp_load_bx ld_ReplyS rfl rfl (st24.get 0 rfl) (i := 4) rfl rfl ?_)
          refine sx rfl (stp_len sl_ReplyS rfl h6_2 ?_)
          refine sx rfl (stp_move (v := I 0) rfl ?_)
          refine sx_nil ?_
          refine wp_block ?_
          refine sx_loop (fun (m : Nat) (f : Nat → Value) (W : World) => ∃ (k : Nat), k ≤ x.holds.length ∧ (∀ r ∈ x.holds.take k, holdOk r) ∧ m = x.holds.length - k ∧ f 29 = v6_2 ∧ f 30 = I (x.holds.length : Int) ∧ f 31 = I (k : Int) ∧ St w W ([Res.bx b1 [I x.yard.now, I x.yard.seq, v6_0, v6_1, v6_2, I x.turns, I x.did] 37])) (x.holds.length - 0) ?_ ?_
          · exact ⟨0, (by omega), (by simp), rfl, rfl, rfl, rfl, st24⟩
          intro m27 f28 W29 hJ30
          obtain ⟨k, hk, hH, rfl, hs32_29, hs32_30, hs32_31, st31⟩ := hJ30
          refine wp_seq ?_
          refine sx_region ?_
          refine sx rfl (stp_lss hs32_31 hs32_30 ?_)
          refine sx_nil ?_
          refine wp_seq ?_
          refine sx_if rfl (fun h33 => ?_) (fun h33 => ?_)
          · skip
            have h33p := of_decide_eq_true h33
            refine wp_skip ?_
            refine wp_seq ?_
            refine wp_block ?_
            refine wp_seq ?_
            refine sx_region ?_
            have hi05310 : k < x.holds.length := (by omega)
            have hq_ := idx h6_2 (i := k) hi05310
            obtain ⟨b34, o34, cs34, f34, hp34, hr34, hc34, hm34⟩ := hq_
            refine sx rfl (stp_indexAddr sl_ReplyS hs32_29 hp34 hs32_31 rfl ?_)
            refine sx rfl (stp_load_rga ld_Reply rfl rfl hr34 st31.below (Shape.len hc34) ?_)
            refine sx rfl (stp_alloc zz_Reply st31 ?_); intro b35 W36 hb37 st38
            refine sx rfl (stp_store_all (cs := cs34) ld_Reply hc34 rfl rfl st38 rfl ?_); intro W40 st41
            refine sx_nil ?_
            refine wp_seq ?_
            refine sx_region ?_
            refine sx rfl (stp_fieldAddr fa_Reply_0 rfl ?_)
            have hk42 := hc34
            obtain ⟨he42, rfl, hok42⟩ := hk42
            have he42 : _ = [I (x.holds[k]'hi05310).code, I (x.holds[k]'hi05310).run, I (x.holds[k]'hi05310).task, I (x.holds[k]'hi05310).try_] := he42
            subst he42
            refine sx rfl (stp_load_bx ld_int rfl rfl (st41.get 0 rfl) (i := 0) rfl rfl ?_)
            refine sx rfl (stp_neq rfl rfl ?_)
            refine sx rfl (stp_move (v := .bool (!decide ((x.holds[k]'hi05310).code = 0))) rfl ?_)
            rcases bd (!decide ((x.holds[k]'hi05310).code = 0)) with h43 | h43
            · skip
              have h43p := of_decide_eq_true (bnot_f h43)
              refine sx_on (j := 3) (dd := 38) rfl rfl (by decide) (yl_on (e := !decide ((x.holds[k]'hi05310).code = 0)) rfl h43) (stp_fieldAddr fa_Reply_3 rfl ?_)
              refine sx_on (j := 3) (dd := 38) rfl rfl (by decide) (yl_on (e := !decide ((x.holds[k]'hi05310).code = 0)) rfl h43) (stp_load_bx ld_int rfl rfl (st41.get 0 rfl) (i := 3) rfl rfl ?_)
              refine sx_on (j := 3) (dd := 38) rfl rfl (by decide) (yl_on (e := !decide ((x.holds[k]'hi05310).code = 0)) rfl h43) (stp_lss rfl rfl ?_)
              refine sx rfl (stp_pick_f (v := .bool (decide ((x.holds[k]'hi05310).try_ < 0))) ((rfl : _ = (.bool (!decide ((x.holds[k]'hi05310).code = 0)) : Value)).trans (congrArg Value.bool h43)) rfl ?_)
              refine sx_nil ?_
              refine sx_if rfl (fun h44 => ?_) (fun h44 => ?_)
              · skip
                have h44p := of_decide_eq_true h44
                refine wp_seq ?_
                refine sx_region ?_
                refine sx rfl (stp_assign (v := .bool false) rfl ?_)
                refine sx_nil ?_
                refine wp_ret ?_; repeat (first | refine then_ret ?_ | refine blk_ret ?_)
                refine ret1 Tryz.results13 rfl ?_
                exact ⟨(congrArg (fun z => Ending.returned (.bool z)) (by unfold crewOk; rw [pB_f (by rintro ⟨hz1, hz2, hz3, hz4, hz5⟩; have hq := hz5 _ (List.getElem_mem (n := k) (by omega)); unfold holdOk at hq; omega)])), st41.bare⟩
              · skip
                have h44p := of_decide_eq_false h44
                refine wp_skip ?_
                refine sx_region ?_
                refine sx rfl (stp_add hs32_31 rfl (by (simp only [I64] at *; omega)) ?_)
                refine sx rfl (stp_move (v := I ((k : Int) + 1)) rfl ?_)
                refine sx_nil ?_
                have st45 := st41.f1
                have st46 := st45.d1
                exact ⟨_, x.holds.length - (k + 1), (by omega), rfl, k + 1, (by omega), (all_step (by omega) hH (by unfold holdOk; omega)), rfl, hs32_29, hs32_30, rfl, st46⟩
            · skip
              have h43p := of_decide_eq_false (bnot_t h43)
              iterate 3 refine sx_off (j := 3) (dd := 38) rfl rfl (by decide) (yl_off (e := !decide ((x.holds[k]'hi05310).code = 0)) rfl h43) ?_
              refine sx rfl (stp_pick_t (v := .bool true) ((rfl : _ = (.bool (!decide ((x.holds[k]'hi05310).code = 0)) : Value)).trans (congrArg Value.bool h43)) rfl ?_)
              refine sx_nil ?_
              refine sx_t rfl rfl ?_
              refine wp_seq ?_
              refine sx_region ?_
              refine sx rfl (stp_assign (v := .bool false) rfl ?_)
              refine sx_nil ?_
              refine wp_ret ?_; repeat (first | refine then_ret ?_ | refine blk_ret ?_)
              refine ret1 Tryz.results13 rfl ?_
              exact ⟨(congrArg (fun z => Ending.returned (.bool z)) (by unfold crewOk; rw [pB_f (by rintro ⟨hz1, hz2, hz3, hz4, hz5⟩; have hq := hz5 _ (List.getElem_mem (n := k) (by omega)); unfold holdOk at hq; omega)])), st41.bare⟩
          · skip
            have h33p := of_decide_eq_false h33
            refine wp_exit ?_
            refine wp_seq ?_
            refine sx_region ?_
            refine sx rfl (stp_assign (v := .bool true) rfl ?_)
            refine sx_nil ?_
            refine wp_ret ?_; repeat (first | refine then_ret ?_ | refine blk_ret ?_)
            refine ret1 Tryz.results13 rfl ?_
            exact ⟨(congrArg (fun z => Ending.returned (.bool z)) (by unfold crewOk; rw [pB_t ⟨(bnot_f h11), by omega, by omega, by omega, by rw [show k = x.holds.length by omega, List.take_length] at hH; exact hH⟩])), st31.bare⟩
      · skip
        have h21p := inB_not (bnot_t h21)
        iterate 4 refine sx_off (j := 17) (dd := 22) rfl rfl (by decide) (yl_off (e := !(inB x.turns 0 1000000000)) rfl h21) ?_
        refine sx rfl (stp_pick_t (v := .bool true) ((rfl : _ = (.bool (!(inB x.turns 0 1000000000)) : Value)).trans (congrArg Value.bool h21)) rfl ?_)
        refine sx_nil ?_
        refine sx_t rfl rfl ?_
        refine wp_seq ?_
        refine sx_region ?_
        refine sx rfl (stp_assign (v := .bool false) rfl ?_)
        refine sx_nil ?_
        refine wp_ret ?_; repeat (first | refine then_ret ?_ | refine blk_ret ?_)
        refine ret1 Tryz.results13 rfl ?_
        exact ⟨(congrArg (fun z => Ending.returned (.bool z)) (by unfold crewOk; rw [pB_f (by rintro ⟨hz1, hz2, hz3, hz4, hz5⟩; omega)])), st19.bare⟩
    · skip
      have h16p := inB_not (bnot_t h16)
      iterate 4 refine sx_off (j := 11) (dd := 16) rfl rfl (by decide) (yl_off (e := !(inB (x.holds.length : Int) 1 8)) rfl h16) ?_
      refine sx rfl (stp_pick_t (v := .bool true) ((rfl : _ = (.bool (!(inB (x.holds.length : Int) 1 8)) : Value)).trans (congrArg Value.bool h16)) rfl ?_)
      refine sx rfl (stp_move (v := .bool true) rfl ?_)
      iterate 4 refine sx_off (j := 17) (dd := 22) rfl rfl (by decide) (yl_off (e := true) rfl rfl) ?_
      refine sx rfl (stp_pick_t (v := .bool true) rfl rfl ?_)
      refine sx_nil ?_
      refine sx_t rfl rfl ?_
      refine wp_seq ?_
      refine sx_region ?_
      refine sx rfl (stp_assign (v := .bool false) rfl ?_)
      refine sx_nil ?_
      refine wp_ret ?_; repeat (first | refine then_ret ?_ | refine blk_ret ?_)
      refine ret1 Tryz.results13 rfl ?_
      exact ⟨(congrArg (fun z => Ending.returned (.bool z)) (by unfold crewOk; rw [pB_f (by rintro ⟨hz1, hz2, hz3, hz4, hz5⟩; omega)])), st14.bare⟩
  · skip
    iterate 5 refine sx_off (j := 4) (dd := 9) rfl rfl (by decide) (yl_off (e := !(yardOk x.yard)) rfl h11) ?_
    refine sx rfl (stp_pick_t (v := .bool true) ((rfl : _ = (.bool (!(yardOk x.yard)) : Value)).trans (congrArg Value.bool h11)) rfl ?_)
    refine sx rfl (stp_move (v := .bool true) rfl ?_)
    iterate 4 refine sx_off (j := 11) (dd := 16) rfl rfl (by decide) (yl_off (e := true) rfl rfl) ?_
    refine sx rfl (stp_pick_t (v := .bool true) rfl rfl ?_)
    refine sx rfl (stp_move (v := .bool true) rfl ?_)
    iterate 4 refine sx_off (j := 17) (dd := 22) rfl rfl (by decide) (yl_off (e := true) rfl rfl) ?_
    refine sx rfl (stp_pick_t (v := .bool true) rfl rfl ?_)
    refine sx_nil ?_
    refine sx_t rfl rfl ?_
    refine wp_seq ?_
    refine sx_region ?_
    refine sx rfl (stp_assign (v := .bool false) rfl ?_)
    refine sx_nil ?_
    refine wp_ret ?_; repeat (first | refine then_ret ?_ | refine blk_ret ?_)
    refine ret1 Tryz.results13 rfl ?_
    exact ⟨(congrArg (fun z => Ending.returned (.bool z)) (by unfold crewOk; rw [pB_f (by rintro ⟨hz1, hz2, hz3, hz4, hz5⟩; rw [(bnot_t h11)] at hz1; cases hz1)])), st9.bare⟩
set_option maxHeartbeats 2000000 in
theorem CrewOkS (w : World) {x : Crew} {cs : List Value} {fp : List Nat} (hc : Shape.C w cs x fp) (hw : x.wt ≤ 1048576) :
    Calls Tryz.prog 11 #[.agg cs.toArray] w fun e w' => e = .returned (.bool (crewOk x)) ∧ St w w' [] := by
  have hyw : x.yard.wt + x.holds.length ≤ 1048576 := hw
  refine enter1 Tryz.func11 rfl Tryz.ntmps11 (by decide) ?_
  refine wp_seq ?_
  refine sx_region ?_
  refine sx rfl (stp_box_agg (cs := cs) rfl (St.start w) ?_); intro b1 W2 hb3 st4
  refine sx rfl (stp_assign (v := .bool false) rfl ?_)
  refine sx_nil ?_
  refine wp_seq ?_
  refine wp_seq ?_
  refine sx_region ?_
  refine sx rfl (stp_fieldAddr fa_Crew_0 rfl ?_)
  have hk6 := hc
  obtain ⟨v6_0, v6_1, v6_2, g6_0, g6_1, g6_2, rfl, hok6, h6_0, h6_1, h6_2, rfl⟩ := hk6
  refine sx rfl (stp_load_bxs (cs := [I x.yard.now, I x.yard.seq, v6_0, v6_1]) ld_Yard rfl rfl (st4.get 0 rfl) rfl rfl ?_)
  refine sx rfl (stp_call1 Tryz.func42 rfl rfl ((YardOkS W2 (show Shape.C _ [I x.yard.now, I x.yard.seq, v6_0, v6_1] x.yard _ from ⟨_, _, _, _, rfl, (by first | exact True.intro | (simp only [Edge.ok, Plan.ok, Entry.ok, Task.ok, Run.ok, Yard.ok, Reply.ok, Deed.ok, Note.ok, Wait.ok, File.ok, Disk.ok, Engine.ok, WorldD.ok, ActD.ok, Hand.ok, Span.ok, Crew.ok, View.ok, I64] at *; omega)), (h6_0.below st4.below), (h6_1.below st4.below), rfl⟩) (by omega)).mono ?_)); rintro _ W7 ⟨rfl, hk8⟩; refine ⟨_, rfl, ?_⟩
  have st9 := St.call st4 hk8
  refine sx rfl (stp_not rfl ?_)
  refine sx rfl (stp_move (v := .bool (!(yardOk x.yard))) rfl ?_)
  rcases bd (!(yardOk x.yard)) with h11 | h11
  · skip
    refine sx_on (j := 4) (dd := 8) rfl rfl (by decide) (yl_on (e := !(yardOk x.yard)) rfl h11) (stp_fieldAddr fa_Crew_1 rfl ?_)
    refine sx_on (j := 4) (dd := 8) rfl rfl (by decide) (yl_on (e := !(yardOk x.yard)) rfl h11) (stp_load_bx ld_ReplyS rfl rfl (st9.get 0 rfl) (i := 4) rfl rfl ?_)
    refine sx_on (j := 4) (dd := 8) rfl rfl (by decide) (yl_on (e := !(yardOk x.yard)) rfl h11) (stp_len sl_ReplyS rfl h6_2 ?_)
    refine sx_on (j := 4) (dd := 8) rfl rfl (by decide) (yl_on (e := !(yardOk x.yard)) rfl h11) (stp_call3 Tryz.func43 rfl rfl rfl rfl ((l01In_n W7 (x.holds.length : Int) 1 8).mono ?_)); rintro _ W12 ⟨rfl, hk13⟩; refine ⟨_, rfl, ?_⟩
    have st14 := St.call st9 hk13
    refine sx_on (j := 4) (dd := 8) rfl rfl (by decide) (yl_on (e := !(yardOk x.yard)) rfl h11) (stp_not rfl ?_)
    refine sx rfl (stp_pick_f (v := .bool (!(inB (x.holds.length : Int) 1 8))) ((rfl : _ = (.bool (!(yardOk x.yard)) : Value)).trans (congrArg Value.bool h11)) rfl ?_)
    refine sx rfl (stp_move (v := .bool (!(inB (x.holds.length : Int) 1 8))) rfl ?_)
    rcases bd (!(inB (x.holds.length : Int) 1 8)) with h16 | h16
    · skip
      have h16p := inB_iff'.1 (bnot_f h16)
      refine sx_on (j := 11) (dd := 15) rfl rfl (by decide) (yl_on (e := !(inB (x.holds.length : Int) 1 8)) rfl h16) (stp_fieldAddr fa_Crew_2 rfl ?_)
      refine sx_on (j := 11) (dd := 15) rfl rfl (by decide) (yl_on (e := !(inB (x.holds.length : Int) 1 8)) rfl h16) (stp_load_bx ld_int rfl rfl (st14.get 0 rfl) (i := 5) rfl rfl ?_)
      refine sx_on (j := 11) (dd := 15) rfl rfl (by decide) (yl_on (e := !(inB (x.holds.length : Int) 1 8)) rfl h16) (stp_call1 Tryz.func44 rfl rfl ((Num16S W12 x.turns).mono ?_)); rintro _ W17 ⟨rfl, hk18⟩; refine ⟨_, rfl, ?_⟩
      have st19 := St.call st14 hk18
      refine sx_on (j := 11) (dd := 15) rfl rfl (by decide) (yl_on (e := !(inB (x.holds.length : Int) 1 8)) rfl h16) (stp_not rfl ?_)
      refine sx rfl (stp_pick_f (v := .bool (!(inB x.turns 0 1000000000))) ((rfl : _ = (.bool (!(inB (x.holds.length : Int) 1 8)) : Value)).trans (congrArg Value.bool h16)) rfl ?_)
      refine sx rfl (stp_move (v := .bool (!(inB x.turns 0 1000000000))) rfl ?_)
      rcases bd (!(inB x.turns 0 1000000000)) with h21 | h21
      · skip
        have h21p := inB_iff'.1 (bnot_f h21)
        refine sx_on (j := 17) (dd := 21) rfl rfl (by decide) (yl_on (e := !(inB x.turns 0 1000000000)) rfl h21) (stp_fieldAddr fa_Crew_3 rfl ?_)
        refine sx_on (j := 17) (dd := 21) rfl rfl (by decide) (yl_on (e := !(inB x.turns 0 1000000000)) rfl h21) (stp_load_bx ld_int rfl rfl (st19.get 0 rfl) (i := 6) rfl rfl ?_)
        refine sx_on (j := 17) (dd := 21) rfl rfl (by decide) (yl_on (e := !(inB x.turns 0 1000000000)) rfl h21) (stp_call1 Tryz.func44 rfl rfl ((Num16S W17 x.did).mono ?_)); rintro _ W22 ⟨rfl, hk23⟩; refine ⟨_, rfl, ?_⟩
        have st24 := St.call st19 hk23
        refine sx_on (j := 17) (dd := 21) rfl rfl (by decide) (yl_on (e := !(inB x.turns 0 1000000000)) rfl h21) (stp_not rfl ?_)
        refine sx rfl (stp_pick_f (v := .bool (!(inB x.did 0 1000000000))) ((rfl : _ = (.bool (!(inB x.turns 0 1000000000)) : Value)).trans (congrArg Value.bool h21)) rfl ?_)
        refine sx_nil ?_
        refine sx_if rfl (fun h26 => ?_) (fun h26 => ?_)
        · skip
          have h26p := inB_not (bnot_t h26)
          refine wp_seq ?_
          refine sx_region ?_
          refine sx rfl (stp_assign (v := .bool false) rfl ?_)
          refine sx_nil ?_
          refine wp_ret ?_; repeat (first | refine then_ret ?_ | refine blk_ret ?_)
          refine ret1 Tryz.results11 rfl ?_
          exact ⟨(congrArg (fun z => Ending.returned (.bool z)) (by unfold crewOk; rw [pB_f (by rintro ⟨hz1, hz2, hz3, hz4, hz5⟩; omega)])), st24.bare⟩
        · skip
          have h26p := inB_iff'.1 (bnot_f h26)
          refine wp_skip ?_
          refine wp_seq ?_
          refine wp_seq ?_
          refine sx_region ?_
          refine sx rfl (stp_assign (v := I 0) rfl ?_)
          refine sx_nil ?_
          refine wp_block ?_
          refine sx_loop (fun (m : Nat) (f : Nat → Value) (W : World) => ∃ (k : Nat), k ≤ x.holds.length ∧ (∀ r ∈ x.holds.take k, holdOk r) ∧ m = x.holds.length - k ∧ f 1 = .pointer (some ⟨b1, 0, none⟩) ∧ f 3 = I (k : Int) ∧ St w W ([Res.bx b1 [I x.yard.now, I x.yard.seq, v6_0, v6_1, v6_2, I x.turns, I x.did] 37])) (x.holds.length - 0) ?_ ?_
          · exact ⟨0, (by omega), (by simp), rfl, rfl, rfl, st24⟩
          intro m27 f28 W29 hJ30
          obtain ⟨k, hk, hH, rfl, hs32_1, hs32_3, st31⟩ := hJ30
          refine wp_seq ?_
          refine wp_seq ?_
          refine sx_region ?_
          refine sx rfl (stp_move (v := I (k : Int)) hs32_3 ?_)
          refine sx rfl (stp_fieldAddr fa_Crew_1 hs32_1 ?_)
          refine sx rfl (stp_load_bx ld_ReplyS rfl rfl (st31.get 0 rfl) (i := 4) rfl rfl ?_)
          refine sx rfl (stp_len sl_ReplyS rfl h6_2 ?_)
          refine sx rfl (stp_lss rfl rfl ?_)
          refine sx_nil ?_
          refine sx_if rfl (fun h33 => ?_) (fun h33 => ?_)
          · skip
            have h33p := of_decide_eq_true h33
            refine wp_skip ?_
            refine wp_seq ?_
            refine wp_block ?_
            refine wp_seq ?_
            refine sx_region ?_
            refine sx rfl (stp_fieldAddr fa_Crew_1 hs32_1 ?_)
            refine sx rfl (stp_load_bx ld_ReplyS rfl rfl (st31.get 0 rfl) (i := 4) rfl rfl ?_)
            refine sx rfl (stp_move (v := I (k : Int)) hs32_3 ?_)
            have hi05310 : k < x.holds.length := (by omega)
            have hq_ := idx h6_2 (i := k) hi05310
            obtain ⟨b34, o34, cs34, f34, hp34, hr34, hc34, hm34⟩ := hq_
            refine sx rfl (stp_indexAddr sl_ReplyS rfl hp34 rfl rfl ?_)
            refine sx rfl (stp_fieldAddr fa_Reply_0 rfl ?_)
            have hk35 := hc34
            obtain ⟨he35, rfl, hok35⟩ := hk35
            have he35 : _ = [I (x.holds[k]'hi05310).code, I (x.holds[k]'hi05310).run, I (x.holds[k]'hi05310).task, I (x.holds[k]'hi05310).try_] := he35
            subst he35
            refine sx rfl (stp_load_rg ld_int rfl rfl hr34 st31.below (i := 0) rfl rfl ?_)
            refine sx rfl (stp_neq rfl rfl ?_)
            refine sx rfl (stp_move (v := .bool (!decide ((x.holds[k]'hi05310).code = 0))) rfl ?_)
            rcases bd (!decide ((x.holds[k]'hi05310).code = 0)) with h36 | h36
            · skip
              have h36p := of_decide_eq_true (bnot_f h36)
              refine sx_on (j := 7) (dd := 41) rfl rfl (by decide) (yl_on (e := !decide ((x.holds[k]'hi05310).code = 0)) rfl h36) (stp_fieldAddr fa_Crew_1 hs32_1 ?_)
              refine sx_on (j := 7) (dd := 41) rfl rfl (by decide) (yl_on (e := !decide ((x.holds[k]'hi05310).code = 0)) rfl h36) (stp_load_bx ld_ReplyS rfl rfl (st31.get 0 rfl) (i := 4) rfl rfl ?_)
              refine sx_on (j := 7) (dd := 41) rfl rfl (by decide) (yl_on (e := !decide ((x.holds[k]'hi05310).code = 0)) rfl h36) (stp_move (v := I (k : Int)) hs32_3 ?_)
              refine sx_on (j := 7) (dd := 41) rfl rfl (by decide) (yl_on (e := !decide ((x.holds[k]'hi05310).code = 0)) rfl h36) (stp_indexAddr sl_ReplyS rfl hp34 rfl rfl ?_)
              refine sx_on (j := 7) (dd := 41) rfl rfl (by decide) (yl_on (e := !decide ((x.holds[k]'hi05310).code = 0)) rfl h36) (stp_fieldAddr fa_Reply_3 rfl ?_)
              refine sx_on (j := 7) (dd := 41) rfl rfl (by decide) (yl_on (e := !decide ((x.holds[k]'hi05310).code = 0)) rfl h36) (stp_load_rg ld_int rfl rfl hr34 st31.below (i := 3) rfl rfl ?_)
              refine sx_on (j := 7) (dd := 41) rfl rfl (by decide) (yl_on (e := !decide ((x.holds[k]'hi05310).code = 0)) rfl h36) (stp_lss rfl rfl ?_)
              refine sx rfl (stp_pick_f (v := .bool (decide ((x.holds[k]'hi05310).try_ < 0))) ((rfl : _ = (.bool (!decide ((x.holds[k]'hi05310).code = 0)) : Value)).trans (congrArg Value.bool h36)) rfl ?_)
              refine sx_nil ?_
              refine sx_if rfl (fun h37 => ?_) (fun h37 => ?_)
              · skip
                have h37p := of_decide_eq_true h37
                refine wp_seq ?_
                refine sx_region ?_
                refine sx rfl (stp_assign (v := .bool false) rfl ?_)
                refine sx_nil ?_
                refine wp_ret ?_; repeat (first | refine then_ret ?_ | refine blk_ret ?_)
                refine ret1 Tryz.results11 rfl ?_
                exact ⟨(congrArg (fun z => Ending.returned (.bool z)) (by unfold crewOk; rw [pB_f (by rintro ⟨hz1, hz2, hz3, hz4, hz5⟩; have hq := hz5 _ (List.getElem_mem (n := k) (by omega)); unfold holdOk at hq; omega)])), st31.bare⟩
              · skip
                have h37p := of_decide_eq_false h37
                refine wp_skip ?_
                refine sx_region ?_
                refine sx rfl (stp_move (v := I (k : Int)) hs32_3 ?_)
                refine sx rfl (stp_add rfl rfl (by (simp only [I64] at *; omega)) ?_)
                refine sx rfl (stp_assign (v := I ((k : Int) + 1)) rfl ?_)
                refine sx_nil ?_
                exact ⟨_, x.holds.length - (k + 1), (by omega), rfl, k + 1, (by omega), (all_step (by omega) hH (by unfold holdOk; omega)), rfl, hs32_1, rfl, st31⟩
            · skip
              have h36p := of_decide_eq_false (bnot_t h36)
              iterate 7 refine sx_off (j := 7) (dd := 41) rfl rfl (by decide) (yl_off (e := !decide ((x.holds[k]'hi05310).code = 0)) rfl h36) ?_
              refine sx rfl (stp_pick_t (v := .bool true) ((rfl : _ = (.bool (!decide ((x.holds[k]'hi05310).code = 0)) : Value)).trans (congrArg Value.bool h36)) rfl ?_)
              refine sx_nil ?_
              refine sx_t rfl rfl ?_
              refine wp_seq ?_
              refine sx_region ?_
              refine sx rfl (stp_assign (v := .bool false) rfl ?_)
              refine sx_nil ?_
              refine wp_ret ?_; repeat (first | refine then_ret ?_ | refine blk_ret ?_)
              refine ret1 Tryz.results11 rfl ?_
              exact ⟨(congrArg (fun z => Ending.returned (.bool z)) (by unfold crewOk; rw [pB_f (by rintro ⟨hz1, hz2, hz3, hz4, hz5⟩; have hq := hz5 _ (List.getElem_mem (n := k) (by omega)); unfold holdOk at hq; omega)])), st31.bare⟩
          · skip
            have h33p := of_decide_eq_false h33
            refine wp_exit ?_
            refine wp_seq ?_
            refine sx_region ?_
            refine sx rfl (stp_assign (v := .bool true) rfl ?_)
            refine sx_nil ?_
            refine wp_ret ?_; repeat (first | refine then_ret ?_ | refine blk_ret ?_)
            refine ret1 Tryz.results11 rfl ?_
            exact ⟨(congrArg (fun z => Ending.returned (.bool z)) (by unfold crewOk; rw [pB_t ⟨(bnot_f h11), by omega, by omega, by omega, by rw [show k = x.holds.length by omega, List.take_length] at hH; exact hH⟩])), st31.bare⟩
      · skip
        have h21p := inB_not (bnot_t h21)
        iterate 4 refine sx_off (j := 17) (dd := 21) rfl rfl (by decide) (yl_off (e := !(inB x.turns 0 1000000000)) rfl h21) ?_
        refine sx rfl (stp_pick_t (v := .bool true) ((rfl : _ = (.bool (!(inB x.turns 0 1000000000)) : Value)).trans (congrArg Value.bool h21)) rfl ?_)
        refine sx_nil ?_
        refine sx_t rfl rfl ?_
        refine wp_seq ?_
        refine sx_region ?_
        refine sx rfl (stp_assign (v := .bool false) rfl ?_)
        refine sx_nil ?_
        refine wp_ret ?_; repeat (first | refine then_ret ?_ | refine blk_ret ?_)
        refine ret1 Tryz.results11 rfl ?_
        exact ⟨(congrArg (fun z => Ending.returned (.bool z)) (by unfold crewOk; rw [pB_f (by rintro ⟨hz1, hz2, hz3, hz4, hz5⟩; omega)])), st19.bare⟩
    · skip
      have h16p := inB_not (bnot_t h16)
      iterate 4 refine sx_off (j := 11) (dd := 15) rfl rfl (by decide) (yl_off (e := !(inB (x.holds.length : Int) 1 8)) rfl h16) ?_
      refine sx rfl (stp_pick_t (v := .bool true) ((rfl : _ = (.bool (!(inB (x.holds.length : Int) 1 8)) : Value)).trans (congrArg Value.bool h16)) rfl ?_)
      refine sx rfl (stp_move (v := .bool true) rfl ?_)
      iterate 4 refine sx_off (j := 17) (dd := 21) rfl rfl (by decide) (yl_off (e := true) rfl rfl) ?_
      refine sx rfl (stp_pick_t (v := .bool true) rfl rfl ?_)
      refine sx_nil ?_
      refine sx_t rfl rfl ?_
      refine wp_seq ?_
      refine sx_region ?_
      refine sx rfl (stp_assign (v := .bool false) rfl ?_)
      refine sx_nil ?_
      refine wp_ret ?_; repeat (first | refine then_ret ?_ | refine blk_ret ?_)
      refine ret1 Tryz.results11 rfl ?_
      exact ⟨(congrArg (fun z => Ending.returned (.bool z)) (by unfold crewOk; rw [pB_f (by rintro ⟨hz1, hz2, hz3, hz4, hz5⟩; omega)])), st14.bare⟩
  · skip
    iterate 5 refine sx_off (j := 4) (dd := 8) rfl rfl (by decide) (yl_off (e := !(yardOk x.yard)) rfl h11) ?_
    refine sx rfl (stp_pick_t (v := .bool true) ((rfl : _ = (.bool (!(yardOk x.yard)) : Value)).trans (congrArg Value.bool h11)) rfl ?_)
    refine sx rfl (stp_move (v := .bool true) rfl ?_)
    iterate 4 refine sx_off (j := 11) (dd := 15) rfl rfl (by decide) (yl_off (e := true) rfl rfl) ?_
    refine sx rfl (stp_pick_t (v := .bool true) rfl rfl ?_)
    refine sx rfl (stp_move (v := .bool true) rfl ?_)
    iterate 4 refine sx_off (j := 17) (dd := 21) rfl rfl (by decide) (yl_off (e := true) rfl rfl) ?_
    refine sx rfl (stp_pick_t (v := .bool true) rfl rfl ?_)
    refine sx_nil ?_
    refine sx_t rfl rfl ?_
    refine wp_seq ?_
    refine sx_region ?_
    refine sx rfl (stp_assign (v := .bool false) rfl ?_)
    refine sx_nil ?_
    refine wp_ret ?_; repeat (first | refine then_ret ?_ | refine blk_ret ?_)
    refine ret1 Tryz.results11 rfl ?_
    exact ⟨(congrArg (fun z => Ending.returned (.bool z)) (by unfold crewOk; rw [pB_f (by rintro ⟨hz1, hz2, hz3, hz4, hz5⟩; rw [(bnot_t h11)] at hz1; cases hz1)])), st9.bare⟩
end Go.Proofs.YtchnllpegfbleaaGreat
