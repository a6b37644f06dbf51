/-
  When a run is right: of the program and of the reference. (Printed by a program of this project's.)
-/
import Derived.Test.YtchnllpegfbleaaGreatBef
import Derived.Test.YtchnllpegfbleaaGreatRunT
namespace Go.Proofs.YtchnllpegfbleaaGreat
set_option linter.unusedSimpArgs false
set_option linter.unusedVariables false
set_option maxRecDepth 100000
open Go.RowKit


theorem pB_not {p : Prop} (h : pB p = false) : ¬ p := fun hp => by rw [pB_t hp] at h; cases h
theorem stateOf_cases (ts : List Task) : (cntI ts 4 = ts.length → stateOf ts = 2) ∧ (¬ cntI ts 4 = ts.length → (cntI ts 5 = 1 ∧ cntI ts 1 + cntI ts 2 + cntI ts 3 = 0) → stateOf ts = 3) ∧
    (¬ cntI ts 4 = ts.length → ¬ (cntI ts 5 = 1 ∧ cntI ts 1 + cntI ts 2 + cntI ts 3 = 0) → (cntI ts 5 = 0 ∧ 0 < cntI ts 6 ∧ cntI ts 1 + cntI ts 2 + cntI ts 3 = 0) → stateOf ts = 4) ∧
    (¬ cntI ts 4 = ts.length → ¬ (cntI ts 5 = 1 ∧ cntI ts 1 + cntI ts 2 + cntI ts 3 = 0) → ¬ (cntI ts 5 = 0 ∧ 0 < cntI ts 6 ∧ cntI ts 1 + cntI ts 2 + cntI ts 3 = 0) → (cntI ts 5 = 0 ∧ cntI ts 6 = 0) → stateOf ts = 1) ∧
    (¬ cntI ts 4 = ts.length → ¬ (cntI ts 5 = 1 ∧ cntI ts 1 + cntI ts 2 + cntI ts 3 = 0) → ¬ (cntI ts 5 = 0 ∧ 0 < cntI ts 6 ∧ cntI ts 1 + cntI ts 2 + cntI ts 3 = 0) → ¬ (cntI ts 5 = 0 ∧ cntI ts 6 = 0) → stateOf ts = 0) := by
  unfold stateOf
  refine ⟨fun h => by rw [if_pos h], fun h h2 => by rw [if_neg h, if_pos h2], fun h h2 h3 => by rw [if_neg h, if_neg h2, if_pos h3], fun h h2 h3 h4 => by rw [if_neg h, if_neg h2, if_neg h3, if_pos h4], fun h h2 h3 h4 => by rw [if_neg h, if_neg h2, if_neg h3, if_neg h4]⟩
theorem states_of {r : Run} (h : ∀ j, j < r.tasks.length → taskOkK r j) : ∀ t ∈ r.tasks, 1 ≤ t.state ∧ t.state ≤ 6 := by
  intro t ht
  obtain ⟨k, hk, rfl⟩ := List.getElem_of_mem ht
  exact (h k hk hk).1
theorem cnts_4 (ts : List Task) (i : Nat) (h : i < (cnts ts).length) : (cnts ts)[i] = cntI ts (i : Int) := by
  rw [cnts_len] at h
  rcases i with _ | _ | _ | _ | _ | _ | _ | i
  · rfl
  · rfl
  · rfl
  · rfl
  · rfl
  · rfl
  · rfl
  · omega

set_option maxHeartbeats 2000000 in
theorem NeedOfI (w : World) {r : Run} {cs : List Value} {fp : List Nat} (hc : Shape.C w cs r fp) (task : Int) (hlen : (r.tasks.length : Int) = r.plan.tasks) :
    Calls Tryz.prog 217 #[.agg cs.toArray, I task] w fun e w' => e = .returned (I (needOf r task)) ∧ St w w' [] := by
  refine enter2 Tryz.func217 rfl Tryz.ntmps217 (by decide) ?_
  refine wp_seq ?_
  refine sx_region ?_
  refine sx rfl (stp_box_agg (cs := cs) rfl (St.start w) ?_); intro b1 W2 hb3 st4
  refine sx rfl (stp_assign (v := I 0) rfl ?_)
  refine sx_nil ?_
  refine wp_seq ?_
  refine sx_region ?_
  refine sx rfl (stp_assign (v := I 0) rfl ?_)
  refine sx_nil ?_
  refine wp_seq ?_
  refine wp_seq ?_
  refine sx_region ?_
  refine sx rfl (stp_fieldAddr fa_Run_1 rfl ?_)
  have hk6 := hc
  obtain ⟨v6_0, v6_1, g6_0, g6_1, rfl, hok6, h6_0, h6_1, rfl⟩ := hk6
  refine sx rfl (stp_load_bxs (cs := [I r.plan.prio, I r.plan.most, I r.plan.wait, I r.plan.tasks, v6_0]) ld_Plan rfl rfl (st4.get 0 rfl) rfl rfl ?_)
  refine sx rfl (stp_move (v := I task) rfl ?_)
  refine sx rfl (stp_call2 Tryz.func231 rfl rfl rfl ((BeforeOfI W2 (show Shape.C _ [I r.plan.prio, I r.plan.most, I r.plan.wait, I r.plan.tasks, v6_0] r.plan _ from ⟨_, _, rfl, (by first | exact True.intro | (simp only [Edge.ok, Plan.ok, Entry.ok, Task.ok, Run.ok, Yard.ok, Reply.ok, Deed.ok, Note.ok, Wait.ok, File.ok, Disk.ok, Engine.ok, WorldD.ok, ActD.ok, Hand.ok, Span.ok, Crew.ok, View.ok, I64] at *; omega)), (h6_0.below st4.below), rfl⟩) task).mono ?_)); rintro _ W9 ⟨v7, fp7, rfl, hk10⟩; refine ⟨_, rfl, ?_⟩
  have st11 := St.call st4 hk10
  refine sx rfl (stp_len sl_IntS rfl (own_Sl (st11.get 0 rfl)) ?_)
  have hbl := before_len r.plan task
  refine sx rfl (stp_move (v := I 0) rfl ?_)
  refine sx_nil ?_
  refine wp_block ?_
  refine sx_loop (fun (m : Nat) (f : Nat → Value) (W : World) => ∃ (k : Nat), k ≤ (beforeOf r.plan task).length ∧ m = (beforeOf r.plan task).length - k ∧ f 2 = .pointer (some ⟨b1, 0, none⟩) ∧ f 5 = I (needIn r ((beforeOf r.plan task).take k)) ∧ f 11 = v7 ∧ f 12 = I ((beforeOf r.plan task).length : Int) ∧ f 13 = I (k : Int) ∧ St w W ([Res.own (α := List Int) v7 (beforeOf r.plan task) fp7, Res.bx b1 [I r.id, I r.plan.prio, I r.plan.most, I r.plan.wait, I r.plan.tasks, v6_0, I r.state, v6_1] 123])) ((beforeOf r.plan task).length - 0) ?_ ?_
  · exact ⟨0, (by omega), rfl, rfl, rfl, rfl, rfl, rfl, st11⟩
  intro m13 f14 W15 hJ16
  obtain ⟨k, hk, rfl, hs18_2, hs18_5, hs18_11, hs18_12, hs18_13, st17⟩ := hJ16
  have hnr := needIn_rng r ((beforeOf r.plan task).take k)
  have htl := List.length_take_le k (beforeOf r.plan task)
  refine wp_seq ?_
  refine sx_region ?_
  refine sx rfl (stp_lss hs18_13 hs18_12 ?_)
  refine sx_nil ?_
  refine wp_seq ?_
  refine sx_if rfl (fun h19 => ?_) (fun h19 => ?_)
  · skip
    have h19p := of_decide_eq_true h19
    refine wp_skip ?_
    refine wp_seq ?_
    refine wp_block ?_
    refine wp_seq ?_
    refine sx_region ?_
    have hi15359 : k < (beforeOf r.plan task).length := (by omega)
    have hq_ := idx (own_Sl (st17.get 0 rfl)) (i := k) hi15359
    obtain ⟨b20, o20, cs20, f20, hp20, hr20, hc20, hm20⟩ := hq_
    have hk20 := hc20
    obtain ⟨rfl, rfl, hok20⟩ := hk20
    refine sx rfl (stp_indexAddr sl_IntS hs18_11 hp20 hs18_13 rfl ?_)
    refine sx rfl (stp_load_rg ld_int rfl rfl hr20 (Below.refl _ _) (i := 0) rfl rfl ?_)
    refine sx rfl (stp_assign (v := I ((beforeOf r.plan task)[k]'hi15359)) rfl ?_)
    refine sx_nil ?_
    refine wp_seq ?_
    refine sx_region ?_
    refine sx rfl (stp_fieldAddr fa_Run_3 hs18_2 ?_)
    refine sx rfl (stp_load_bx ld_TaskS rfl rfl (st17.get 1 rfl) (i := 7) rfl rfl ?_)
    refine sx rfl (stp_move (v := I ((beforeOf r.plan task)[k]'hi15359)) rfl ?_)
    have hbr := before_rng r.plan task _ (List.getElem_mem (l := (beforeOf r.plan task)) (n := k) (by omega))
    have hi20db9 : (((beforeOf r.plan task)[k]'hi15359)).toNat < r.tasks.length := (by omega)
    have hq_ := idx h6_1 (i := (((beforeOf r.plan task)[k]'hi15359)).toNat) hi20db9
    obtain ⟨b21, o21, cs21, f21, hp21, hr21, hc21, hm21⟩ := hq_
    refine sx rfl (stp_indexAddr sl_TaskS rfl hp21 rfl (by omega) ?_)
    refine sx rfl (stp_fieldAddr fa_Task_0 rfl ?_)
    have hk22 := hc21
    obtain ⟨he22, rfl, hok22⟩ := hk22
    have he22 : _ = [I (r.tasks[(((beforeOf r.plan task)[k]'hi15359)).toNat]'hi20db9).state, I (r.tasks[(((beforeOf r.plan task)[k]'hi15359)).toNat]'hi20db9).need, I (r.tasks[(((beforeOf r.plan task)[k]'hi15359)).toNat]'hi20db9).try_, I (r.tasks[(((beforeOf r.plan task)[k]'hi15359)).toNat]'hi20db9).until_] := he22
    subst he22
    refine sx rfl (stp_load_rg ld_int rfl rfl hr21 st17.below (i := 0) rfl rfl ?_)
    refine sx rfl (stp_neq rfl rfl ?_)
    refine sx_nil ?_
    refine sx_if rfl (fun h23 => ?_) (fun h23 => ?_)
    · skip
      have h23p := of_decide_eq_false (bnot_t h23)
      refine sx_region ?_
      refine sx rfl (stp_move (v := I (needIn r ((beforeOf r.plan task).take k))) hs18_5 ?_)
      refine sx rfl (stp_add rfl rfl (by (simp only [I64] at *; omega)) ?_)
      refine sx rfl (stp_assign (v := I ((needIn r ((beforeOf r.plan task).take k)) + 1)) rfl ?_)
      refine sx_nil ?_
      refine sx_region ?_
      refine sx rfl (stp_add hs18_13 rfl (by (simp only [I64] at *; omega)) ?_)
      have hbl := before_len r.plan task
      refine sx rfl (stp_move (v := I ((k : Int) + 1)) rfl ?_)
      refine sx_nil ?_
      exact ⟨_, (beforeOf r.plan task).length - (k + 1), (by omega), rfl, k + 1, (by omega), rfl, hs18_2, (Eq.trans (show _ = I ((needIn r ((beforeOf r.plan task).take k)) + 1) from rfl) (congrArg I (by rw [needIn_step (by omega), isDone_at (by omega)]; simp only [h23p, decide_true, decide_false, Bool.false_eq_true, if_true, if_false]; try omega))), hs18_11, hs18_12, rfl, st17⟩
    · skip
      have h23p := of_decide_eq_true (bnot_f h23)
      refine wp_skip ?_
      refine sx_region ?_
      refine sx rfl (stp_add hs18_13 rfl (by (simp only [I64] at *; omega)) ?_)
      have hbl := before_len r.plan task
      refine sx rfl (stp_move (v := I ((k : Int) + 1)) rfl ?_)
      refine sx_nil ?_
      exact ⟨_, (beforeOf r.plan task).length - (k + 1), (by omega), rfl, k + 1, (by omega), rfl, hs18_2, (Eq.trans (show _ = I (needIn r ((beforeOf r.plan task).take k)) from hs18_5) (congrArg I (by rw [needIn_step (by omega), isDone_at (by omega)]; simp only [h23p, decide_true, decide_false, Bool.false_eq_true, if_true, if_false]; try omega))), hs18_11, hs18_12, rfl, st17⟩
  · skip
    have h19p := of_decide_eq_false h19
    refine wp_exit ?_
    refine wp_seq ?_
    refine sx_region ?_
    refine sx rfl (stp_move (v := I (needIn r ((beforeOf r.plan task).take k))) hs18_5 ?_)
    refine sx rfl (stp_assign (v := I (needIn r ((beforeOf r.plan task).take k))) rfl ?_)
    refine sx_nil ?_
    refine wp_ret ?_; repeat (first | refine then_ret ?_ | refine blk_ret ?_)
    refine ret1 Tryz.results217 rfl ?_
    obtain rfl : k = (beforeOf r.plan task).length := by omega
    exact ⟨(congrArg (fun z => Ending.returned (I z)) (by rw [List.take_length]; rfl)), st17.bare⟩
set_option maxHeartbeats 2000000 in
theorem TaskOkI (w : World) {r : Run} {cs : List Value} {fp : List Nat} (hc : Shape.C w cs r fp) {k : Nat} (hk : k < r.tasks.length) (hlen : (r.tasks.length : Int) = r.plan.tasks) :
    Calls Tryz.prog 161 #[.agg cs.toArray, I (k : Int)] w fun e w' => e = .returned (.bool (pB (taskOkT r (needOf r (k : Int)) (r.tasks[k]'hk)))) ∧ St w w' [] := by
  have hcap : r.tasks.length ≤ 9223372036854775807 := by have h0 := hc; obtain ⟨v1, v2, f1, f2, h0, hok, h1, h2, hfp⟩ := h0; exact h2.len_le
  refine enter2 Tryz.func161 rfl Tryz.ntmps161 (by decide) ?_
  refine wp_seq ?_
  refine sx_region ?_
  refine sx rfl (stp_box_agg (cs := cs) rfl (St.start w) ?_); intro b1 W2 hb3 st4
  refine sx rfl (stp_assign (v := .bool false) rfl ?_)
  refine sx_nil ?_
  refine wp_seq ?_
  refine sx_region ?_
  refine sx rfl (stp_fieldAddr fa_Run_3 rfl ?_)
  have hk6 := hc
  obtain ⟨v6_0, v6_1, g6_0, g6_1, rfl, hok6, h6_0, h6_1, rfl⟩ := hk6
  refine sx rfl (stp_load_bx ld_TaskS rfl rfl (st4.get 0 rfl) (i := 7) rfl rfl ?_)
  refine sx rfl (stp_move (v := I (k : Int)) rfl ?_)
  have hif4d94 : k < r.tasks.length := (by omega)
  have hq_ := idx h6_1 (i := k) hif4d94
  obtain ⟨b7, o7, cs7, f7, hp7, hr7, hc7, hm7⟩ := hq_
  refine sx rfl (stp_indexAddr sl_TaskS rfl hp7 rfl rfl ?_)
  refine sx rfl (stp_load_rga ld_Task rfl rfl hr7 st4.below (Shape.len hc7) ?_)
  refine sx rfl (stp_alloc zz_Task st4 ?_); intro b8 W9 hb10 st11
  refine sx rfl (stp_store_all (cs := cs7) ld_Task hc7 rfl rfl st11 rfl ?_); intro W13 st14
  refine sx_nil ?_
  refine wp_seq ?_
  refine wp_seq ?_
  have hk15 := hc7
  obtain ⟨he15, rfl, hok15⟩ := hk15
  have he15 : _ = [I (r.tasks[k]'hif4d94).state, I (r.tasks[k]'hif4d94).need, I (r.tasks[k]'hif4d94).try_, I (r.tasks[k]'hif4d94).until_] := he15
  subst he15
  rcases bd (!(inB (r.tasks[k]'hif4d94).state 1 6)) with h16 | h16
  · skip
    have h16p := inB_iff'.1 (bnot_f h16)
    rcases bd (!decide ((r.tasks[k]'hif4d94).need = (needOf r (k : Int)))) with h17 | h17
    · skip
      have h17p := of_decide_eq_true (bnot_f h17)
      refine sx_any [Pl.is (.pointer (some ⟨b8, 0 + 0, none⟩)), Pl.is (I (r.tasks[k]'hif4d94).state), Pl.bool (inB (r.tasks[k]'hif4d94).state 1 6), Pl.bool false, Pl.bool false, Pl.is (.pointer (some ⟨b8, 0 + 1, none⟩)), Pl.is (I (r.tasks[k]'hif4d94).need), Pl.is (.agg #[I r.id, I r.plan.prio, I r.plan.most, I r.plan.wait, I r.plan.tasks, v6_0, I r.state, v6_1]), Pl.is (I (k : Int)), Pl.is (I (needOf r (k : Int))), Pl.bool false, Pl.bool false, Pl.bool false, Pl.is (.pointer (some ⟨b8, 0 + 2, none⟩)), Pl.is (I (r.tasks[k]'hif4d94).try_), Pl.is (.pointer (some ⟨b1, 0 + 1, none⟩)), Pl.is (.pointer (some ⟨b1, 0 + 1 + 1, none⟩)), Pl.is (I r.plan.most), Pl.bool (inB (r.tasks[k]'hif4d94).try_ 0 r.plan.most), Pl.bool (!(inB (r.tasks[k]'hif4d94).try_ 0 r.plan.most)), Pl.bool (!(inB (r.tasks[k]'hif4d94).try_ 0 r.plan.most))] mix (by rfl) st14 ⟨(fun f W hst hbl hd hf => stp_fieldAddr fa_Task_0 ((hf 5 rfl).trans (show _ = (.pointer (some ⟨b8, 0, none⟩) : Value) from rfl)) ⟨Below.refl _ _, rfl⟩), (fun f W hst hbl hd hf => stp_load_bx ld_int rfl (hd 0 11 rfl rfl) (hst.get 0 rfl) (i := 0) rfl rfl ⟨Below.refl _ _, rfl⟩), (fun f W hst hbl hd hf => stp_call3 Tryz.func47 rfl (hd 1 12 rfl rfl) rfl rfl ((within_n W (r.tasks[k]'hif4d94).state 1 6).mono (by rintro e W2 ⟨rfl, hk⟩; exact ⟨_, rfl, hk.below, rfl⟩))), (fun f W hst hbl hd hf => stp_not (hd 2 13 rfl rfl) ⟨Below.refl _ _, congrArg Value.bool h16⟩), (fun f W hst hbl hd hf => stp_move (v := .bool false) (hd 3 14 rfl rfl) ⟨Below.refl _ _, rfl⟩), (fun f W hst hbl hd hf => stp_fieldAddr fa_Task_1 ((hf 5 rfl).trans (show _ = (.pointer (some ⟨b8, 0, none⟩) : Value) from rfl)) ⟨Below.refl _ _, rfl⟩), (fun f W hst hbl hd hf => stp_load_bx ld_int rfl (hd 5 16 rfl rfl) (hst.get 0 rfl) (i := 1) rfl rfl ⟨Below.refl _ _, rfl⟩), (fun f W hst hbl hd hf => stp_load_bxs (cs := [I r.id, I r.plan.prio, I r.plan.most, I r.plan.wait, I r.plan.tasks, v6_0, I r.state, v6_1]) ld_Run rfl ((hf 2 rfl).trans (show _ = (.pointer (some ⟨b1, 0, none⟩) : Value) from rfl)) (hst.get 1 rfl) rfl rfl ⟨Below.refl _ _, rfl⟩), (fun f W hst hbl hd hf => stp_move (v := I (k : Int)) ((hf 1 rfl).trans (show _ = I (k : Int) from rfl)) ⟨Below.refl _ _, rfl⟩), (fun f W hst hbl hd hf => stp_call2 Tryz.func217 rfl (hd 7 18 rfl rfl) (hd 8 19 rfl rfl) ((NeedOfI W (C_below hc hst.below) (k : Int) (by omega)).mono (by rintro e W2 ⟨rfl, hk⟩; exact ⟨_, rfl, hk.below, rfl⟩))), (fun f W hst hbl hd hf => stp_neq (hd 6 17 rfl rfl) (hd 9 20 rfl rfl) ⟨Below.refl _ _, congrArg Value.bool h17⟩), (fun f W hst hbl hd hf => stp_pick_f (v := .bool false) (hd 4 15 rfl rfl) (hd 10 21 rfl rfl) ⟨Below.refl _ _, rfl⟩), (fun f W hst hbl hd hf => stp_move (v := .bool false) (hd 11 22 rfl rfl) ⟨Below.refl _ _, rfl⟩), (fun f W hst hbl hd hf => stp_fieldAddr fa_Task_2 ((hf 5 rfl).trans (show _ = (.pointer (some ⟨b8, 0, none⟩) : Value) from rfl)) ⟨Below.refl _ _, rfl⟩), (fun f W hst hbl hd hf => stp_load_bx ld_int rfl (hd 13 24 rfl rfl) (hst.get 0 rfl) (i := 2) rfl rfl ⟨Below.refl _ _, rfl⟩), (fun f W hst hbl hd hf => stp_fieldAddr fa_Run_1 ((hf 2 rfl).trans (show _ = (.pointer (some ⟨b1, 0, none⟩) : Value) from rfl)) ⟨Below.refl _ _, rfl⟩), (fun f W hst hbl hd hf => stp_fieldAddr fa_Plan_1 (hd 15 26 rfl rfl) ⟨Below.refl _ _, rfl⟩), (fun f W hst hbl hd hf => stp_load_bx ld_int rfl (hd 16 27 rfl rfl) (hst.get 1 rfl) (i := 2) rfl rfl ⟨Below.refl _ _, rfl⟩), (fun f W hst hbl hd hf => stp_call3 Tryz.func47 rfl (hd 14 25 rfl rfl) rfl (hd 17 28 rfl rfl) ((within_n W (r.tasks[k]'hif4d94).try_ 0 r.plan.most).mono (by rintro e W2 ⟨rfl, hk⟩; exact ⟨_, rfl, hk.below, rfl⟩))), (fun f W hst hbl hd hf => stp_not (hd 18 29 rfl rfl) ⟨Below.refl _ _, rfl⟩), (fun f W hst hbl hd hf => stp_pick_f (v := .bool (!(inB (r.tasks[k]'hif4d94).try_ 0 r.plan.most))) (hd 12 23 rfl rfl) (hd 19 30 rfl rfl) ⟨Below.refl _ _, rfl⟩), trivial⟩ ?_
      intro f18 W19 st20 hb21 hv22 hf23
      refine sx_if (hv22 20 31 (by decide) rfl) (fun h24 => ?_) (fun h24 => ?_)
      · skip
        have h24p := inB_not (bnot_t h24)
        refine wp_seq ?_
        refine sx_region ?_
        refine sx rfl (stp_assign (v := .bool false) rfl ?_)
        refine sx_nil ?_
        refine wp_ret ?_; repeat (first | refine then_ret ?_ | refine blk_ret ?_)
        refine ret1 Tryz.results161 rfl ?_
        exact ⟨(congrArg (fun z => Ending.returned (.bool z)) (by rw [pB_f (by unfold taskOkT; omega)])), st20.bare⟩
      · skip
        have h24p := inB_iff'.1 (bnot_f h24)
        refine wp_skip ?_
        refine wp_seq ?_
        refine wp_seq ?_
        refine sx_region ?_
        refine sx rfl (stp_fieldAddr fa_Task_0 ((hf23 5 rfl).trans (show _ = (.pointer (some ⟨b8, 0, none⟩) : Value) from rfl)) ?_)
        refine sx rfl (stp_load_bx ld_int rfl rfl (st20.get 0 rfl) (i := 0) rfl rfl ?_)
        refine sx rfl (stp_eql rfl rfl ?_)
        refine sx rfl (stp_move (v := .bool (decide ((r.tasks[k]'hif4d94).state = 3))) rfl ?_)
        rcases bd (decide ((r.tasks[k]'hif4d94).state = 3)) with h25 | h25
        · skip
          have h25p := of_decide_eq_false h25
          iterate 4 refine sx_off (j := 3) (dd := 35) rfl rfl (by decide) (yl_off (e := decide ((r.tasks[k]'hif4d94).state = 3)) rfl h25) ?_
          refine sx rfl (stp_pick_f (v := .bool false) ((rfl : _ = (.bool (decide ((r.tasks[k]'hif4d94).state = 3)) : Value)).trans (congrArg Value.bool h25)) rfl ?_)
          refine sx rfl (stp_move (v := .bool false) rfl ?_)
          refine sx_on (j := 9) (dd := 41) rfl rfl (by decide) (yl_on (e := false) rfl rfl) (stp_fieldAddr fa_Task_0 ((hf23 5 rfl).trans (show _ = (.pointer (some ⟨b8, 0, none⟩) : Value) from rfl)) ?_)
          refine sx_on (j := 9) (dd := 41) rfl rfl (by decide) (yl_on (e := false) rfl rfl) (stp_load_bx ld_int rfl rfl (st20.get 0 rfl) (i := 0) rfl rfl ?_)
          refine sx_on (j := 9) (dd := 41) rfl rfl (by decide) (yl_on (e := false) rfl rfl) (stp_neq rfl rfl ?_)
          refine sx_on (j := 9) (dd := 41) rfl rfl (by decide) (yl_on (e := false) rfl rfl) (stp_move (v := .bool (!decide ((r.tasks[k]'hif4d94).state = 3))) rfl ?_)
          refine sx_on (j := 13) (dd := 45) rfl rfl (by decide) (yl_on (e := !decide ((r.tasks[k]'hif4d94).state = 3)) rfl (congrArg not h25)) (stp_fieldAddr fa_Task_3 ((hf23 5 rfl).trans (show _ = (.pointer (some ⟨b8, 0, none⟩) : Value) from rfl)) ?_)
          refine sx_on (j := 13) (dd := 45) rfl rfl (by decide) (yl_on (e := !decide ((r.tasks[k]'hif4d94).state = 3)) rfl (congrArg not h25)) (stp_load_bx ld_int rfl rfl (st20.get 0 rfl) (i := 3) rfl rfl ?_)
          refine sx_on (j := 13) (dd := 45) rfl rfl (by decide) (yl_on (e := !decide ((r.tasks[k]'hif4d94).state = 3)) rfl (congrArg not h25)) (stp_neq rfl rfl ?_)
          refine sx_on (j := 9) (dd := 41) rfl rfl (by decide) (yl_on (e := false) rfl rfl) (stp_pick_t (v := .bool (!decide ((r.tasks[k]'hif4d94).until_ = 0))) ((rfl : _ = (.bool (!decide ((r.tasks[k]'hif4d94).state = 3)) : Value)).trans (congrArg Value.bool (congrArg not h25))) rfl ?_)
          refine sx rfl (stp_pick_f (v := .bool (!decide ((r.tasks[k]'hif4d94).until_ = 0))) rfl rfl ?_)
          refine sx_nil ?_
          refine sx_if rfl (fun h26 => ?_) (fun h26 => ?_)
          · skip
            have h26p := of_decide_eq_false (bnot_t h26)
            refine wp_seq ?_
            refine sx_region ?_
            refine sx rfl (stp_assign (v := .bool false) rfl ?_)
            refine sx_nil ?_
            refine wp_ret ?_; repeat (first | refine then_ret ?_ | refine blk_ret ?_)
            refine ret1 Tryz.results161 rfl ?_
            exact ⟨(congrArg (fun z => Ending.returned (.bool z)) (by rw [pB_f (by unfold taskOkT; omega)])), st20.bare⟩
          · skip
            have h26p := of_decide_eq_true (bnot_f h26)
            refine wp_skip ?_
            refine wp_seq ?_
            refine wp_seq ?_
            refine sx_region ?_
            refine sx rfl (stp_fieldAddr fa_Task_0 ((hf23 5 rfl).trans (show _ = (.pointer (some ⟨b8, 0, none⟩) : Value) from rfl)) ?_)
            refine sx rfl (stp_load_bx ld_int rfl rfl (st20.get 0 rfl) (i := 0) rfl rfl ?_)
            refine sx_nil ?_
            refine wp_block ?_
            refine wp_seq ?_
            refine sx_region ?_
            refine sx rfl (stp_eql rfl rfl ?_)
            refine sx rfl (stp_assign (v := .bool (decide ((r.tasks[k]'hif4d94).state = 1))) rfl ?_)
            refine sx_nil ?_
            refine sx_if rfl (fun h27 => ?_) (fun h27 => ?_)
            · skip
              have h27p := of_decide_eq_true h27
              refine wp_seq ?_
              refine sx_region ?_
              refine sx rfl (stp_fieldAddr fa_Task_1 ((hf23 5 rfl).trans (show _ = (.pointer (some ⟨b8, 0, none⟩) : Value) from rfl)) ?_)
              refine sx rfl (stp_load_bx ld_int rfl rfl (st20.get 0 rfl) (i := 1) rfl rfl ?_)
              refine sx rfl (stp_gtr rfl rfl ?_)
              refine sx rfl (stp_assign (v := .bool (decide (0 < (r.tasks[k]'hif4d94).need))) rfl ?_)
              refine sx_nil ?_
              rcases bd (decide (0 < (r.tasks[k]'hif4d94).need)) with h28 | h28
              · skip
                have h28p := of_decide_eq_false h28
                refine wp_ret ?_; repeat (first | refine then_ret ?_ | refine blk_ret ?_)
                refine ret1 Tryz.results161 ((rfl : _ = (.bool (decide (0 < (r.tasks[k]'hif4d94).need)) : Value)).trans (congrArg Value.bool h28)) ?_
                exact ⟨(congrArg (fun z => Ending.returned (.bool z)) (by rw [pB_f (by unfold taskOkT; omega)])), st20.bare⟩
              · skip
                have h28p := of_decide_eq_true h28
                refine wp_ret ?_; repeat (first | refine then_ret ?_ | refine blk_ret ?_)
                refine ret1 Tryz.results161 ((rfl : _ = (.bool (decide (0 < (r.tasks[k]'hif4d94).need)) : Value)).trans (congrArg Value.bool h28)) ?_
                exact ⟨(congrArg (fun z => Ending.returned (.bool z)) (by rw [pB_t (by unfold taskOkT; omega)])), st20.bare⟩
            · skip
              have h27p := of_decide_eq_false h27
              refine wp_seq ?_
              refine sx_region ?_
              refine sx rfl (stp_eql rfl rfl ?_)
              refine sx rfl (stp_assign (v := .bool (decide ((r.tasks[k]'hif4d94).state = 2))) rfl ?_)
              refine sx_nil ?_
              refine sx_if rfl (fun h29 => ?_) (fun h29 => ?_)
              · skip
                have h29p := of_decide_eq_true h29
                refine wp_seq ?_
                refine sx_region ?_
                refine sx rfl (stp_fieldAddr fa_Task_1 ((hf23 5 rfl).trans (show _ = (.pointer (some ⟨b8, 0, none⟩) : Value) from rfl)) ?_)
                refine sx rfl (stp_load_bx ld_int rfl rfl (st20.get 0 rfl) (i := 1) rfl rfl ?_)
                refine sx rfl (stp_eql rfl rfl ?_)
                refine sx rfl (stp_move (v := .bool (decide ((r.tasks[k]'hif4d94).need = 0))) rfl ?_)
                rcases bd (decide ((r.tasks[k]'hif4d94).need = 0)) with h30 | h30
                · skip
                  have h30p := of_decide_eq_false h30
                  iterate 6 refine sx_off (j := 3) (dd := 63) rfl rfl (by decide) (yl_off (e := decide ((r.tasks[k]'hif4d94).need = 0)) rfl h30) ?_
                  refine sx rfl (stp_pick_f (v := .bool false) ((rfl : _ = (.bool (decide ((r.tasks[k]'hif4d94).need = 0)) : Value)).trans (congrArg Value.bool h30)) rfl ?_)
                  refine sx rfl (stp_assign (v := .bool false) rfl ?_)
                  refine sx_nil ?_
                  refine wp_ret ?_; repeat (first | refine then_ret ?_ | refine blk_ret ?_)
                  refine ret1 Tryz.results161 rfl ?_
                  exact ⟨(congrArg (fun z => Ending.returned (.bool z)) (by rw [pB_f (by unfold taskOkT; omega)])), st20.bare⟩
                · skip
                  have h30p := of_decide_eq_true h30
                  refine sx_on (j := 3) (dd := 63) rfl rfl (by decide) (yl_on (e := decide ((r.tasks[k]'hif4d94).need = 0)) rfl h30) (stp_fieldAddr fa_Task_2 ((hf23 5 rfl).trans (show _ = (.pointer (some ⟨b8, 0, none⟩) : Value) from rfl)) ?_)
                  refine sx_on (j := 3) (dd := 63) rfl rfl (by decide) (yl_on (e := decide ((r.tasks[k]'hif4d94).need = 0)) rfl h30) (stp_load_bx ld_int rfl rfl (st20.get 0 rfl) (i := 2) rfl rfl ?_)
                  refine sx_on (j := 3) (dd := 63) rfl rfl (by decide) (yl_on (e := decide ((r.tasks[k]'hif4d94).need = 0)) rfl h30) (stp_fieldAddr fa_Run_1 ((hf23 2 rfl).trans (show _ = (.pointer (some ⟨b1, 0, none⟩) : Value) from rfl)) ?_)
                  refine sx_on (j := 3) (dd := 63) rfl rfl (by decide) (yl_on (e := decide ((r.tasks[k]'hif4d94).need = 0)) rfl h30) (stp_fieldAddr fa_Plan_1 rfl ?_)
                  refine sx_on (j := 3) (dd := 63) rfl rfl (by decide) (yl_on (e := decide ((r.tasks[k]'hif4d94).need = 0)) rfl h30) (stp_load_bx ld_int rfl rfl (st20.get 1 rfl) (i := 2) rfl rfl ?_)
                  refine sx_on (j := 3) (dd := 63) rfl rfl (by decide) (yl_on (e := decide ((r.tasks[k]'hif4d94).need = 0)) rfl h30) (stp_lss rfl rfl ?_)
                  refine sx rfl (stp_pick_t (v := .bool (decide ((r.tasks[k]'hif4d94).try_ < r.plan.most))) ((rfl : _ = (.bool (decide ((r.tasks[k]'hif4d94).need = 0)) : Value)).trans (congrArg Value.bool h30)) rfl ?_)
                  refine sx rfl (stp_assign (v := .bool (decide ((r.tasks[k]'hif4d94).try_ < r.plan.most))) rfl ?_)
                  refine sx_nil ?_
                  rcases bd (decide ((r.tasks[k]'hif4d94).try_ < r.plan.most)) with h31 | h31
                  · skip
                    have h31p := of_decide_eq_false h31
                    refine wp_ret ?_; repeat (first | refine then_ret ?_ | refine blk_ret ?_)
                    refine ret1 Tryz.results161 ((rfl : _ = (.bool (decide ((r.tasks[k]'hif4d94).try_ < r.plan.most)) : Value)).trans (congrArg Value.bool h31)) ?_
                    exact ⟨(congrArg (fun z => Ending.returned (.bool z)) (by rw [pB_f (by unfold taskOkT; omega)])), st20.bare⟩
                  · skip
                    have h31p := of_decide_eq_true h31
                    refine wp_ret ?_; repeat (first | refine then_ret ?_ | refine blk_ret ?_)
                    refine ret1 Tryz.results161 ((rfl : _ = (.bool (decide ((r.tasks[k]'hif4d94).try_ < r.plan.most)) : Value)).trans (congrArg Value.bool h31)) ?_
                    exact ⟨(congrArg (fun z => Ending.returned (.bool z)) (by rw [pB_t (by unfold taskOkT; omega)])), st20.bare⟩
              · skip
                have h29p := of_decide_eq_false h29
                refine wp_seq ?_
                refine wp_seq ?_
                refine sx_region ?_
                refine sx rfl (stp_eql rfl rfl ?_)
                refine sx rfl (stp_assign (v := .bool (decide ((r.tasks[k]'hif4d94).state = 3))) rfl ?_)
                refine sx_nil ?_
                refine sx_f rfl h25 ?_
                refine wp_seq ?_
                refine sx_region ?_
                refine sx rfl (stp_eql rfl rfl ?_)
                refine sx rfl (stp_assign (v := .bool (decide ((r.tasks[k]'hif4d94).state = 4))) rfl ?_)
                refine sx_nil ?_
                refine sx_if rfl (fun h32 => ?_) (fun h32 => ?_)
                · skip
                  have h32p := of_decide_eq_true h32
                  refine wp_skip ?_
                  refine sx_t rfl h32 ?_
                  refine wp_seq ?_
                  refine sx_region ?_
                  refine sx rfl (stp_fieldAddr fa_Task_1 ((hf23 5 rfl).trans (show _ = (.pointer (some ⟨b8, 0, none⟩) : Value) from rfl)) ?_)
                  refine sx rfl (stp_load_bx ld_int rfl rfl (st20.get 0 rfl) (i := 1) rfl rfl ?_)
                  refine sx rfl (stp_eql rfl rfl ?_)
                  refine sx rfl (stp_move (v := .bool (decide ((r.tasks[k]'hif4d94).need = 0))) rfl ?_)
                  rcases bd (decide ((r.tasks[k]'hif4d94).need = 0)) with h33 | h33
                  · skip
                    have h33p := of_decide_eq_false h33
                    iterate 3 refine sx_off (j := 3) (dd := 78) rfl rfl (by decide) (yl_off (e := decide ((r.tasks[k]'hif4d94).need = 0)) rfl h33) ?_
                    refine sx rfl (stp_pick_f (v := .bool false) ((rfl : _ = (.bool (decide ((r.tasks[k]'hif4d94).need = 0)) : Value)).trans (congrArg Value.bool h33)) rfl ?_)
                    refine sx rfl (stp_assign (v := .bool false) rfl ?_)
                    refine sx_nil ?_
                    refine wp_ret ?_; repeat (first | refine then_ret ?_ | refine blk_ret ?_)
                    refine ret1 Tryz.results161 rfl ?_
                    exact ⟨(congrArg (fun z => Ending.returned (.bool z)) (by rw [pB_f (by unfold taskOkT; omega)])), st20.bare⟩
                  · skip
                    have h33p := of_decide_eq_true h33
                    refine sx_on (j := 3) (dd := 78) rfl rfl (by decide) (yl_on (e := decide ((r.tasks[k]'hif4d94).need = 0)) rfl h33) (stp_fieldAddr fa_Task_2 ((hf23 5 rfl).trans (show _ = (.pointer (some ⟨b8, 0, none⟩) : Value) from rfl)) ?_)
                    refine sx_on (j := 3) (dd := 78) rfl rfl (by decide) (yl_on (e := decide ((r.tasks[k]'hif4d94).need = 0)) rfl h33) (stp_load_bx ld_int rfl rfl (st20.get 0 rfl) (i := 2) rfl rfl ?_)
                    refine sx_on (j := 3) (dd := 78) rfl rfl (by decide) (yl_on (e := decide ((r.tasks[k]'hif4d94).need = 0)) rfl h33) (stp_geq rfl rfl ?_)
                    refine sx rfl (stp_pick_t (v := .bool (decide (1 ≤ (r.tasks[k]'hif4d94).try_))) ((rfl : _ = (.bool (decide ((r.tasks[k]'hif4d94).need = 0)) : Value)).trans (congrArg Value.bool h33)) rfl ?_)
                    refine sx rfl (stp_assign (v := .bool (decide (1 ≤ (r.tasks[k]'hif4d94).try_))) rfl ?_)
                    refine sx_nil ?_
                    rcases bd (decide (1 ≤ (r.tasks[k]'hif4d94).try_)) with h34 | h34
                    · skip
                      have h34p := of_decide_eq_false h34
                      refine wp_ret ?_; repeat (first | refine then_ret ?_ | refine blk_ret ?_)
                      refine ret1 Tryz.results161 ((rfl : _ = (.bool (decide (1 ≤ (r.tasks[k]'hif4d94).try_)) : Value)).trans (congrArg Value.bool h34)) ?_
                      exact ⟨(congrArg (fun z => Ending.returned (.bool z)) (by rw [pB_f (by unfold taskOkT; omega)])), st20.bare⟩
                    · skip
                      have h34p := of_decide_eq_true h34
                      refine wp_ret ?_; repeat (first | refine then_ret ?_ | refine blk_ret ?_)
                      refine ret1 Tryz.results161 ((rfl : _ = (.bool (decide (1 ≤ (r.tasks[k]'hif4d94).try_)) : Value)).trans (congrArg Value.bool h34)) ?_
                      exact ⟨(congrArg (fun z => Ending.returned (.bool z)) (by rw [pB_t (by unfold taskOkT; omega)])), st20.bare⟩
                · skip
                  have h32p := of_decide_eq_false h32
                  refine sx_region ?_
                  refine sx rfl (stp_eql rfl rfl ?_)
                  refine sx rfl (stp_assign (v := .bool (decide ((r.tasks[k]'hif4d94).state = 5))) rfl ?_)
                  refine sx_nil ?_
                  refine sx_if rfl (fun h35 => ?_) (fun h35 => ?_)
                  · skip
                    have h35p := of_decide_eq_true h35
                    refine wp_seq ?_
                    refine sx_region ?_
                    refine sx rfl (stp_fieldAddr fa_Task_1 ((hf23 5 rfl).trans (show _ = (.pointer (some ⟨b8, 0, none⟩) : Value) from rfl)) ?_)
                    refine sx rfl (stp_load_bx ld_int rfl rfl (st20.get 0 rfl) (i := 1) rfl rfl ?_)
                    refine sx rfl (stp_eql rfl rfl ?_)
                    refine sx rfl (stp_move (v := .bool (decide ((r.tasks[k]'hif4d94).need = 0))) rfl ?_)
                    rcases bd (decide ((r.tasks[k]'hif4d94).need = 0)) with h36 | h36
                    · skip
                      have h36p := of_decide_eq_false h36
                      iterate 3 refine sx_off (j := 3) (dd := 78) rfl rfl (by decide) (yl_off (e := decide ((r.tasks[k]'hif4d94).need = 0)) rfl h36) ?_
                      refine sx rfl (stp_pick_f (v := .bool false) ((rfl : _ = (.bool (decide ((r.tasks[k]'hif4d94).need = 0)) : Value)).trans (congrArg Value.bool h36)) rfl ?_)
                      refine sx rfl (stp_assign (v := .bool false) rfl ?_)
                      refine sx_nil ?_
                      refine wp_ret ?_; repeat (first | refine then_ret ?_ | refine blk_ret ?_)
                      refine ret1 Tryz.results161 rfl ?_
                      exact ⟨(congrArg (fun z => Ending.returned (.bool z)) (by rw [pB_f (by unfold taskOkT; omega)])), st20.bare⟩
                    · skip
                      have h36p := of_decide_eq_true h36
                      refine sx_on (j := 3) (dd := 78) rfl rfl (by decide) (yl_on (e := decide ((r.tasks[k]'hif4d94).need = 0)) rfl h36) (stp_fieldAddr fa_Task_2 ((hf23 5 rfl).trans (show _ = (.pointer (some ⟨b8, 0, none⟩) : Value) from rfl)) ?_)
                      refine sx_on (j := 3) (dd := 78) rfl rfl (by decide) (yl_on (e := decide ((r.tasks[k]'hif4d94).need = 0)) rfl h36) (stp_load_bx ld_int rfl rfl (st20.get 0 rfl) (i := 2) rfl rfl ?_)
                      refine sx_on (j := 3) (dd := 78) rfl rfl (by decide) (yl_on (e := decide ((r.tasks[k]'hif4d94).need = 0)) rfl h36) (stp_geq rfl rfl ?_)
                      refine sx rfl (stp_pick_t (v := .bool (decide (1 ≤ (r.tasks[k]'hif4d94).try_))) ((rfl : _ = (.bool (decide ((r.tasks[k]'hif4d94).need = 0)) : Value)).trans (congrArg Value.bool h36)) rfl ?_)
                      refine sx rfl (stp_assign (v := .bool (decide (1 ≤ (r.tasks[k]'hif4d94).try_))) rfl ?_)
                      refine sx_nil ?_
                      rcases bd (decide (1 ≤ (r.tasks[k]'hif4d94).try_)) with h37 | h37
                      · skip
                        have h37p := of_decide_eq_false h37
                        refine wp_ret ?_; repeat (first | refine then_ret ?_ | refine blk_ret ?_)
                        refine ret1 Tryz.results161 ((rfl : _ = (.bool (decide (1 ≤ (r.tasks[k]'hif4d94).try_)) : Value)).trans (congrArg Value.bool h37)) ?_
                        exact ⟨(congrArg (fun z => Ending.returned (.bool z)) (by rw [pB_f (by unfold taskOkT; omega)])), st20.bare⟩
                      · skip
                        have h37p := of_decide_eq_true h37
                        refine wp_ret ?_; repeat (first | refine then_ret ?_ | refine blk_ret ?_)
                        refine ret1 Tryz.results161 ((rfl : _ = (.bool (decide (1 ≤ (r.tasks[k]'hif4d94).try_)) : Value)).trans (congrArg Value.bool h37)) ?_
                        exact ⟨(congrArg (fun z => Ending.returned (.bool z)) (by rw [pB_t (by unfold taskOkT; omega)])), st20.bare⟩
                  · skip
                    have h35p := of_decide_eq_false h35
                    refine wp_skip ?_
                    refine wp_seq ?_
                    refine sx_region ?_
                    refine sx rfl (stp_assign (v := .bool true) rfl ?_)
                    refine sx_nil ?_
                    refine wp_ret ?_; repeat (first | refine then_ret ?_ | refine blk_ret ?_)
                    refine ret1 Tryz.results161 rfl ?_
                    exact ⟨(congrArg (fun z => Ending.returned (.bool z)) (by rw [pB_t (by unfold taskOkT; omega)])), st20.bare⟩
        · skip
          have h25p := of_decide_eq_true h25
          refine sx_on (j := 3) (dd := 35) rfl rfl (by decide) (yl_on (e := decide ((r.tasks[k]'hif4d94).state = 3)) rfl h25) (stp_fieldAddr fa_Task_3 ((hf23 5 rfl).trans (show _ = (.pointer (some ⟨b8, 0, none⟩) : Value) from rfl)) ?_)
          refine sx_on (j := 3) (dd := 35) rfl rfl (by decide) (yl_on (e := decide ((r.tasks[k]'hif4d94).state = 3)) rfl h25) (stp_load_bx ld_int rfl rfl (st20.get 0 rfl) (i := 3) rfl rfl ?_)
          refine sx_on (j := 3) (dd := 35) rfl rfl (by decide) (yl_on (e := decide ((r.tasks[k]'hif4d94).state = 3)) rfl h25) (stp_call3 Tryz.func47 rfl rfl rfl rfl ((within_n W19 (r.tasks[k]'hif4d94).until_ 1 1000000000).mono ?_)); rintro _ W38 ⟨rfl, hk39⟩; refine ⟨_, rfl, ?_⟩
          have st40 := St.call st20 hk39
          refine sx_on (j := 3) (dd := 35) rfl rfl (by decide) (yl_on (e := decide ((r.tasks[k]'hif4d94).state = 3)) rfl h25) (stp_not rfl ?_)
          refine sx rfl (stp_pick_t (v := .bool (!(inB (r.tasks[k]'hif4d94).until_ 1 1000000000))) ((rfl : _ = (.bool (decide ((r.tasks[k]'hif4d94).state = 3)) : Value)).trans (congrArg Value.bool h25)) rfl ?_)
          refine sx rfl (stp_move (v := .bool (!(inB (r.tasks[k]'hif4d94).until_ 1 1000000000))) rfl ?_)
          rcases bd (!(inB (r.tasks[k]'hif4d94).until_ 1 1000000000)) with h42 | h42
          · skip
            have h42p := inB_iff'.1 (bnot_f h42)
            refine sx_on (j := 9) (dd := 41) rfl rfl (by decide) (yl_on (e := !(inB (r.tasks[k]'hif4d94).until_ 1 1000000000)) rfl h42) (stp_fieldAddr fa_Task_0 ((hf23 5 rfl).trans (show _ = (.pointer (some ⟨b8, 0, none⟩) : Value) from rfl)) ?_)
            refine sx_on (j := 9) (dd := 41) rfl rfl (by decide) (yl_on (e := !(inB (r.tasks[k]'hif4d94).until_ 1 1000000000)) rfl h42) (stp_load_bx ld_int rfl rfl (st40.get 0 rfl) (i := 0) rfl rfl ?_)
            refine sx_on (j := 9) (dd := 41) rfl rfl (by decide) (yl_on (e := !(inB (r.tasks[k]'hif4d94).until_ 1 1000000000)) rfl h42) (stp_neq rfl rfl ?_)
            refine sx_on (j := 9) (dd := 41) rfl rfl (by decide) (yl_on (e := !(inB (r.tasks[k]'hif4d94).until_ 1 1000000000)) rfl h42) (stp_move (v := .bool (!decide ((r.tasks[k]'hif4d94).state = 3))) rfl ?_)
            iterate 3 refine sx_off (j := 13) (dd := 45) rfl rfl (by decide) (yl_off (e := !decide ((r.tasks[k]'hif4d94).state = 3)) rfl (congrArg not h25)) ?_
            refine sx_on (j := 9) (dd := 41) rfl rfl (by decide) (yl_on (e := !(inB (r.tasks[k]'hif4d94).until_ 1 1000000000)) rfl h42) (stp_pick_f (v := .bool false) ((rfl : _ = (.bool (!decide ((r.tasks[k]'hif4d94).state = 3)) : Value)).trans (congrArg Value.bool (congrArg not h25))) rfl ?_)
            refine sx rfl (stp_pick_f (v := .bool false) ((rfl : _ = (.bool (!(inB (r.tasks[k]'hif4d94).until_ 1 1000000000)) : Value)).trans (congrArg Value.bool h42)) rfl ?_)
            refine sx_nil ?_
            refine sx_f rfl rfl ?_
            refine wp_skip ?_
            refine wp_seq ?_
            refine wp_seq ?_
            refine sx_region ?_
            refine sx rfl (stp_fieldAddr fa_Task_0 ((hf23 5 rfl).trans (show _ = (.pointer (some ⟨b8, 0, none⟩) : Value) from rfl)) ?_)
            refine sx rfl (stp_load_bx ld_int rfl rfl (st40.get 0 rfl) (i := 0) rfl rfl ?_)
            refine sx_nil ?_
            refine wp_block ?_
            refine wp_seq ?_
            refine sx_region ?_
            refine sx rfl (stp_eql rfl rfl ?_)
            refine sx rfl (stp_assign (v := .bool (decide ((r.tasks[k]'hif4d94).state = 1))) rfl ?_)
            refine sx_nil ?_
            refine sx_if rfl (fun h43 => ?_) (fun h43 => ?_)
            · skip
              have h43p := of_decide_eq_true h43
              refine wp_seq ?_
              refine sx_region ?_
              refine sx rfl (stp_fieldAddr fa_Task_1 ((hf23 5 rfl).trans (show _ = (.pointer (some ⟨b8, 0, none⟩) : Value) from rfl)) ?_)
              refine sx rfl (stp_load_bx ld_int rfl rfl (st40.get 0 rfl) (i := 1) rfl rfl ?_)
              refine sx rfl (stp_gtr rfl rfl ?_)
              refine sx rfl (stp_assign (v := .bool (decide (0 < (r.tasks[k]'hif4d94).need))) rfl ?_)
              refine sx_nil ?_
              rcases bd (decide (0 < (r.tasks[k]'hif4d94).need)) with h44 | h44
              · skip
                have h44p := of_decide_eq_false h44
                refine wp_ret ?_; repeat (first | refine then_ret ?_ | refine blk_ret ?_)
                refine ret1 Tryz.results161 ((rfl : _ = (.bool (decide (0 < (r.tasks[k]'hif4d94).need)) : Value)).trans (congrArg Value.bool h44)) ?_
                exact ⟨(congrArg (fun z => Ending.returned (.bool z)) (by rw [pB_f (by unfold taskOkT; omega)])), st40.bare⟩
              · skip
                have h44p := of_decide_eq_true h44
                refine wp_ret ?_; repeat (first | refine then_ret ?_ | refine blk_ret ?_)
                refine ret1 Tryz.results161 ((rfl : _ = (.bool (decide (0 < (r.tasks[k]'hif4d94).need)) : Value)).trans (congrArg Value.bool h44)) ?_
                exact ⟨(congrArg (fun z => Ending.returned (.bool z)) (by rw [pB_t (by unfold taskOkT; omega)])), st40.bare⟩
            · skip
              have h43p := of_decide_eq_false h43
              refine wp_seq ?_
              refine sx_region ?_
              refine sx rfl (stp_eql rfl rfl ?_)
              refine sx rfl (stp_assign (v := .bool (decide ((r.tasks[k]'hif4d94).state = 2))) rfl ?_)
              refine sx_nil ?_
              refine sx_if rfl (fun h45 => ?_) (fun h45 => ?_)
              · skip
                have h45p := of_decide_eq_true h45
                refine wp_seq ?_
                refine sx_region ?_
                refine sx rfl (stp_fieldAddr fa_Task_1 ((hf23 5 rfl).trans (show _ = (.pointer (some ⟨b8, 0, none⟩) : Value) from rfl)) ?_)
                refine sx rfl (stp_load_bx ld_int rfl rfl (st40.get 0 rfl) (i := 1) rfl rfl ?_)
                refine sx rfl (stp_eql rfl rfl ?_)
                refine sx rfl (stp_move (v := .bool (decide ((r.tasks[k]'hif4d94).need = 0))) rfl ?_)
                rcases bd (decide ((r.tasks[k]'hif4d94).need = 0)) with h46 | h46
                · skip
                  have h46p := of_decide_eq_false h46
                  iterate 6 refine sx_off (j := 3) (dd := 63) rfl rfl (by decide) (yl_off (e := decide ((r.tasks[k]'hif4d94).need = 0)) rfl h46) ?_
                  refine sx rfl (stp_pick_f (v := .bool false) ((rfl : _ = (.bool (decide ((r.tasks[k]'hif4d94).need = 0)) : Value)).trans (congrArg Value.bool h46)) rfl ?_)
                  refine sx rfl (stp_assign (v := .bool false) rfl ?_)
                  refine sx_nil ?_
                  refine wp_ret ?_; repeat (first | refine then_ret ?_ | refine blk_ret ?_)
                  refine ret1 Tryz.results161 rfl ?_
                  exact ⟨(congrArg (fun z => Ending.returned (.bool z)) (by rw [pB_f (by unfold taskOkT; omega)])), st40.bare⟩
                · skip
                  have h46p := of_decide_eq_true h46
                  refine sx_on (j := 3) (dd := 63) rfl rfl (by decide) (yl_on (e := decide ((r.tasks[k]'hif4d94).need = 0)) rfl h46) (stp_fieldAddr fa_Task_2 ((hf23 5 rfl).trans (show _ = (.pointer (some ⟨b8, 0, none⟩) : Value) from rfl)) ?_)
                  refine sx_on (j := 3) (dd := 63) rfl rfl (by decide) (yl_on (e := decide ((r.tasks[k]'hif4d94).need = 0)) rfl h46) (stp_load_bx ld_int rfl rfl (st40.get 0 rfl) (i := 2) rfl rfl ?_)
                  refine sx_on (j := 3) (dd := 63) rfl rfl (by decide) (yl_on (e := decide ((r.tasks[k]'hif4d94).need = 0)) rfl h46) (stp_fieldAddr fa_Run_1 ((hf23 2 rfl).trans (show _ = (.pointer (some ⟨b1, 0, none⟩) : Value) from rfl)) ?_)
                  refine sx_on (j := 3) (dd := 63) rfl rfl (by decide) (yl_on (e := decide ((r.tasks[k]'hif4d94).need = 0)) rfl h46) (stp_fieldAddr fa_Plan_1 rfl ?_)
                  refine sx_on (j := 3) (dd := 63) rfl rfl (by decide) (yl_on (e := decide ((r.tasks[k]'hif4d94).need = 0)) rfl h46) (stp_load_bx ld_int rfl rfl (st40.get 1 rfl) (i := 2) rfl rfl ?_)
                  refine sx_on (j := 3) (dd := 63) rfl rfl (by decide) (yl_on (e := decide ((r.tasks[k]'hif4d94).need = 0)) rfl h46) (stp_lss rfl rfl ?_)
                  refine sx rfl (stp_pick_t (v := .bool (decide ((r.tasks[k]'hif4d94).try_ < r.plan.most))) ((rfl : _ = (.bool (decide ((r.tasks[k]'hif4d94).need = 0)) : Value)).trans (congrArg Value.bool h46)) rfl ?_)
                  refine sx rfl (stp_assign (v := .bool (decide ((r.tasks[k]'hif4d94).try_ < r.plan.most))) rfl ?_)
                  refine sx_nil ?_
                  rcases bd (decide ((r.tasks[k]'hif4d94).try_ < r.plan.most)) with h47 | h47
                  · skip
                    have h47p := of_decide_eq_false h47
                    refine wp_ret ?_; repeat (first | refine then_ret ?_ | refine blk_ret ?_)
                    refine ret1 Tryz.results161 ((rfl : _ = (.bool (decide ((r.tasks[k]'hif4d94).try_ < r.plan.most)) : Value)).trans (congrArg Value.bool h47)) ?_
                    exact ⟨(congrArg (fun z => Ending.returned (.bool z)) (by rw [pB_f (by unfold taskOkT; omega)])), st40.bare⟩
                  · skip
                    have h47p := of_decide_eq_true h47
                    refine wp_ret ?_; repeat (first | refine then_ret ?_ | refine blk_ret ?_)
                    refine ret1 Tryz.results161 ((rfl : _ = (.bool (decide ((r.tasks[k]'hif4d94).try_ < r.plan.most)) : Value)).trans (congrArg Value.bool h47)) ?_
                    exact ⟨(congrArg (fun z => Ending.returned (.bool z)) (by rw [pB_t (by unfold taskOkT; omega)])), st40.bare⟩
              · skip
                have h45p := of_decide_eq_false h45
                refine wp_seq ?_
                refine wp_seq ?_
                refine sx_region ?_
                refine sx rfl (stp_eql rfl rfl ?_)
                refine sx rfl (stp_assign (v := .bool (decide ((r.tasks[k]'hif4d94).state = 3))) rfl ?_)
                refine sx_nil ?_
                refine sx_t rfl h25 ?_
                refine wp_skip ?_
                refine sx_t rfl h25 ?_
                refine wp_seq ?_
                refine sx_region ?_
                refine sx rfl (stp_fieldAddr fa_Task_1 ((hf23 5 rfl).trans (show _ = (.pointer (some ⟨b8, 0, none⟩) : Value) from rfl)) ?_)
                refine sx rfl (stp_load_bx ld_int rfl rfl (st40.get 0 rfl) (i := 1) rfl rfl ?_)
                refine sx rfl (stp_eql rfl rfl ?_)
                refine sx rfl (stp_move (v := .bool (decide ((r.tasks[k]'hif4d94).need = 0))) rfl ?_)
                rcases bd (decide ((r.tasks[k]'hif4d94).need = 0)) with h48 | h48
                · skip
                  have h48p := of_decide_eq_false h48
                  iterate 3 refine sx_off (j := 3) (dd := 78) rfl rfl (by decide) (yl_off (e := decide ((r.tasks[k]'hif4d94).need = 0)) rfl h48) ?_
                  refine sx rfl (stp_pick_f (v := .bool false) ((rfl : _ = (.bool (decide ((r.tasks[k]'hif4d94).need = 0)) : Value)).trans (congrArg Value.bool h48)) rfl ?_)
                  refine sx rfl (stp_assign (v := .bool false) rfl ?_)
                  refine sx_nil ?_
                  refine wp_ret ?_; repeat (first | refine then_ret ?_ | refine blk_ret ?_)
                  refine ret1 Tryz.results161 rfl ?_
                  exact ⟨(congrArg (fun z => Ending.returned (.bool z)) (by rw [pB_f (by unfold taskOkT; omega)])), st40.bare⟩
                · skip
                  have h48p := of_decide_eq_true h48
                  refine sx_on (j := 3) (dd := 78) rfl rfl (by decide) (yl_on (e := decide ((r.tasks[k]'hif4d94).need = 0)) rfl h48) (stp_fieldAddr fa_Task_2 ((hf23 5 rfl).trans (show _ = (.pointer (some ⟨b8, 0, none⟩) : Value) from rfl)) ?_)
                  refine sx_on (j := 3) (dd := 78) rfl rfl (by decide) (yl_on (e := decide ((r.tasks[k]'hif4d94).need = 0)) rfl h48) (stp_load_bx ld_int rfl rfl (st40.get 0 rfl) (i := 2) rfl rfl ?_)
                  refine sx_on (j := 3) (dd := 78) rfl rfl (by decide) (yl_on (e := decide ((r.tasks[k]'hif4d94).need = 0)) rfl h48) (stp_geq rfl rfl ?_)
                  refine sx rfl (stp_pick_t (v := .bool (decide (1 ≤ (r.tasks[k]'hif4d94).try_))) ((rfl : _ = (.bool (decide ((r.tasks[k]'hif4d94).need = 0)) : Value)).trans (congrArg Value.bool h48)) rfl ?_)
                  refine sx rfl (stp_assign (v := .bool (decide (1 ≤ (r.tasks[k]'hif4d94).try_))) rfl ?_)
                  refine sx_nil ?_
                  rcases bd (decide (1 ≤ (r.tasks[k]'hif4d94).try_)) with h49 | h49
                  · skip
                    have h49p := of_decide_eq_false h49
                    refine wp_ret ?_; repeat (first | refine then_ret ?_ | refine blk_ret ?_)
                    refine ret1 Tryz.results161 ((rfl : _ = (.bool (decide (1 ≤ (r.tasks[k]'hif4d94).try_)) : Value)).trans (congrArg Value.bool h49)) ?_
                    exact ⟨(congrArg (fun z => Ending.returned (.bool z)) (by rw [pB_f (by unfold taskOkT; omega)])), st40.bare⟩
                  · skip
                    have h49p := of_decide_eq_true h49
                    refine wp_ret ?_; repeat (first | refine then_ret ?_ | refine blk_ret ?_)
                    refine ret1 Tryz.results161 ((rfl : _ = (.bool (decide (1 ≤ (r.tasks[k]'hif4d94).try_)) : Value)).trans (congrArg Value.bool h49)) ?_
                    exact ⟨(congrArg (fun z => Ending.returned (.bool z)) (by rw [pB_t (by unfold taskOkT; omega)])), st40.bare⟩
          · skip
            have h42p := inB_not (bnot_t h42)
            iterate 4 refine sx_off (j := 9) (dd := 41) rfl rfl (by decide) (yl_off (e := !(inB (r.tasks[k]'hif4d94).until_ 1 1000000000)) rfl h42) ?_
            iterate 3 refine sx_off rfl rfl (by decide) (yl_und rfl) ?_
            refine sx_off (j := 9) (dd := 41) rfl rfl (by decide) (yl_off (e := !(inB (r.tasks[k]'hif4d94).until_ 1 1000000000)) rfl h42) ?_
            refine sx rfl (stp_pick_t (v := .bool true) ((rfl : _ = (.bool (!(inB (r.tasks[k]'hif4d94).until_ 1 1000000000)) : Value)).trans (congrArg Value.bool h42)) rfl ?_)
            refine sx_nil ?_
            refine sx_t rfl rfl ?_
            refine wp_seq ?_
            refine sx_region ?_
            refine sx rfl (stp_assign (v := .bool false) rfl ?_)
            refine sx_nil ?_
            refine wp_ret ?_; repeat (first | refine then_ret ?_ | refine blk_ret ?_)
            refine ret1 Tryz.results161 rfl ?_
            exact ⟨(congrArg (fun z => Ending.returned (.bool z)) (by rw [pB_f (by unfold taskOkT; omega)])), st40.bare⟩
    · skip
      have h17p := of_decide_eq_false (bnot_t h17)
      refine sx_any [Pl.is (.pointer (some ⟨b8, 0 + 0, none⟩)), Pl.is (I (r.tasks[k]'hif4d94).state), Pl.bool (inB (r.tasks[k]'hif4d94).state 1 6), Pl.bool false, Pl.bool false, Pl.is (.pointer (some ⟨b8, 0 + 1, none⟩)), Pl.is (I (r.tasks[k]'hif4d94).need), Pl.is (.agg #[I r.id, I r.plan.prio, I r.plan.most, I r.plan.wait, I r.plan.tasks, v6_0, I r.state, v6_1]), Pl.is (I (k : Int)), Pl.is (I (needOf r (k : Int))), Pl.bool true, Pl.bool true, Pl.bool true, Pl.off, Pl.off, Pl.off, Pl.off, Pl.off, Pl.off, Pl.off, Pl.bool true] mix (by rfl) st14 ⟨(fun f W hst hbl hd hf => stp_fieldAddr fa_Task_0 ((hf 5 rfl).trans (show _ = (.pointer (some ⟨b8, 0, none⟩) : Value) from rfl)) ⟨Below.refl _ _, rfl⟩), (fun f W hst hbl hd hf => stp_load_bx ld_int rfl (hd 0 11 rfl rfl) (hst.get 0 rfl) (i := 0) rfl rfl ⟨Below.refl _ _, rfl⟩), (fun f W hst hbl hd hf => stp_call3 Tryz.func47 rfl (hd 1 12 rfl rfl) rfl rfl ((within_n W (r.tasks[k]'hif4d94).state 1 6).mono (by rintro e W2 ⟨rfl, hk⟩; exact ⟨_, rfl, hk.below, rfl⟩))), (fun f W hst hbl hd hf => stp_not (hd 2 13 rfl rfl) ⟨Below.refl _ _, congrArg Value.bool h16⟩), (fun f W hst hbl hd hf => stp_move (v := .bool false) (hd 3 14 rfl rfl) ⟨Below.refl _ _, rfl⟩), (fun f W hst hbl hd hf => stp_fieldAddr fa_Task_1 ((hf 5 rfl).trans (show _ = (.pointer (some ⟨b8, 0, none⟩) : Value) from rfl)) ⟨Below.refl _ _, rfl⟩), (fun f W hst hbl hd hf => stp_load_bx ld_int rfl (hd 5 16 rfl rfl) (hst.get 0 rfl) (i := 1) rfl rfl ⟨Below.refl _ _, rfl⟩), (fun f W hst hbl hd hf => stp_load_bxs (cs := [I r.id, I r.plan.prio, I r.plan.most, I r.plan.wait, I r.plan.tasks, v6_0, I r.state, v6_1]) ld_Run rfl ((hf 2 rfl).trans (show _ = (.pointer (some ⟨b1, 0, none⟩) : Value) from rfl)) (hst.get 1 rfl) rfl rfl ⟨Below.refl _ _, rfl⟩), (fun f W hst hbl hd hf => stp_move (v := I (k : Int)) ((hf 1 rfl).trans (show _ = I (k : Int) from rfl)) ⟨Below.refl _ _, rfl⟩), (fun f W hst hbl hd hf => stp_call2 Tryz.func217 rfl (hd 7 18 rfl rfl) (hd 8 19 rfl rfl) ((NeedOfI W (C_below hc hst.below) (k : Int) (by omega)).mono (by rintro e W2 ⟨rfl, hk⟩; exact ⟨_, rfl, hk.below, rfl⟩))), (fun f W hst hbl hd hf => stp_neq (hd 6 17 rfl rfl) (hd 9 20 rfl rfl) ⟨Below.refl _ _, congrArg Value.bool h17⟩), (fun f W hst hbl hd hf => stp_pick_f (v := .bool true) (hd 4 15 rfl rfl) (hd 10 21 rfl rfl) ⟨Below.refl _ _, rfl⟩), (fun f W hst hbl hd hf => stp_move (v := .bool true) (hd 11 22 rfl rfl) ⟨Below.refl _ _, rfl⟩), (fun f W hst hbl hd hf => rfl), (fun f W hst hbl hd hf => rfl), (fun f W hst hbl hd hf => rfl), (fun f W hst hbl hd hf => rfl), (fun f W hst hbl hd hf => rfl), (fun f W hst hbl hd hf => rfl), (fun f W hst hbl hd hf => rfl), (fun f W hst hbl hd hf => stp_pick_t (v := .bool true) (hd 12 23 rfl rfl) rfl ⟨Below.refl _ _, rfl⟩), trivial⟩ ?_
      intro f50 W51 st52 hb53 hv54 hf55
      refine sx_t (hv54 20 31 (by decide) rfl) rfl ?_
      refine wp_seq ?_
      refine sx_region ?_
      refine sx rfl (stp_assign (v := .bool false) rfl ?_)
      refine sx_nil ?_
      refine wp_ret ?_; repeat (first | refine then_ret ?_ | refine blk_ret ?_)
      refine ret1 Tryz.results161 rfl ?_
      exact ⟨(congrArg (fun z => Ending.returned (.bool z)) (by rw [pB_f (by unfold taskOkT; omega)])), st52.bare⟩
  · skip
    have h16p := inB_not (bnot_t h16)
    refine sx_any [Pl.is (.pointer (some ⟨b8, 0 + 0, none⟩)), Pl.is (I (r.tasks[k]'hif4d94).state), Pl.bool (inB (r.tasks[k]'hif4d94).state 1 6), Pl.bool true, Pl.bool true, Pl.off, Pl.off, Pl.off, Pl.off, Pl.off, Pl.off, Pl.bool true, Pl.bool true, Pl.off, Pl.off, Pl.off, Pl.off, Pl.off, Pl.off, Pl.off, Pl.bool true] mix (by rfl) st14 ⟨(fun f W hst hbl hd hf => stp_fieldAddr fa_Task_0 ((hf 5 rfl).trans (show _ = (.pointer (some ⟨b8, 0, none⟩) : Value) from rfl)) ⟨Below.refl _ _, rfl⟩), (fun f W hst hbl hd hf => stp_load_bx ld_int rfl (hd 0 11 rfl rfl) (hst.get 0 rfl) (i := 0) rfl rfl ⟨Below.refl _ _, rfl⟩), (fun f W hst hbl hd hf => stp_call3 Tryz.func47 rfl (hd 1 12 rfl rfl) rfl rfl ((within_n W (r.tasks[k]'hif4d94).state 1 6).mono (by rintro e W2 ⟨rfl, hk⟩; exact ⟨_, rfl, hk.below, rfl⟩))), (fun f W hst hbl hd hf => stp_not (hd 2 13 rfl rfl) ⟨Below.refl _ _, congrArg Value.bool h16⟩), (fun f W hst hbl hd hf => stp_move (v := .bool true) (hd 3 14 rfl rfl) ⟨Below.refl _ _, rfl⟩), (fun f W hst hbl hd hf => rfl), (fun f W hst hbl hd hf => rfl), (fun f W hst hbl hd hf => rfl), (fun f W hst hbl hd hf => rfl), (fun f W hst hbl hd hf => rfl), (fun f W hst hbl hd hf => rfl), (fun f W hst hbl hd hf => stp_pick_t (v := .bool true) (hd 4 15 rfl rfl) rfl ⟨Below.refl _ _, rfl⟩), (fun f W hst hbl hd hf => stp_move (v := .bool true) (hd 11 22 rfl rfl) ⟨Below.refl _ _, rfl⟩), (fun f W hst hbl hd hf => rfl), (fun f W hst hbl hd hf => rfl), (fun f W hst hbl hd hf => rfl), (fun f W hst hbl hd hf => rfl), (fun f W hst hbl hd hf => rfl), (fun f W hst hbl hd hf => rfl), (fun f W hst hbl hd hf => rfl), (fun f W hst hbl hd hf => stp_pick_t (v := .bool true) (hd 12 23 rfl rfl) rfl ⟨Below.refl _ _, rfl⟩), trivial⟩ ?_
    intro f56 W57 st58 hb59 hv60 hf61
    refine sx_t (hv60 20 31 (by decide) rfl) rfl ?_
    refine wp_seq ?_
    refine sx_region ?_
    refine sx rfl (stp_assign (v := .bool false) rfl ?_)
    refine sx_nil ?_
    refine wp_ret ?_; repeat (first | refine then_ret ?_ | refine blk_ret ?_)
    refine ret1 Tryz.results161 rfl ?_
    exact ⟨(congrArg (fun z => Ending.returned (.bool z)) (by rw [pB_f (by unfold taskOkT; omega)])), st58.bare⟩
set_option maxHeartbeats 2000000 in
theorem RunOkI (w : World) {r : Run} {cs : List Value} {fp : List Nat} (hc : Shape.C w cs r fp) :
    Calls Tryz.prog 97 #[.agg cs.toArray] w fun e w' => e = .returned (.bool (runOk r)) ∧ St w w' [] := by
  have hcap : r.tasks.length ≤ 9223372036854775807 := by have h0 := hc; obtain ⟨v1, v2, f1, f2, h0, hok, h1, h2, hfp⟩ := h0; exact h2.len_le
  refine enter1 Tryz.func97 rfl Tryz.ntmps97 (by decide) ?_
  refine wp_seq ?_
  refine sx_region ?_
  refine sx rfl (stp_box_agg (cs := cs) rfl (St.start w) ?_); intro b1 W2 hb3 st4
  refine sx rfl (stp_assign (v := .bool false) rfl ?_)
  refine sx_nil ?_
  refine wp_seq ?_
  refine wp_seq ?_
  refine sx_region ?_
  refine sx rfl (stp_fieldAddr fa_Run_0 rfl ?_)
  have hk6 := hc
  obtain ⟨v6_0, v6_1, g6_0, g6_1, rfl, hok6, h6_0, h6_1, rfl⟩ := hk6
  refine sx rfl (stp_load_bx ld_int rfl rfl (st4.get 0 rfl) (i := 0) rfl rfl ?_)
  refine sx rfl (stp_call3 Tryz.func47 rfl rfl rfl rfl ((within_n W2 r.id 1 9999).mono ?_)); rintro _ W7 ⟨rfl, hk8⟩; refine ⟨_, rfl, ?_⟩
  have st9 := St.call st4 hk8
  refine sx rfl (stp_not rfl ?_)
  refine sx rfl (stp_move (v := .bool (!(inB r.id 1 9999))) rfl ?_)
  rcases bd (!(inB r.id 1 9999)) with h11 | h11
  · skip
    have h11p := inB_iff'.1 (bnot_f h11)
    refine sx_on (j := 4) (dd := 12) rfl rfl (by decide) (yl_on (e := !(inB r.id 1 9999)) rfl h11) (stp_fieldAddr fa_Run_1 rfl ?_)
    refine sx_on (j := 4) (dd := 12) rfl rfl (by decide) (yl_on (e := !(inB r.id 1 9999)) rfl h11) (stp_load_bxs (cs := [I r.plan.prio, I r.plan.most, I r.plan.wait, I r.plan.tasks, v6_0]) ld_Plan rfl rfl (st9.get 0 rfl) rfl rfl ?_)
    refine sx_on (j := 4) (dd := 12) rfl rfl (by decide) (yl_on (e := !(inB r.id 1 9999)) rfl h11) (stp_call1 Tryz.func160 rfl rfl ((PlanFaultI W7 (show Shape.C _ [I r.plan.prio, I r.plan.most, I r.plan.wait, I r.plan.tasks, v6_0] r.plan _ from ⟨_, _, rfl, (by first | exact True.intro | (simp only [Edge.ok, Plan.ok, Entry.ok, Task.ok, Run.ok, Yard.ok, Reply.ok, Deed.ok, Note.ok, Wait.ok, File.ok, Disk.ok, Engine.ok, WorldD.ok, ActD.ok, Hand.ok, Span.ok, Crew.ok, View.ok, I64] at *; omega)), (h6_0.below st9.below), rfl⟩)).mono ?_)); rintro _ W12 ⟨rfl, hk13⟩; refine ⟨_, rfl, ?_⟩
    have st14 := St.call st9 hk13
    refine sx_on (j := 4) (dd := 12) rfl rfl (by decide) (yl_on (e := !(inB r.id 1 9999)) rfl h11) (stp_neq rfl rfl ?_)
    refine sx rfl (stp_pick_f (v := .bool (!decide ((planFault r.plan) = 0))) ((rfl : _ = (.bool (!(inB r.id 1 9999)) : Value)).trans (congrArg Value.bool h11)) rfl ?_)
    refine sx rfl (stp_move (v := .bool (!decide ((planFault r.plan) = 0))) rfl ?_)
    rcases bd (!decide ((planFault r.plan) = 0)) with h16 | h16
    · skip
      have h16p := of_decide_eq_true (bnot_f h16)
      refine sx_on (j := 10) (dd := 18) rfl rfl (by decide) (yl_on (e := !decide ((planFault r.plan) = 0)) rfl h16) (stp_fieldAddr fa_Run_3 rfl ?_)
      refine sx_on (j := 10) (dd := 18) rfl rfl (by decide) (yl_on (e := !decide ((planFault r.plan) = 0)) rfl h16) (stp_load_bx ld_TaskS rfl rfl (st14.get 0 rfl) (i := 7) rfl rfl ?_)
      refine sx_on (j := 10) (dd := 18) rfl rfl (by decide) (yl_on (e := !decide ((planFault r.plan) = 0)) rfl h16) (stp_len sl_TaskS rfl h6_1 ?_)
      refine sx_on (j := 10) (dd := 18) rfl rfl (by decide) (yl_on (e := !decide ((planFault r.plan) = 0)) rfl h16) (stp_fieldAddr fa_Run_1 rfl ?_)
      refine sx_on (j := 10) (dd := 18) rfl rfl (by decide) (yl_on (e := !decide ((planFault r.plan) = 0)) rfl h16) (stp_fieldAddr fa_Plan_3 rfl ?_)
      refine sx_on (j := 10) (dd := 18) rfl rfl (by decide) (yl_on (e := !decide ((planFault r.plan) = 0)) rfl h16) (stp_load_bx ld_int rfl rfl (st14.get 0 rfl) (i := 4) rfl rfl ?_)
      refine sx_on (j := 10) (dd := 18) rfl rfl (by decide) (yl_on (e := !decide ((planFault r.plan) = 0)) rfl h16) (stp_neq rfl rfl ?_)
      refine sx rfl (stp_pick_f (v := .bool (!decide ((r.tasks.length : Int) = r.plan.tasks))) ((rfl : _ = (.bool (!decide ((planFault r.plan) = 0)) : Value)).trans (congrArg Value.bool h16)) rfl ?_)
      refine sx_nil ?_
      refine sx_if rfl (fun h17 => ?_) (fun h17 => ?_)
      · skip
        have h17p := of_decide_eq_false (bnot_t h17)
        refine wp_seq ?_
        refine sx_region ?_
        refine sx rfl (stp_assign (v := .bool false) rfl ?_)
        refine sx_nil ?_
        refine wp_ret ?_; repeat (first | refine then_ret ?_ | refine blk_ret ?_)
        refine ret1 Tryz.results97 rfl ?_
        exact ⟨(congrArg (fun z => Ending.returned (.bool z)) (by unfold runOk; rw [pB_f (by rintro ⟨hz1, hz2, hz3, hz4, hz5, hz6⟩; omega)])), st14.bare⟩
      · skip
        have h17p := of_decide_eq_true (bnot_f h17)
        refine wp_skip ?_
        refine wp_seq ?_
        refine wp_seq ?_
        refine sx_region ?_
        have hMb := pM (pf_ok (by omega : planFault r.plan = 0)).1
        refine sx rfl (stp_fieldAddr fa_Run_3 rfl ?_)
        refine sx rfl (stp_load_bx ld_TaskS rfl rfl (st14.get 0 rfl) (i := 7) rfl rfl ?_)
        refine sx rfl (stp_len sl_TaskS rfl h6_1 ?_)
        refine sx rfl (stp_move (v := I 0) rfl ?_)
        refine sx_nil ?_
        refine wp_block ?_
        refine sx_loop (fun (m : Nat) (f : Nat → Value) (W : World) => ∃ (k : Nat), k ≤ r.tasks.length ∧ (∀ j, j < k → taskOkK r j) ∧ m = r.tasks.length - k ∧ f 1 = .pointer (some ⟨b1, 0, none⟩) ∧ f 29 = I (r.tasks.length : Int) ∧ f 30 = I (k : Int) ∧ St w W ([Res.bx b1 [I r.id, I r.plan.prio, I r.plan.most, I r.plan.wait, I r.plan.tasks, v6_0, I r.state, v6_1] 123])) (r.tasks.length - 0) ?_ ?_
        · exact ⟨0, (by omega), (fun j hj => absurd hj (Nat.not_lt_zero j)), rfl, rfl, rfl, rfl, st14⟩
        intro m18 f19 W20 hJ21
        obtain ⟨k, hk, hT, rfl, hs23_1, hs23_29, hs23_30, st22⟩ := hJ21
        refine wp_seq ?_
        refine sx_region ?_
        refine sx rfl (stp_lss hs23_30 hs23_29 ?_)
        refine sx_nil ?_
        refine wp_seq ?_
        refine sx_if rfl (fun h24 => ?_) (fun h24 => ?_)
        · skip
          have h24p := of_decide_eq_true h24
          refine wp_skip ?_
          refine wp_seq ?_
          refine wp_block ?_
          refine wp_seq ?_
          refine sx_region ?_
          refine sx rfl (stp_move (v := I (k : Int)) hs23_30 ?_)
          refine sx rfl (stp_assign (v := I (k : Int)) rfl ?_)
          refine sx_nil ?_
          refine wp_seq ?_
          refine sx_region ?_
          refine sx rfl (stp_load_bxs (cs := [I r.id, I r.plan.prio, I r.plan.most, I r.plan.wait, I r.plan.tasks, v6_0, I r.state, v6_1]) ld_Run rfl hs23_1 (st22.get 0 rfl) rfl rfl ?_)
          refine sx rfl (stp_move (v := I (k : Int)) rfl ?_)
          refine sx rfl (stp_call2 Tryz.func161 rfl rfl rfl ((TaskOkI W20 (C_below hc st22.below) (k := k) (by omega) (by omega)).mono ?_)); rintro _ W25 ⟨rfl, hk26⟩; refine ⟨_, rfl, ?_⟩
          have st27 := St.call st22 hk26
          refine sx rfl (stp_not rfl ?_)
          refine sx_nil ?_
          refine sx_if rfl (fun h29 => ?_) (fun h29 => ?_)
          · skip
            refine wp_seq ?_
            refine sx_region ?_
            refine sx rfl (stp_assign (v := .bool false) rfl ?_)
            refine sx_nil ?_
            refine wp_ret ?_; repeat (first | refine then_ret ?_ | refine blk_ret ?_)
            refine ret1 Tryz.results97 rfl ?_
            exact ⟨(congrArg (fun z => Ending.returned (.bool z)) (by unfold runOk; rw [pB_f (fun hz => pB_not (bnot_t h29) (hz.2.2.2.1 k (by omega) (by omega)))])), st27.bare⟩
          · skip
            refine wp_skip ?_
            refine sx_region ?_
            refine sx rfl (stp_add hs23_30 rfl (by (simp only [I64] at *; omega)) ?_)
            refine sx rfl (stp_move (v := I ((k : Int) + 1)) rfl ?_)
            refine sx_nil ?_
            exact ⟨_, r.tasks.length - (k + 1), (by omega), rfl, k + 1, (by omega), (fun j hj => by rcases Nat.lt_succ_iff_lt_or_eq.1 hj with h1 | rfl; exact hT j h1; exact fun _ => pB_iff.1 ((bnot_f h29))), rfl, hs23_1, hs23_29, rfl, st27⟩
        · skip
          have h24p := of_decide_eq_false h24
          refine wp_exit ?_
          refine wp_seq ?_
          have hTk : ∀ j, j < r.tasks.length → taskOkK r j := by rw [show k = r.tasks.length by omega] at hT; exact hT
          have hc4 := tasksIn_cnt r.tasks 4
          have hc5 := tasksIn_cnt r.tasks 5
          have hc6 := tasksIn_cnt r.tasks 6
          have hsum := cnt_sum (states_of hTk)
          have hso := stateOf_cases r.tasks
          have hn1 := cntI_nonneg r.tasks 1
          have hn2 := cntI_nonneg r.tasks 2
          have hn3 := cntI_nonneg r.tasks 3
          have hn4 := cntI_nonneg r.tasks 4
          have hn5 := cntI_nonneg r.tasks 5
          have hn6 := cntI_nonneg r.tasks 6
          refine sx_any [Pl.is (.agg #[I r.id, I r.plan.prio, I r.plan.most, I r.plan.wait, I r.plan.tasks, v6_0, I r.state, v6_1]), Pl.ssl (α := Int) (tasksIn r.tasks 4), Pl.is (I ((tasksIn r.tasks 4).length : Int)), Pl.is (.agg #[I r.id, I r.plan.prio, I r.plan.most, I r.plan.wait, I r.plan.tasks, v6_0, I r.state, v6_1]), Pl.ssl (α := Int) (tasksIn r.tasks 5), Pl.is (I ((tasksIn r.tasks 5).length : Int)), Pl.is (.agg #[I r.id, I r.plan.prio, I r.plan.most, I r.plan.wait, I r.plan.tasks, v6_0, I r.state, v6_1]), Pl.ssl (α := Int) (tasksIn r.tasks 6), Pl.is (I ((tasksIn r.tasks 6).length : Int)), Pl.is (I ((tasksIn r.tasks 4).length : Int)), Pl.is (I ((tasksIn r.tasks 5).length : Int)), Pl.is (I ((tasksIn r.tasks 6).length : Int))] mix (by rfl) st22 ⟨(fun f W hst hbl hd hf => stp_load_bxs (cs := [I r.id, I r.plan.prio, I r.plan.most, I r.plan.wait, I r.plan.tasks, v6_0, I r.state, v6_1]) ld_Run rfl ((hf 1 rfl).trans hs23_1) (hst.get 0 rfl) rfl rfl ⟨Below.refl _ _, rfl⟩), (fun f W hst hbl hd hf => stp_call2 Tryz.func162 rfl (hd 0 38 rfl rfl) rfl ((TasksInI W (C_below hc hst.below) 4 (by omega)).mono (by rintro e W2 ⟨v, fp, rfl, hk⟩; exact ⟨_, rfl, hk.below, fp, own_Sl (hk.get 0 rfl)⟩))), (fun f W hst hbl hd hf => by obtain ⟨fp32, h32⟩ := hd 1 39 rfl rfl; exact stp_len sl_IntS rfl h32 ⟨Below.refl _ _, rfl⟩), (fun f W hst hbl hd hf => stp_load_bxs (cs := [I r.id, I r.plan.prio, I r.plan.most, I r.plan.wait, I r.plan.tasks, v6_0, I r.state, v6_1]) ld_Run rfl ((hf 1 rfl).trans hs23_1) (hst.get 0 rfl) rfl rfl ⟨Below.refl _ _, rfl⟩), (fun f W hst hbl hd hf => stp_call2 Tryz.func162 rfl (hd 3 41 rfl rfl) rfl ((TasksInI W (C_below hc hst.below) 5 (by omega)).mono (by rintro e W2 ⟨v, fp, rfl, hk⟩; exact ⟨_, rfl, hk.below, fp, own_Sl (hk.get 0 rfl)⟩))), (fun f W hst hbl hd hf => by obtain ⟨fp35, h35⟩ := hd 4 42 rfl rfl; exact stp_len sl_IntS rfl h35 ⟨Below.refl _ _, rfl⟩), (fun f W hst hbl hd hf => stp_load_bxs (cs := [I r.id, I r.plan.prio, I r.plan.most, I r.plan.wait, I r.plan.tasks, v6_0, I r.state, v6_1]) ld_Run rfl ((hf 1 rfl).trans hs23_1) (hst.get 0 rfl) rfl rfl ⟨Below.refl _ _, rfl⟩), (fun f W hst hbl hd hf => stp_call2 Tryz.func162 rfl (hd 6 44 rfl rfl) rfl ((TasksInI W (C_below hc hst.below) 6 (by omega)).mono (by rintro e W2 ⟨v, fp, rfl, hk⟩; exact ⟨_, rfl, hk.below, fp, own_Sl (hk.get 0 rfl)⟩))), (fun f W hst hbl hd hf => by obtain ⟨fp38, h38⟩ := hd 7 45 rfl rfl; exact stp_len sl_IntS rfl h38 ⟨Below.refl _ _, rfl⟩), (fun f W hst hbl hd hf => stp_assign (v := I ((tasksIn r.tasks 4).length : Int)) (hd 2 40 rfl rfl) ⟨Below.refl _ _, rfl⟩), (fun f W hst hbl hd hf => stp_assign (v := I ((tasksIn r.tasks 5).length : Int)) (hd 5 43 rfl rfl) ⟨Below.refl _ _, rfl⟩), (fun f W hst hbl hd hf => stp_assign (v := I ((tasksIn r.tasks 6).length : Int)) (hd 8 46 rfl rfl) ⟨Below.refl _ _, rfl⟩), trivial⟩ ?_
          intro f39 W40 st41 hb42 hv43 hf44
          have hq_ := hv43 1 39 (by decide) rfl
          obtain ⟨fp45, h45⟩ := hq_
          have hq_ := hv43 4 42 (by decide) rfl
          obtain ⟨fp46, h46⟩ := hq_
          have hq_ := hv43 7 45 (by decide) rfl
          obtain ⟨fp47, h47⟩ := hq_
          refine wp_seq ?_
          refine sx_region ?_
          refine sx rfl (stp_move (v := I ((tasksIn r.tasks 4).length : Int)) (hv43 9 4 (by decide) rfl) ?_)
          refine sx rfl (stp_move (v := I ((tasksIn r.tasks 5).length : Int)) (hv43 10 5 (by decide) rfl) ?_)
          refine sx rfl (stp_add rfl rfl (by (simp only [I64] at *; omega)) ?_)
          refine sx rfl (stp_move (v := I ((tasksIn r.tasks 6).length : Int)) (hv43 11 6 (by decide) rfl) ?_)
          refine sx rfl (stp_add rfl rfl (by (simp only [I64] at *; omega)) ?_)
          refine sx rfl (stp_fieldAddr fa_Run_3 ((hf44 1 rfl).trans hs23_1) ?_)
          refine sx rfl (stp_load_rg ld_TaskS rfl rfl (range_of_heap (st41.get 0 rfl)) (Below.refl _ _) (i := 7) rfl rfl ?_)
          refine sx rfl (stp_len sl_TaskS rfl h6_1 ?_)
          refine sx rfl (stp_eql rfl rfl ?_)
          refine sx rfl (stp_assign (v := .bool (decide (((((tasksIn r.tasks 4).length : Int) + ((tasksIn r.tasks 5).length : Int)) + ((tasksIn r.tasks 6).length : Int)) = (r.tasks.length : Int)))) rfl ?_)
          refine sx_nil ?_
          refine wp_seq ?_
          refine wp_block ?_
          refine wp_seq ?_
          refine sx_region ?_
          refine sx rfl (stp_move (v := I ((tasksIn r.tasks 4).length : Int)) (hv43 9 4 (by decide) rfl) ?_)
          refine sx rfl (stp_fieldAddr fa_Run_3 ((hf44 1 rfl).trans hs23_1) ?_)
          refine sx rfl (stp_load_rg ld_TaskS rfl rfl (range_of_heap (st41.get 0 rfl)) (Below.refl _ _) (i := 7) rfl rfl ?_)
          refine sx rfl (stp_len sl_TaskS rfl h6_1 ?_)
          refine sx rfl (stp_eql rfl rfl ?_)
          refine sx rfl (stp_assign (v := .bool (decide (((tasksIn r.tasks 4).length : Int) = (r.tasks.length : Int)))) rfl ?_)
          refine sx_nil ?_
          refine sx_if rfl (fun h48 => ?_) (fun h48 => ?_)
          · skip
            have h48p := of_decide_eq_true h48
            refine wp_seq ?_
            refine sx_region ?_
            refine sx rfl (stp_fieldAddr fa_Run_2 ((hf44 1 rfl).trans hs23_1) ?_)
            refine sx rfl (stp_load_rg ld_int rfl rfl (range_of_heap (st41.get 0 rfl)) (Below.refl _ _) (i := 6) rfl rfl ?_)
            refine sx rfl (stp_eql rfl rfl ?_)
            refine sx rfl (stp_assign (v := .bool (decide (r.state = 2))) rfl ?_)
            refine sx_nil ?_
            rcases bd (decide (r.state = 2)) with h49 | h49
            · skip
              have h49p := of_decide_eq_false h49
              refine wp_ret ?_; repeat (first | refine then_ret ?_ | refine blk_ret ?_)
              refine ret1 Tryz.results97 ((rfl : _ = (.bool (decide (r.state = 2)) : Value)).trans (congrArg Value.bool h49)) ?_
              have st50 := St.call st41 (St.start W40)
              exact ⟨(congrArg (fun z => Ending.returned (.bool z)) (by unfold runOk; rw [pB_f (by rintro ⟨hz1, hz2, hz3, hz4, hz5, hz6⟩; omega)])), st50.bare⟩
            · skip
              have h49p := of_decide_eq_true h49
              refine wp_ret ?_; repeat (first | refine then_ret ?_ | refine blk_ret ?_)
              refine ret1 Tryz.results97 ((rfl : _ = (.bool (decide (r.state = 2)) : Value)).trans (congrArg Value.bool h49)) ?_
              have st51 := St.call st41 (St.start W40)
              exact ⟨(congrArg (fun z => Ending.returned (.bool z)) (by unfold runOk; rw [pB_t ⟨by omega, by omega, by omega, hTk, by omega, by omega⟩])), st51.bare⟩
          · skip
            have h48p := of_decide_eq_false h48
            refine wp_seq ?_
            refine sx_region ?_
            refine sx rfl (stp_move (v := I ((tasksIn r.tasks 5).length : Int)) (hv43 10 5 (by decide) rfl) ?_)
            refine sx rfl (stp_eql rfl rfl ?_)
            refine sx rfl (stp_move (v := .bool (decide (((tasksIn r.tasks 5).length : Int) = 1))) rfl ?_)
            rcases bd (decide (((tasksIn r.tasks 5).length : Int) = 1)) with h52 | h52
            · skip
              have h52p := of_decide_eq_false h52
              refine sx_off (j := 2) (dd := 68) rfl rfl (by decide) (yl_off (e := decide (((tasksIn r.tasks 5).length : Int) = 1)) rfl h52) ?_
              refine sx rfl (stp_pick_f (v := .bool false) ((rfl : _ = (.bool (decide (((tasksIn r.tasks 5).length : Int) = 1)) : Value)).trans (congrArg Value.bool h52)) rfl ?_)
              refine sx rfl (stp_assign (v := .bool false) rfl ?_)
              refine sx_nil ?_
              refine sx_f rfl rfl ?_
              refine wp_seq ?_
              refine sx_region ?_
              refine sx rfl (stp_move (v := I ((tasksIn r.tasks 5).length : Int)) (hv43 10 5 (by decide) rfl) ?_)
              refine sx rfl (stp_eql rfl rfl ?_)
              refine sx rfl (stp_move (v := .bool (decide (((tasksIn r.tasks 5).length : Int) = 0))) rfl ?_)
              rcases bd (decide (((tasksIn r.tasks 5).length : Int) = 0)) with h53 | h53
              · skip
                have h53p := of_decide_eq_false h53
                iterate 2 refine sx_off (j := 2) (dd := 77) rfl rfl (by decide) (yl_off (e := decide (((tasksIn r.tasks 5).length : Int) = 0)) rfl h53) ?_
                refine sx rfl (stp_pick_f (v := .bool false) ((rfl : _ = (.bool (decide (((tasksIn r.tasks 5).length : Int) = 0)) : Value)).trans (congrArg Value.bool h53)) rfl ?_)
                refine sx rfl (stp_move (v := .bool false) rfl ?_)
                refine sx_off (j := 6) (dd := 81) rfl rfl (by decide) (yl_off (e := false) rfl rfl) ?_
                refine sx rfl (stp_pick_f (v := .bool false) rfl rfl ?_)
                refine sx rfl (stp_assign (v := .bool false) rfl ?_)
                refine sx_nil ?_
                refine sx_f rfl rfl ?_
                refine wp_skip ?_
                refine wp_seq ?_
                refine sx_region ?_
                refine sx rfl (stp_fieldAddr fa_Run_2 ((hf44 1 rfl).trans hs23_1) ?_)
                refine sx rfl (stp_load_rg ld_int rfl rfl (range_of_heap (st41.get 0 rfl)) (Below.refl _ _) (i := 6) rfl rfl ?_)
                refine sx rfl (stp_eql rfl rfl ?_)
                refine sx rfl (stp_move (v := .bool (decide (r.state = 1))) rfl ?_)
                rcases bd (decide (r.state = 1)) with h54 | h54
                · skip
                  have h54p := of_decide_eq_false h54
                  iterate 2 refine sx_off (j := 3) (dd := 90) rfl rfl (by decide) (yl_off (e := decide (r.state = 1)) rfl h54) ?_
                  refine sx rfl (stp_pick_f (v := .bool false) ((rfl : _ = (.bool (decide (r.state = 1)) : Value)).trans (congrArg Value.bool h54)) rfl ?_)
                  refine sx rfl (stp_move (v := .bool false) rfl ?_)
                  iterate 2 refine sx_off (j := 7) (dd := 94) rfl rfl (by decide) (yl_off (e := false) rfl rfl) ?_
                  refine sx rfl (stp_pick_f (v := .bool false) rfl rfl ?_)
                  refine sx rfl (stp_assign (v := .bool false) rfl ?_)
                  refine sx_nil ?_
                  refine wp_ret ?_; repeat (first | refine then_ret ?_ | refine blk_ret ?_)
                  refine ret1 Tryz.results97 rfl ?_
                  have st55 := St.call st41 (St.start W40)
                  exact ⟨(congrArg (fun z => Ending.returned (.bool z)) (by unfold runOk; rw [pB_f (by rintro ⟨hz1, hz2, hz3, hz4, hz5, hz6⟩; omega)])), st55.bare⟩
                · skip
                  have h54p := of_decide_eq_true h54
                  refine sx_on (j := 3) (dd := 90) rfl rfl (by decide) (yl_on (e := decide (r.state = 1)) rfl h54) (stp_move (v := I ((tasksIn r.tasks 5).length : Int)) (hv43 10 5 (by decide) rfl) ?_)
                  refine sx_on (j := 3) (dd := 90) rfl rfl (by decide) (yl_on (e := decide (r.state = 1)) rfl h54) (stp_eql rfl rfl ?_)
                  refine sx rfl (stp_pick_t (v := .bool (decide (((tasksIn r.tasks 5).length : Int) = 0))) ((rfl : _ = (.bool (decide (r.state = 1)) : Value)).trans (congrArg Value.bool h54)) rfl ?_)
                  refine sx rfl (stp_move (v := .bool (decide (((tasksIn r.tasks 5).length : Int) = 0))) rfl ?_)
                  iterate 2 refine sx_off (j := 7) (dd := 94) rfl rfl (by decide) (yl_off (e := decide (((tasksIn r.tasks 5).length : Int) = 0)) rfl h53) ?_
                  refine sx rfl (stp_pick_f (v := .bool false) ((rfl : _ = (.bool (decide (((tasksIn r.tasks 5).length : Int) = 0)) : Value)).trans (congrArg Value.bool h53)) rfl ?_)
                  refine sx rfl (stp_assign (v := .bool false) rfl ?_)
                  refine sx_nil ?_
                  refine wp_ret ?_; repeat (first | refine then_ret ?_ | refine blk_ret ?_)
                  refine ret1 Tryz.results97 rfl ?_
                  have st56 := St.call st41 (St.start W40)
                  exact ⟨(congrArg (fun z => Ending.returned (.bool z)) (by unfold runOk; rw [pB_f (by rintro ⟨hz1, hz2, hz3, hz4, hz5, hz6⟩; omega)])), st56.bare⟩
              · skip
                have h53p := of_decide_eq_true h53
                refine sx_on (j := 2) (dd := 77) rfl rfl (by decide) (yl_on (e := decide (((tasksIn r.tasks 5).length : Int) = 0)) rfl h53) (stp_move (v := I ((tasksIn r.tasks 6).length : Int)) (hv43 11 6 (by decide) rfl) ?_)
                refine sx_on (j := 2) (dd := 77) rfl rfl (by decide) (yl_on (e := decide (((tasksIn r.tasks 5).length : Int) = 0)) rfl h53) (stp_gtr rfl rfl ?_)
                refine sx rfl (stp_pick_t (v := .bool (decide (0 < ((tasksIn r.tasks 6).length : Int)))) ((rfl : _ = (.bool (decide (((tasksIn r.tasks 5).length : Int) = 0)) : Value)).trans (congrArg Value.bool h53)) rfl ?_)
                refine sx rfl (stp_move (v := .bool (decide (0 < ((tasksIn r.tasks 6).length : Int)))) rfl ?_)
                rcases bd (decide (0 < ((tasksIn r.tasks 6).length : Int))) with h57 | h57
                · skip
                  have h57p := of_decide_eq_false h57
                  refine sx_off (j := 6) (dd := 81) rfl rfl (by decide) (yl_off (e := decide (0 < ((tasksIn r.tasks 6).length : Int))) rfl h57) ?_
                  refine sx rfl (stp_pick_f (v := .bool false) ((rfl : _ = (.bool (decide (0 < ((tasksIn r.tasks 6).length : Int))) : Value)).trans (congrArg Value.bool h57)) rfl ?_)
                  refine sx rfl (stp_assign (v := .bool false) rfl ?_)
                  refine sx_nil ?_
                  refine sx_f rfl rfl ?_
                  refine wp_skip ?_
                  refine wp_seq ?_
                  refine sx_region ?_
                  refine sx rfl (stp_fieldAddr fa_Run_2 ((hf44 1 rfl).trans hs23_1) ?_)
                  refine sx rfl (stp_load_rg ld_int rfl rfl (range_of_heap (st41.get 0 rfl)) (Below.refl _ _) (i := 6) rfl rfl ?_)
                  refine sx rfl (stp_eql rfl rfl ?_)
                  refine sx rfl (stp_move (v := .bool (decide (r.state = 1))) rfl ?_)
                  rcases bd (decide (r.state = 1)) with h58 | h58
                  · skip
                    have h58p := of_decide_eq_false h58
                    iterate 2 refine sx_off (j := 3) (dd := 90) rfl rfl (by decide) (yl_off (e := decide (r.state = 1)) rfl h58) ?_
                    refine sx rfl (stp_pick_f (v := .bool false) ((rfl : _ = (.bool (decide (r.state = 1)) : Value)).trans (congrArg Value.bool h58)) rfl ?_)
                    refine sx rfl (stp_move (v := .bool false) rfl ?_)
                    iterate 2 refine sx_off (j := 7) (dd := 94) rfl rfl (by decide) (yl_off (e := false) rfl rfl) ?_
                    refine sx rfl (stp_pick_f (v := .bool false) rfl rfl ?_)
                    refine sx rfl (stp_assign (v := .bool false) rfl ?_)
                    refine sx_nil ?_
                    refine wp_ret ?_; repeat (first | refine then_ret ?_ | refine blk_ret ?_)
                    refine ret1 Tryz.results97 rfl ?_
                    have st59 := St.call st41 (St.start W40)
                    exact ⟨(congrArg (fun z => Ending.returned (.bool z)) (by unfold runOk; rw [pB_f (by rintro ⟨hz1, hz2, hz3, hz4, hz5, hz6⟩; omega)])), st59.bare⟩
                  · skip
                    have h58p := of_decide_eq_true h58
                    refine sx_on (j := 3) (dd := 90) rfl rfl (by decide) (yl_on (e := decide (r.state = 1)) rfl h58) (stp_move (v := I ((tasksIn r.tasks 5).length : Int)) (hv43 10 5 (by decide) rfl) ?_)
                    refine sx_on (j := 3) (dd := 90) rfl rfl (by decide) (yl_on (e := decide (r.state = 1)) rfl h58) (stp_eql rfl rfl ?_)
                    refine sx rfl (stp_pick_t (v := .bool (decide (((tasksIn r.tasks 5).length : Int) = 0))) ((rfl : _ = (.bool (decide (r.state = 1)) : Value)).trans (congrArg Value.bool h58)) rfl ?_)
                    refine sx rfl (stp_move (v := .bool (decide (((tasksIn r.tasks 5).length : Int) = 0))) rfl ?_)
                    refine sx_on (j := 7) (dd := 94) rfl rfl (by decide) (yl_on (e := decide (((tasksIn r.tasks 5).length : Int) = 0)) rfl h53) (stp_move (v := I ((tasksIn r.tasks 6).length : Int)) (hv43 11 6 (by decide) rfl) ?_)
                    refine sx_on (j := 7) (dd := 94) rfl rfl (by decide) (yl_on (e := decide (((tasksIn r.tasks 5).length : Int) = 0)) rfl h53) (stp_eql rfl rfl ?_)
                    refine sx rfl (stp_pick_t (v := .bool (decide (((tasksIn r.tasks 6).length : Int) = 0))) ((rfl : _ = (.bool (decide (((tasksIn r.tasks 5).length : Int) = 0)) : Value)).trans (congrArg Value.bool h53)) rfl ?_)
                    refine sx rfl (stp_assign (v := .bool (decide (((tasksIn r.tasks 6).length : Int) = 0))) rfl ?_)
                    refine sx_nil ?_
                    rcases bd (decide (((tasksIn r.tasks 6).length : Int) = 0)) with h60 | h60
                    · skip
                      have h60p := of_decide_eq_false h60
                      refine wp_ret ?_; repeat (first | refine then_ret ?_ | refine blk_ret ?_)
                      refine ret1 Tryz.results97 ((rfl : _ = (.bool (decide (((tasksIn r.tasks 6).length : Int) = 0)) : Value)).trans (congrArg Value.bool h60)) ?_
                      have st61 := St.call st41 (St.start W40)
                      exact ⟨(congrArg (fun z => Ending.returned (.bool z)) (by unfold runOk; rw [pB_f (by rintro ⟨hz1, hz2, hz3, hz4, hz5, hz6⟩; omega)])), st61.bare⟩
                    · skip
                      have h60p := of_decide_eq_true h60
                      refine wp_ret ?_; repeat (first | refine then_ret ?_ | refine blk_ret ?_)
                      refine ret1 Tryz.results97 ((rfl : _ = (.bool (decide (((tasksIn r.tasks 6).length : Int) = 0)) : Value)).trans (congrArg Value.bool h60)) ?_
                      have st62 := St.call st41 (St.start W40)
                      exact ⟨(congrArg (fun z => Ending.returned (.bool z)) (by unfold runOk; rw [pB_t ⟨by omega, by omega, by omega, hTk, by omega, by omega⟩])), st62.bare⟩
                · skip
                  have h57p := of_decide_eq_true h57
                  refine sx_on (j := 6) (dd := 81) rfl rfl (by decide) (yl_on (e := decide (0 < ((tasksIn r.tasks 6).length : Int))) rfl h57) (stp_move (v := .bool (decide (((((tasksIn r.tasks 4).length : Int) + ((tasksIn r.tasks 5).length : Int)) + ((tasksIn r.tasks 6).length : Int)) = (r.tasks.length : Int)))) rfl ?_)
                  refine sx rfl (stp_pick_t (v := .bool (decide (((((tasksIn r.tasks 4).length : Int) + ((tasksIn r.tasks 5).length : Int)) + ((tasksIn r.tasks 6).length : Int)) = (r.tasks.length : Int)))) ((rfl : _ = (.bool (decide (0 < ((tasksIn r.tasks 6).length : Int))) : Value)).trans (congrArg Value.bool h57)) rfl ?_)
                  refine sx rfl (stp_assign (v := .bool (decide (((((tasksIn r.tasks 4).length : Int) + ((tasksIn r.tasks 5).length : Int)) + ((tasksIn r.tasks 6).length : Int)) = (r.tasks.length : Int)))) rfl ?_)
                  refine sx_nil ?_
                  refine sx_if rfl (fun h63 => ?_) (fun h63 => ?_)
                  · skip
                    have h63p := of_decide_eq_true h63
                    refine wp_seq ?_
                    refine sx_region ?_
                    refine sx rfl (stp_fieldAddr fa_Run_2 ((hf44 1 rfl).trans hs23_1) ?_)
                    refine sx rfl (stp_load_rg ld_int rfl rfl (range_of_heap (st41.get 0 rfl)) (Below.refl _ _) (i := 6) rfl rfl ?_)
                    refine sx rfl (stp_eql rfl rfl ?_)
                    refine sx rfl (stp_assign (v := .bool (decide (r.state = 4))) rfl ?_)
                    refine sx_nil ?_
                    rcases bd (decide (r.state = 4)) with h64 | h64
                    · skip
                      have h64p := of_decide_eq_false h64
                      refine wp_ret ?_; repeat (first | refine then_ret ?_ | refine blk_ret ?_)
                      refine ret1 Tryz.results97 ((rfl : _ = (.bool (decide (r.state = 4)) : Value)).trans (congrArg Value.bool h64)) ?_
                      have st65 := St.call st41 (St.start W40)
                      exact ⟨(congrArg (fun z => Ending.returned (.bool z)) (by unfold runOk; rw [pB_f (by rintro ⟨hz1, hz2, hz3, hz4, hz5, hz6⟩; omega)])), st65.bare⟩
                    · skip
                      have h64p := of_decide_eq_true h64
                      refine wp_ret ?_; repeat (first | refine then_ret ?_ | refine blk_ret ?_)
                      refine ret1 Tryz.results97 ((rfl : _ = (.bool (decide (r.state = 4)) : Value)).trans (congrArg Value.bool h64)) ?_
                      have st66 := St.call st41 (St.start W40)
                      exact ⟨(congrArg (fun z => Ending.returned (.bool z)) (by unfold runOk; rw [pB_t ⟨by omega, by omega, by omega, hTk, by omega, by omega⟩])), st66.bare⟩
                  · skip
                    have h63p := of_decide_eq_false h63
                    refine wp_skip ?_
                    refine wp_seq ?_
                    refine sx_region ?_
                    refine sx rfl (stp_fieldAddr fa_Run_2 ((hf44 1 rfl).trans hs23_1) ?_)
                    refine sx rfl (stp_load_rg ld_int rfl rfl (range_of_heap (st41.get 0 rfl)) (Below.refl _ _) (i := 6) rfl rfl ?_)
                    refine sx rfl (stp_eql rfl rfl ?_)
                    refine sx rfl (stp_move (v := .bool (decide (r.state = 1))) rfl ?_)
                    rcases bd (decide (r.state = 1)) with h67 | h67
                    · skip
                      have h67p := of_decide_eq_false h67
                      iterate 2 refine sx_off (j := 3) (dd := 90) rfl rfl (by decide) (yl_off (e := decide (r.state = 1)) rfl h67) ?_
                      refine sx rfl (stp_pick_f (v := .bool false) ((rfl : _ = (.bool (decide (r.state = 1)) : Value)).trans (congrArg Value.bool h67)) rfl ?_)
                      refine sx rfl (stp_move (v := .bool false) rfl ?_)
                      iterate 2 refine sx_off (j := 7) (dd := 94) rfl rfl (by decide) (yl_off (e := false) rfl rfl) ?_
                      refine sx rfl (stp_pick_f (v := .bool false) rfl rfl ?_)
                      refine sx rfl (stp_assign (v := .bool false) rfl ?_)
                      refine sx_nil ?_
                      refine wp_ret ?_; repeat (first | refine then_ret ?_ | refine blk_ret ?_)
                      refine ret1 Tryz.results97 rfl ?_
                      have st68 := St.call st41 (St.start W40)
                      exact ⟨(congrArg (fun z => Ending.returned (.bool z)) (by unfold runOk; rw [pB_f (by rintro ⟨hz1, hz2, hz3, hz4, hz5, hz6⟩; omega)])), st68.bare⟩
                    · skip
                      have h67p := of_decide_eq_true h67
                      refine sx_on (j := 3) (dd := 90) rfl rfl (by decide) (yl_on (e := decide (r.state = 1)) rfl h67) (stp_move (v := I ((tasksIn r.tasks 5).length : Int)) (hv43 10 5 (by decide) rfl) ?_)
                      refine sx_on (j := 3) (dd := 90) rfl rfl (by decide) (yl_on (e := decide (r.state = 1)) rfl h67) (stp_eql rfl rfl ?_)
                      refine sx rfl (stp_pick_t (v := .bool (decide (((tasksIn r.tasks 5).length : Int) = 0))) ((rfl : _ = (.bool (decide (r.state = 1)) : Value)).trans (congrArg Value.bool h67)) rfl ?_)
                      refine sx rfl (stp_move (v := .bool (decide (((tasksIn r.tasks 5).length : Int) = 0))) rfl ?_)
                      refine sx_on (j := 7) (dd := 94) rfl rfl (by decide) (yl_on (e := decide (((tasksIn r.tasks 5).length : Int) = 0)) rfl h53) (stp_move (v := I ((tasksIn r.tasks 6).length : Int)) (hv43 11 6 (by decide) rfl) ?_)
                      refine sx_on (j := 7) (dd := 94) rfl rfl (by decide) (yl_on (e := decide (((tasksIn r.tasks 5).length : Int) = 0)) rfl h53) (stp_eql rfl rfl ?_)
                      refine sx rfl (stp_pick_t (v := .bool (decide (((tasksIn r.tasks 6).length : Int) = 0))) ((rfl : _ = (.bool (decide (((tasksIn r.tasks 5).length : Int) = 0)) : Value)).trans (congrArg Value.bool h53)) rfl ?_)
                      refine sx rfl (stp_assign (v := .bool (decide (((tasksIn r.tasks 6).length : Int) = 0))) rfl ?_)
                      refine sx_nil ?_
                      rcases bd (decide (((tasksIn r.tasks 6).length : Int) = 0)) with h69 | h69
                      · skip
                        have h69p := of_decide_eq_false h69
                        refine wp_ret ?_; repeat (first | refine then_ret ?_ | refine blk_ret ?_)
                        refine ret1 Tryz.results97 ((rfl : _ = (.bool (decide (((tasksIn r.tasks 6).length : Int) = 0)) : Value)).trans (congrArg Value.bool h69)) ?_
                        have st70 := St.call st41 (St.start W40)
                        exact ⟨(congrArg (fun z => Ending.returned (.bool z)) (by unfold runOk; rw [pB_f (by rintro ⟨hz1, hz2, hz3, hz4, hz5, hz6⟩; omega)])), st70.bare⟩
                      · skip
                        have h69p := of_decide_eq_true h69
                        refine wp_ret ?_; repeat (first | refine then_ret ?_ | refine blk_ret ?_)
                        refine ret1 Tryz.results97 ((rfl : _ = (.bool (decide (((tasksIn r.tasks 6).length : Int) = 0)) : Value)).trans (congrArg Value.bool h69)) ?_
                        have st71 := St.call st41 (St.start W40)
                        exact ⟨(congrArg (fun z => Ending.returned (.bool z)) (by unfold runOk; rw [pB_t ⟨by omega, by omega, by omega, hTk, by omega, by omega⟩])), st71.bare⟩
            · skip
              have h52p := of_decide_eq_true h52
              refine sx_on (j := 2) (dd := 68) rfl rfl (by decide) (yl_on (e := decide (((tasksIn r.tasks 5).length : Int) = 1)) rfl h52) (stp_move (v := .bool (decide (((((tasksIn r.tasks 4).length : Int) + ((tasksIn r.tasks 5).length : Int)) + ((tasksIn r.tasks 6).length : Int)) = (r.tasks.length : Int)))) rfl ?_)
              refine sx rfl (stp_pick_t (v := .bool (decide (((((tasksIn r.tasks 4).length : Int) + ((tasksIn r.tasks 5).length : Int)) + ((tasksIn r.tasks 6).length : Int)) = (r.tasks.length : Int)))) ((rfl : _ = (.bool (decide (((tasksIn r.tasks 5).length : Int) = 1)) : Value)).trans (congrArg Value.bool h52)) rfl ?_)
              refine sx rfl (stp_assign (v := .bool (decide (((((tasksIn r.tasks 4).length : Int) + ((tasksIn r.tasks 5).length : Int)) + ((tasksIn r.tasks 6).length : Int)) = (r.tasks.length : Int)))) rfl ?_)
              refine sx_nil ?_
              refine sx_if rfl (fun h72 => ?_) (fun h72 => ?_)
              · skip
                have h72p := of_decide_eq_true h72
                refine wp_seq ?_
                refine sx_region ?_
                refine sx rfl (stp_fieldAddr fa_Run_2 ((hf44 1 rfl).trans hs23_1) ?_)
                refine sx rfl (stp_load_rg ld_int rfl rfl (range_of_heap (st41.get 0 rfl)) (Below.refl _ _) (i := 6) rfl rfl ?_)
                refine sx rfl (stp_eql rfl rfl ?_)
                refine sx rfl (stp_assign (v := .bool (decide (r.state = 3))) rfl ?_)
                refine sx_nil ?_
                rcases bd (decide (r.state = 3)) with h73 | h73
                · skip
                  have h73p := of_decide_eq_false h73
                  refine wp_ret ?_; repeat (first | refine then_ret ?_ | refine blk_ret ?_)
                  refine ret1 Tryz.results97 ((rfl : _ = (.bool (decide (r.state = 3)) : Value)).trans (congrArg Value.bool h73)) ?_
                  have st74 := St.call st41 (St.start W40)
                  exact ⟨(congrArg (fun z => Ending.returned (.bool z)) (by unfold runOk; rw [pB_f (by rintro ⟨hz1, hz2, hz3, hz4, hz5, hz6⟩; omega)])), st74.bare⟩
                · skip
                  have h73p := of_decide_eq_true h73
                  refine wp_ret ?_; repeat (first | refine then_ret ?_ | refine blk_ret ?_)
                  refine ret1 Tryz.results97 ((rfl : _ = (.bool (decide (r.state = 3)) : Value)).trans (congrArg Value.bool h73)) ?_
                  have st75 := St.call st41 (St.start W40)
                  exact ⟨(congrArg (fun z => Ending.returned (.bool z)) (by unfold runOk; rw [pB_t ⟨by omega, by omega, by omega, hTk, by omega, by omega⟩])), st75.bare⟩
              · skip
                have h72p := of_decide_eq_false h72
                refine wp_seq ?_
                refine sx_region ?_
                refine sx rfl (stp_move (v := I ((tasksIn r.tasks 5).length : Int)) (hv43 10 5 (by decide) rfl) ?_)
                refine sx rfl (stp_eql rfl rfl ?_)
                refine sx rfl (stp_move (v := .bool (decide (((tasksIn r.tasks 5).length : Int) = 0))) rfl ?_)
                rcases bd (decide (((tasksIn r.tasks 5).length : Int) = 0)) with h76 | h76
                · skip
                  have h76p := of_decide_eq_false h76
                  iterate 2 refine sx_off (j := 2) (dd := 77) rfl rfl (by decide) (yl_off (e := decide (((tasksIn r.tasks 5).length : Int) = 0)) rfl h76) ?_
                  refine sx rfl (stp_pick_f (v := .bool false) ((rfl : _ = (.bool (decide (((tasksIn r.tasks 5).length : Int) = 0)) : Value)).trans (congrArg Value.bool h76)) rfl ?_)
                  refine sx rfl (stp_move (v := .bool false) rfl ?_)
                  refine sx_off (j := 6) (dd := 81) rfl rfl (by decide) (yl_off (e := false) rfl rfl) ?_
                  refine sx rfl (stp_pick_f (v := .bool false) rfl rfl ?_)
                  refine sx rfl (stp_assign (v := .bool false) rfl ?_)
                  refine sx_nil ?_
                  refine sx_f rfl rfl ?_
                  refine wp_skip ?_
                  refine wp_seq ?_
                  refine sx_region ?_
                  refine sx rfl (stp_fieldAddr fa_Run_2 ((hf44 1 rfl).trans hs23_1) ?_)
                  refine sx rfl (stp_load_rg ld_int rfl rfl (range_of_heap (st41.get 0 rfl)) (Below.refl _ _) (i := 6) rfl rfl ?_)
                  refine sx rfl (stp_eql rfl rfl ?_)
                  refine sx rfl (stp_move (v := .bool (decide (r.state = 1))) rfl ?_)
                  rcases bd (decide (r.state = 1)) with h77 | h77
                  · skip
                    have h77p := of_decide_eq_false h77
                    iterate 2 refine sx_off (j := 3) (dd := 90) rfl rfl (by decide) (yl_off (e := decide (r.state = 1)) rfl h77) ?_
                    refine sx rfl (stp_pick_f (v := .bool false) ((rfl : _ = (.bool (decide (r.state = 1)) : Value)).trans (congrArg Value.bool h77)) rfl ?_)
                    refine sx rfl (stp_move (v := .bool false) rfl ?_)
                    iterate 2 refine sx_off (j := 7) (dd := 94) rfl rfl (by decide) (yl_off (e := false) rfl rfl) ?_
                    refine sx rfl (stp_pick_f (v := .bool false) rfl rfl ?_)
                    refine sx rfl (stp_assign (v := .bool false) rfl ?_)
                    refine sx_nil ?_
                    refine wp_ret ?_; repeat (first | refine then_ret ?_ | refine blk_ret ?_)
                    refine ret1 Tryz.results97 rfl ?_
                    have st78 := St.call st41 (St.start W40)
                    exact ⟨(congrArg (fun z => Ending.returned (.bool z)) (by unfold runOk; rw [pB_f (by rintro ⟨hz1, hz2, hz3, hz4, hz5, hz6⟩; omega)])), st78.bare⟩
                  · skip
                    have h77p := of_decide_eq_true h77
                    refine sx_on (j := 3) (dd := 90) rfl rfl (by decide) (yl_on (e := decide (r.state = 1)) rfl h77) (stp_move (v := I ((tasksIn r.tasks 5).length : Int)) (hv43 10 5 (by decide) rfl) ?_)
                    refine sx_on (j := 3) (dd := 90) rfl rfl (by decide) (yl_on (e := decide (r.state = 1)) rfl h77) (stp_eql rfl rfl ?_)
                    refine sx rfl (stp_pick_t (v := .bool (decide (((tasksIn r.tasks 5).length : Int) = 0))) ((rfl : _ = (.bool (decide (r.state = 1)) : Value)).trans (congrArg Value.bool h77)) rfl ?_)
                    refine sx rfl (stp_move (v := .bool (decide (((tasksIn r.tasks 5).length : Int) = 0))) rfl ?_)
                    iterate 2 refine sx_off (j := 7) (dd := 94) rfl rfl (by decide) (yl_off (e := decide (((tasksIn r.tasks 5).length : Int) = 0)) rfl h76) ?_
                    refine sx rfl (stp_pick_f (v := .bool false) ((rfl : _ = (.bool (decide (((tasksIn r.tasks 5).length : Int) = 0)) : Value)).trans (congrArg Value.bool h76)) rfl ?_)
                    refine sx rfl (stp_assign (v := .bool false) rfl ?_)
                    refine sx_nil ?_
                    refine wp_ret ?_; repeat (first | refine then_ret ?_ | refine blk_ret ?_)
                    refine ret1 Tryz.results97 rfl ?_
                    have st79 := St.call st41 (St.start W40)
                    exact ⟨(congrArg (fun z => Ending.returned (.bool z)) (by unfold runOk; rw [pB_f (by rintro ⟨hz1, hz2, hz3, hz4, hz5, hz6⟩; omega)])), st79.bare⟩
                · skip
                  have h76p := of_decide_eq_true h76
                  refine sx_on (j := 2) (dd := 77) rfl rfl (by decide) (yl_on (e := decide (((tasksIn r.tasks 5).length : Int) = 0)) rfl h76) (stp_move (v := I ((tasksIn r.tasks 6).length : Int)) (hv43 11 6 (by decide) rfl) ?_)
                  refine sx_on (j := 2) (dd := 77) rfl rfl (by decide) (yl_on (e := decide (((tasksIn r.tasks 5).length : Int) = 0)) rfl h76) (stp_gtr rfl rfl ?_)
                  refine sx rfl (stp_pick_t (v := .bool (decide (0 < ((tasksIn r.tasks 6).length : Int)))) ((rfl : _ = (.bool (decide (((tasksIn r.tasks 5).length : Int) = 0)) : Value)).trans (congrArg Value.bool h76)) rfl ?_)
                  refine sx rfl (stp_move (v := .bool (decide (0 < ((tasksIn r.tasks 6).length : Int)))) rfl ?_)
                  rcases bd (decide (0 < ((tasksIn r.tasks 6).length : Int))) with h80 | h80
                  · skip
                    have h80p := of_decide_eq_false h80
                    refine sx_off (j := 6) (dd := 81) rfl rfl (by decide) (yl_off (e := decide (0 < ((tasksIn r.tasks 6).length : Int))) rfl h80) ?_
                    refine sx rfl (stp_pick_f (v := .bool false) ((rfl : _ = (.bool (decide (0 < ((tasksIn r.tasks 6).length : Int))) : Value)).trans (congrArg Value.bool h80)) rfl ?_)
                    refine sx rfl (stp_assign (v := .bool false) rfl ?_)
                    refine sx_nil ?_
                    refine sx_f rfl rfl ?_
                    refine wp_skip ?_
                    refine wp_seq ?_
                    refine sx_region ?_
                    refine sx rfl (stp_fieldAddr fa_Run_2 ((hf44 1 rfl).trans hs23_1) ?_)
                    refine sx rfl (stp_load_rg ld_int rfl rfl (range_of_heap (st41.get 0 rfl)) (Below.refl _ _) (i := 6) rfl rfl ?_)
                    refine sx rfl (stp_eql rfl rfl ?_)
                    refine sx rfl (stp_move (v := .bool (decide (r.state = 1))) rfl ?_)
                    rcases bd (decide (r.state = 1)) with h81 | h81
                    · skip
                      have h81p := of_decide_eq_false h81
                      iterate 2 refine sx_off (j := 3) (dd := 90) rfl rfl (by decide) (yl_off (e := decide (r.state = 1)) rfl h81) ?_
                      refine sx rfl (stp_pick_f (v := .bool false) ((rfl : _ = (.bool (decide (r.state = 1)) : Value)).trans (congrArg Value.bool h81)) rfl ?_)
                      refine sx rfl (stp_move (v := .bool false) rfl ?_)
                      iterate 2 refine sx_off (j := 7) (dd := 94) rfl rfl (by decide) (yl_off (e := false) rfl rfl) ?_
                      refine sx rfl (stp_pick_f (v := .bool false) rfl rfl ?_)
                      refine sx rfl (stp_assign (v := .bool false) rfl ?_)
                      refine sx_nil ?_
                      refine wp_ret ?_; repeat (first | refine then_ret ?_ | refine blk_ret ?_)
                      refine ret1 Tryz.results97 rfl ?_
                      have st82 := St.call st41 (St.start W40)
                      exact ⟨(congrArg (fun z => Ending.returned (.bool z)) (by unfold runOk; rw [pB_f (by rintro ⟨hz1, hz2, hz3, hz4, hz5, hz6⟩; omega)])), st82.bare⟩
                    · skip
                      have h81p := of_decide_eq_true h81
                      refine sx_on (j := 3) (dd := 90) rfl rfl (by decide) (yl_on (e := decide (r.state = 1)) rfl h81) (stp_move (v := I ((tasksIn r.tasks 5).length : Int)) (hv43 10 5 (by decide) rfl) ?_)
                      refine sx_on (j := 3) (dd := 90) rfl rfl (by decide) (yl_on (e := decide (r.state = 1)) rfl h81) (stp_eql rfl rfl ?_)
                      refine sx rfl (stp_pick_t (v := .bool (decide (((tasksIn r.tasks 5).length : Int) = 0))) ((rfl : _ = (.bool (decide (r.state = 1)) : Value)).trans (congrArg Value.bool h81)) rfl ?_)
                      refine sx rfl (stp_move (v := .bool (decide (((tasksIn r.tasks 5).length : Int) = 0))) rfl ?_)
                      refine sx_on (j := 7) (dd := 94) rfl rfl (by decide) (yl_on (e := decide (((tasksIn r.tasks 5).length : Int) = 0)) rfl h76) (stp_move (v := I ((tasksIn r.tasks 6).length : Int)) (hv43 11 6 (by decide) rfl) ?_)
                      refine sx_on (j := 7) (dd := 94) rfl rfl (by decide) (yl_on (e := decide (((tasksIn r.tasks 5).length : Int) = 0)) rfl h76) (stp_eql rfl rfl ?_)
                      refine sx rfl (stp_pick_t (v := .bool (decide (((tasksIn r.tasks 6).length : Int) = 0))) ((rfl : _ = (.bool (decide (((tasksIn r.tasks 5).length : Int) = 0)) : Value)).trans (congrArg Value.bool h76)) rfl ?_)
                      refine sx rfl (stp_assign (v := .bool (decide (((tasksIn r.tasks 6).length : Int) = 0))) rfl ?_)
                      refine sx_nil ?_
                      rcases bd (decide (((tasksIn r.tasks 6).length : Int) = 0)) with h83 | h83
                      · skip
                        have h83p := of_decide_eq_false h83
                        refine wp_ret ?_; repeat (first | refine then_ret ?_ | refine blk_ret ?_)
                        refine ret1 Tryz.results97 ((rfl : _ = (.bool (decide (((tasksIn r.tasks 6).length : Int) = 0)) : Value)).trans (congrArg Value.bool h83)) ?_
                        have st84 := St.call st41 (St.start W40)
                        exact ⟨(congrArg (fun z => Ending.returned (.bool z)) (by unfold runOk; rw [pB_f (by rintro ⟨hz1, hz2, hz3, hz4, hz5, hz6⟩; omega)])), st84.bare⟩
                      · skip
                        have h83p := of_decide_eq_true h83
                        refine wp_ret ?_; repeat (first | refine then_ret ?_ | refine blk_ret ?_)
                        refine ret1 Tryz.results97 ((rfl : _ = (.bool (decide (((tasksIn r.tasks 6).length : Int) = 0)) : Value)).trans (congrArg Value.bool h83)) ?_
                        have st85 := St.call st41 (St.start W40)
                        exact ⟨(congrArg (fun z => Ending.returned (.bool z)) (by unfold runOk; rw [pB_t ⟨by omega, by omega, by omega, hTk, by omega, by omega⟩])), st85.bare⟩
                  · skip
                    have h80p := of_decide_eq_true h80
                    refine sx_on (j := 6) (dd := 81) rfl rfl (by decide) (yl_on (e := decide (0 < ((tasksIn r.tasks 6).length : Int))) rfl h80) (stp_move (v := .bool (decide (((((tasksIn r.tasks 4).length : Int) + ((tasksIn r.tasks 5).length : Int)) + ((tasksIn r.tasks 6).length : Int)) = (r.tasks.length : Int)))) rfl ?_)
                    refine sx rfl (stp_pick_t (v := .bool (decide (((((tasksIn r.tasks 4).length : Int) + ((tasksIn r.tasks 5).length : Int)) + ((tasksIn r.tasks 6).length : Int)) = (r.tasks.length : Int)))) ((rfl : _ = (.bool (decide (0 < ((tasksIn r.tasks 6).length : Int))) : Value)).trans (congrArg Value.bool h80)) rfl ?_)
                    refine sx rfl (stp_assign (v := .bool (decide (((((tasksIn r.tasks 4).length : Int) + ((tasksIn r.tasks 5).length : Int)) + ((tasksIn r.tasks 6).length : Int)) = (r.tasks.length : Int)))) rfl ?_)
                    refine sx_nil ?_
                    refine sx_f rfl h72 ?_
                    refine wp_skip ?_
                    refine wp_seq ?_
                    refine sx_region ?_
                    refine sx rfl (stp_fieldAddr fa_Run_2 ((hf44 1 rfl).trans hs23_1) ?_)
                    refine sx rfl (stp_load_rg ld_int rfl rfl (range_of_heap (st41.get 0 rfl)) (Below.refl _ _) (i := 6) rfl rfl ?_)
                    refine sx rfl (stp_eql rfl rfl ?_)
                    refine sx rfl (stp_move (v := .bool (decide (r.state = 1))) rfl ?_)
                    rcases bd (decide (r.state = 1)) with h86 | h86
                    · skip
                      have h86p := of_decide_eq_false h86
                      iterate 2 refine sx_off (j := 3) (dd := 90) rfl rfl (by decide) (yl_off (e := decide (r.state = 1)) rfl h86) ?_
                      refine sx rfl (stp_pick_f (v := .bool false) ((rfl : _ = (.bool (decide (r.state = 1)) : Value)).trans (congrArg Value.bool h86)) rfl ?_)
                      refine sx rfl (stp_move (v := .bool false) rfl ?_)
                      iterate 2 refine sx_off (j := 7) (dd := 94) rfl rfl (by decide) (yl_off (e := false) rfl rfl) ?_
                      refine sx rfl (stp_pick_f (v := .bool false) rfl rfl ?_)
                      refine sx rfl (stp_assign (v := .bool false) rfl ?_)
                      refine sx_nil ?_
                      refine wp_ret ?_; repeat (first | refine then_ret ?_ | refine blk_ret ?_)
                      refine ret1 Tryz.results97 rfl ?_
                      have st87 := St.call st41 (St.start W40)
                      exact ⟨(congrArg (fun z => Ending.returned (.bool z)) (by unfold runOk; rw [pB_f (by rintro ⟨hz1, hz2, hz3, hz4, hz5, hz6⟩; omega)])), st87.bare⟩
                    · skip
                      have h86p := of_decide_eq_true h86
                      refine sx_on (j := 3) (dd := 90) rfl rfl (by decide) (yl_on (e := decide (r.state = 1)) rfl h86) (stp_move (v := I ((tasksIn r.tasks 5).length : Int)) (hv43 10 5 (by decide) rfl) ?_)
                      refine sx_on (j := 3) (dd := 90) rfl rfl (by decide) (yl_on (e := decide (r.state = 1)) rfl h86) (stp_eql rfl rfl ?_)
                      refine sx rfl (stp_pick_t (v := .bool (decide (((tasksIn r.tasks 5).length : Int) = 0))) ((rfl : _ = (.bool (decide (r.state = 1)) : Value)).trans (congrArg Value.bool h86)) rfl ?_)
                      refine sx rfl (stp_move (v := .bool (decide (((tasksIn r.tasks 5).length : Int) = 0))) rfl ?_)
                      refine sx_on (j := 7) (dd := 94) rfl rfl (by decide) (yl_on (e := decide (((tasksIn r.tasks 5).length : Int) = 0)) rfl h76) (stp_move (v := I ((tasksIn r.tasks 6).length : Int)) (hv43 11 6 (by decide) rfl) ?_)
                      refine sx_on (j := 7) (dd := 94) rfl rfl (by decide) (yl_on (e := decide (((tasksIn r.tasks 5).length : Int) = 0)) rfl h76) (stp_eql rfl rfl ?_)
                      refine sx rfl (stp_pick_t (v := .bool (decide (((tasksIn r.tasks 6).length : Int) = 0))) ((rfl : _ = (.bool (decide (((tasksIn r.tasks 5).length : Int) = 0)) : Value)).trans (congrArg Value.bool h76)) rfl ?_)
                      refine sx rfl (stp_assign (v := .bool (decide (((tasksIn r.tasks 6).length : Int) = 0))) rfl ?_)
                      refine sx_nil ?_
                      rcases bd (decide (((tasksIn r.tasks 6).length : Int) = 0)) with h88 | h88
                      · skip
                        have h88p := of_decide_eq_false h88
                        refine wp_ret ?_; repeat (first | refine then_ret ?_ | refine blk_ret ?_)
                        refine ret1 Tryz.results97 ((rfl : _ = (.bool (decide (((tasksIn r.tasks 6).length : Int) = 0)) : Value)).trans (congrArg Value.bool h88)) ?_
                        have st89 := St.call st41 (St.start W40)
                        exact ⟨(congrArg (fun z => Ending.returned (.bool z)) (by unfold runOk; rw [pB_f (by rintro ⟨hz1, hz2, hz3, hz4, hz5, hz6⟩; omega)])), st89.bare⟩
                      · skip
                        have h88p := of_decide_eq_true h88
                        refine wp_ret ?_; repeat (first | refine then_ret ?_ | refine blk_ret ?_)
                        refine ret1 Tryz.results97 ((rfl : _ = (.bool (decide (((tasksIn r.tasks 6).length : Int) = 0)) : Value)).trans (congrArg Value.bool h88)) ?_
                        have st90 := St.call st41 (St.start W40)
                        exact ⟨(congrArg (fun z => Ending.returned (.bool z)) (by unfold runOk; rw [pB_t ⟨by omega, by omega, by omega, hTk, by omega, by omega⟩])), st90.bare⟩
    · skip
      have h16p := of_decide_eq_false (bnot_t h16)
      iterate 7 refine sx_off (j := 10) (dd := 18) rfl rfl (by decide) (yl_off (e := !decide ((planFault r.plan) = 0)) rfl h16) ?_
      refine sx rfl (stp_pick_t (v := .bool true) ((rfl : _ = (.bool (!decide ((planFault r.plan) = 0)) : Value)).trans (congrArg Value.bool h16)) rfl ?_)
      refine sx_nil ?_
      refine sx_t rfl rfl ?_
      refine wp_seq ?_
      refine sx_region ?_
      refine sx rfl (stp_assign (v := .bool false) rfl ?_)
      refine sx_nil ?_
      refine wp_ret ?_; repeat (first | refine then_ret ?_ | refine blk_ret ?_)
      refine ret1 Tryz.results97 rfl ?_
      exact ⟨(congrArg (fun z => Ending.returned (.bool z)) (by unfold runOk; rw [pB_f (by rintro ⟨hz1, hz2, hz3, hz4, hz5, hz6⟩; omega)])), st14.bare⟩
  · skip
    have h11p := inB_not (bnot_t h11)
    iterate 4 refine sx_off (j := 4) (dd := 12) rfl rfl (by decide) (yl_off (e := !(inB r.id 1 9999)) rfl h11) ?_
    refine sx rfl (stp_pick_t (v := .bool true) ((rfl : _ = (.bool (!(inB r.id 1 9999)) : Value)).trans (congrArg Value.bool h11)) rfl ?_)
    refine sx rfl (stp_move (v := .bool true) rfl ?_)
    iterate 7 refine sx_off (j := 10) (dd := 18) rfl rfl (by decide) (yl_off (e := true) rfl rfl) ?_
    refine sx rfl (stp_pick_t (v := .bool true) rfl rfl ?_)
    refine sx_nil ?_
    refine sx_t rfl rfl ?_
    refine wp_seq ?_
    refine sx_region ?_
    refine sx rfl (stp_assign (v := .bool false) rfl ?_)
    refine sx_nil ?_
    refine wp_ret ?_; repeat (first | refine then_ret ?_ | refine blk_ret ?_)
    refine ret1 Tryz.results97 rfl ?_
    exact ⟨(congrArg (fun z => Ending.returned (.bool z)) (by unfold runOk; rw [pB_f (by rintro ⟨hz1, hz2, hz3, hz4, hz5, hz6⟩; omega)])), st9.bare⟩
set_option maxHeartbeats 2000000 in
theorem TaskOkS (w : World) {r : Run} {cs : List Value} {fp : List Nat} (hc : Shape.C w cs r fp) {k : Nat} (hk : k < r.tasks.length) (hlen : (r.tasks.length : Int) = r.plan.tasks) (hP : planFault r.plan = 0) (hs : 1 ≤ (r.tasks[k]'hk).state ∧ (r.tasks[k]'hk).state ≤ 6) :
    Calls Tryz.prog 156 #[.agg cs.toArray, I (k : Int)] w fun e w' => e = .returned (.bool (pB (taskOkT r (needOf r (k : Int)) (r.tasks[k]'hk)))) ∧ St w w' [] := by
  have hcap : r.tasks.length ≤ 9223372036854775807 := by have h0 := hc; obtain ⟨v1, v2, f1, f2, h0, hok, h1, h2, hfp⟩ := h0; exact h2.len_le
  refine enter2 Tryz.func156 rfl Tryz.ntmps156 (by decide) ?_
  refine wp_seq ?_
  refine sx_region ?_
  refine sx rfl (stp_box_agg (cs := cs) rfl (St.start w) ?_); intro b1 W2 hb3 st4
  refine sx rfl (stp_assign (v := .bool false) rfl ?_)
  refine sx_nil ?_
  refine wp_seq ?_
  refine sx_region ?_
  refine sx rfl (stp_fieldAddr fa_Run_3 rfl ?_)
  have hk6 := hc
  obtain ⟨v6_0, v6_1, g6_0, g6_1, rfl, hok6, h6_0, h6_1, rfl⟩ := hk6
  refine sx rfl (stp_load_bx ld_TaskS rfl rfl (st4.get 0 rfl) (i := 7) rfl rfl ?_)
  refine sx rfl (stp_move (v := I (k : Int)) rfl ?_)
  have hif4d94 : k < r.tasks.length := (by omega)
  have hq_ := idx h6_1 (i := k) hif4d94
  obtain ⟨b7, o7, cs7, f7, hp7, hr7, hc7, hm7⟩ := hq_
  refine sx rfl (stp_indexAddr sl_TaskS rfl hp7 rfl rfl ?_)
  refine sx rfl (stp_load_rga ld_Task rfl rfl hr7 st4.below (Shape.len hc7) ?_)
  refine sx rfl (stp_alloc zz_Task st4 ?_); intro b8 W9 hb10 st11
  refine sx rfl (stp_store_all (cs := cs7) ld_Task hc7 rfl rfl st11 rfl ?_); intro W13 st14
  refine sx_nil ?_
  refine wp_seq ?_
  refine sx_region ?_
  refine sx rfl (stp_assign (v := I 0) rfl ?_)
  refine sx_nil ?_
  refine wp_seq ?_
  refine sx_region ?_
  refine sx rfl (stp_fieldAddr fa_Run_1 rfl ?_)
  refine sx rfl (stp_load_bxs (cs := [I r.plan.prio, I r.plan.most, I r.plan.wait, I r.plan.tasks, v6_0]) ld_Plan rfl rfl (st14.get 1 rfl) rfl rfl ?_)
  refine sx rfl (stp_move (v := I (k : Int)) rfl ?_)
  have hq_ := pf_ok hP
  obtain ⟨hM, hE, _, _⟩ := hq_
  have hMb := pM hM
  have hbeq : beforeOf r.plan (k : Int) = (sortI (froms r.plan.edges (k : Int))) := by unfold beforeOf; rw [if_pos hP]
  have hbl := before_len r.plan (k : Int)
  rw [hbeq] at hbl
  refine sx rfl (stp_call2 Tryz.func214 rfl rfl rfl ((BeforeE W13 (show Shape.C _ [I r.plan.prio, I r.plan.most, I r.plan.wait, I r.plan.tasks, v6_0] r.plan _ from ⟨_, _, rfl, (by first | exact True.intro | (simp only [Edge.ok, Plan.ok, Entry.ok, Task.ok, Run.ok, Yard.ok, Reply.ok, Deed.ok, Note.ok, Wait.ok, File.ok, Disk.ok, Engine.ok, WorldD.ok, ActD.ok, Hand.ok, Span.ok, Crew.ok, View.ok, I64] at *; omega)), (h6_0.below st14.below), rfl⟩) (k : Int) (by omega) (by omega) hE).mono ?_)); rintro _ W17 ⟨v15, fp15, rfl, hk18⟩; refine ⟨_, rfl, ?_⟩
  have st19 := St.call st14 hk18
  refine sx rfl (stp_assign (v := v15) rfl ?_)
  refine sx_nil ?_
  refine wp_seq ?_
  refine wp_seq ?_
  refine sx_region ?_
  refine sx rfl (stp_assign (v := I 0) rfl ?_)
  refine sx_nil ?_
  refine wp_block ?_
  refine sx_loop (fun (m : Nat) (f : Nat → Value) (W : World) => ∃ (i : Nat), i ≤ (sortI (froms r.plan.edges (k : Int))).length ∧ m = (sortI (froms r.plan.edges (k : Int))).length - i ∧ f 2 = .pointer (some ⟨b1, 0, none⟩) ∧ f 5 = .pointer (some ⟨b8, 0, none⟩) ∧ f 6 = I (needIn r ((sortI (froms r.plan.edges (k : Int))).take i)) ∧ f 7 = v15 ∧ f 8 = I (i : Int) ∧ St w W ([Res.own (α := List Int) v15 (sortI (froms r.plan.edges (k : Int))) fp15, Res.bx b8 cs7 140, Res.bx b1 [I r.id, I r.plan.prio, I r.plan.most, I r.plan.wait, I r.plan.tasks, v6_0, I r.state, v6_1] 123])) ((sortI (froms r.plan.edges (k : Int))).length - 0) ?_ ?_
  · exact ⟨0, (by omega), rfl, rfl, rfl, rfl, rfl, rfl, st19⟩
  intro m21 f22 W23 hJ24
  obtain ⟨i, hi, rfl, hs26_2, hs26_5, hs26_6, hs26_7, hs26_8, st25⟩ := hJ24
  have hnr := needIn_rng r ((sortI (froms r.plan.edges (k : Int))).take i)
  have htl := List.length_take_le i (sortI (froms r.plan.edges (k : Int)))
  refine wp_seq ?_
  refine wp_seq ?_
  refine sx_region ?_
  refine sx rfl (stp_move (v := I (i : Int)) hs26_8 ?_)
  refine sx rfl (stp_move (v := v15) hs26_7 ?_)
  refine sx rfl (stp_len sl_IntS rfl (own_Sl (st25.get 0 rfl)) ?_)
  refine sx rfl (stp_lss rfl rfl ?_)
  refine sx_nil ?_
  refine sx_if rfl (fun h27 => ?_) (fun h27 => ?_)
  · skip
    have h27p := of_decide_eq_true h27
    refine wp_skip ?_
    refine wp_seq ?_
    refine wp_block ?_
    refine wp_seq ?_
    have hbr := before_rng r.plan (k : Int)
    rw [hbeq] at hbr
    have hbr := hbr _ (List.getElem_mem (l := (sortI (froms r.plan.edges (k : Int)))) (n := i) (by omega))
    have hi26b77 : i < (sortI (froms r.plan.edges (k : Int))).length := (by omega)
    have hq_ := idx (own_Sl (st25.get 0 rfl)) (i := i) hi26b77
    obtain ⟨b28, o28, cs28, f28, hp28, hr28, hc28, hm28⟩ := hq_
    have hk28 := hc28
    obtain ⟨rfl, rfl, hok28⟩ := hk28
    have hib59be : (((sortI (froms r.plan.edges (k : Int)))[i]'hi26b77)).toNat < r.tasks.length := (by omega)
    have hq_ := idx h6_1 (i := (((sortI (froms r.plan.edges (k : Int)))[i]'hi26b77)).toNat) hib59be
    obtain ⟨b29, o29, cs29, f29, hp29, hr29, hc29, hm29⟩ := hq_
    have hk30 := hc29
    obtain ⟨he30, rfl, hok30⟩ := hk30
    have he30 : _ = [I (r.tasks[(((sortI (froms r.plan.edges (k : Int)))[i]'hi26b77)).toNat]'hib59be).state, I (r.tasks[(((sortI (froms r.plan.edges (k : Int)))[i]'hi26b77)).toNat]'hib59be).need, I (r.tasks[(((sortI (froms r.plan.edges (k : Int)))[i]'hi26b77)).toNat]'hib59be).try_, I (r.tasks[(((sortI (froms r.plan.edges (k : Int)))[i]'hi26b77)).toNat]'hib59be).until_] := he30
    subst he30
    refine sx_any [Pl.is (.pointer (some ⟨b1, 0 + 7, none⟩)), Pl.is (v6_1) (Sl.yl h6_1), Pl.is (v15) (Sl.yl (own_Sl (st25.get 0 rfl))), Pl.is (I (i : Int)), Pl.is (.pointer (some ⟨b28, o28, none⟩)), Pl.is (I ((sortI (froms r.plan.edges (k : Int)))[i]'hi26b77)), Pl.is (.pointer (some ⟨b29, o29, none⟩)), Pl.is (.pointer (some ⟨b29, o29 + 0, none⟩)), Pl.is (I (r.tasks[(((sortI (froms r.plan.edges (k : Int)))[i]'hi26b77)).toNat]'hib59be).state), Pl.bool (!decide ((r.tasks[(((sortI (froms r.plan.edges (k : Int)))[i]'hi26b77)).toNat]'hib59be).state = 4))] mix (by rfl) st25 ⟨(fun f W hst hbl hd hf => stp_fieldAddr fa_Run_3 ((hf 2 rfl).trans hs26_2) ⟨Below.refl _ _, rfl⟩), (fun f W hst hbl hd hf => stp_load_bx ld_TaskS rfl (hd 0 24 rfl rfl) (hst.get 2 rfl) (i := 7) rfl rfl ⟨Below.refl _ _, rfl⟩), (fun f W hst hbl hd hf => stp_move (v := v15) ((hf 7 rfl).trans hs26_7) ⟨Below.refl _ _, rfl⟩), (fun f W hst hbl hd hf => stp_move (v := I (i : Int)) ((hf 8 rfl).trans hs26_8) ⟨Below.refl _ _, rfl⟩), (fun f W hst hbl hd hf => stp_indexAddr sl_IntS (hd 2 26 rfl rfl) hp28 (hd 3 27 rfl rfl) rfl ⟨Below.refl _ _, rfl⟩), (fun f W hst hbl hd hf => stp_load_rg ld_int rfl (hd 4 28 rfl rfl) hr28 hbl (i := 0) rfl rfl ⟨Below.refl _ _, rfl⟩), (fun f W hst hbl hd hf => stp_indexAddr sl_TaskS (hd 1 25 rfl rfl) hp29 (hd 5 29 rfl rfl) (by omega) ⟨Below.refl _ _, rfl⟩), (fun f W hst hbl hd hf => stp_fieldAddr fa_Task_0 (hd 6 30 rfl rfl) ⟨Below.refl _ _, rfl⟩), (fun f W hst hbl hd hf => stp_load_rg ld_int rfl (hd 7 31 rfl rfl) hr29 hst.below (i := 0) rfl rfl ⟨Below.refl _ _, rfl⟩), (fun f W hst hbl hd hf => stp_neq (hd 8 32 rfl rfl) rfl ⟨Below.refl _ _, rfl⟩), trivial⟩ ?_
    intro f31 W32 st33 hb34 hv35 hf36
    refine sx_if (hv35 9 33 (by decide) rfl) (fun h37 => ?_) (fun h37 => ?_)
    · skip
      have h37p := of_decide_eq_false (bnot_t h37)
      refine sx_region ?_
      refine sx rfl (stp_move (v := I (needIn r ((sortI (froms r.plan.edges (k : Int))).take i))) ((hf36 6 rfl).trans hs26_6) ?_)
      refine sx rfl (stp_add rfl rfl (by (simp only [I64] at *; omega)) ?_)
      refine sx rfl (stp_assign (v := I ((needIn r ((sortI (froms r.plan.edges (k : Int))).take i)) + 1)) rfl ?_)
      refine sx_nil ?_
      refine sx_region ?_
      refine sx rfl (stp_move (v := I (i : Int)) ((hf36 8 rfl).trans hs26_8) ?_)
      refine sx rfl (stp_add rfl rfl (by (simp only [I64] at *; omega)) ?_)
      refine sx rfl (stp_assign (v := I ((i : Int) + 1)) rfl ?_)
      refine sx_nil ?_
      exact ⟨_, (sortI (froms r.plan.edges (k : Int))).length - (i + 1), (by omega), rfl, i + 1, (by omega), rfl, ((hf36 2 rfl).trans hs26_2), ((hf36 5 rfl).trans hs26_5), (Eq.trans (show _ = I ((needIn r ((sortI (froms r.plan.edges (k : Int))).take i)) + 1) from rfl) (congrArg I (by rw [needIn_step (by omega), isDone_at (by omega)]; simp only [h37p, decide_true, decide_false, Bool.false_eq_true, if_true, if_false]; try omega))), ((hf36 7 rfl).trans hs26_7), rfl, st33⟩
    · skip
      have h37p := of_decide_eq_true (bnot_f h37)
      refine wp_skip ?_
      refine sx_region ?_
      refine sx rfl (stp_move (v := I (i : Int)) ((hf36 8 rfl).trans hs26_8) ?_)
      refine sx rfl (stp_add rfl rfl (by (simp only [I64] at *; omega)) ?_)
      refine sx rfl (stp_assign (v := I ((i : Int) + 1)) rfl ?_)
      refine sx_nil ?_
      exact ⟨_, (sortI (froms r.plan.edges (k : Int))).length - (i + 1), (by omega), rfl, i + 1, (by omega), rfl, ((hf36 2 rfl).trans hs26_2), ((hf36 5 rfl).trans hs26_5), (Eq.trans (show _ = I (needIn r ((sortI (froms r.plan.edges (k : Int))).take i)) from ((hf36 6 rfl).trans hs26_6)) (congrArg I (by rw [needIn_step (by omega), isDone_at (by omega)]; simp only [h37p, decide_true, decide_false, Bool.false_eq_true, if_true, if_false]; try omega))), ((hf36 7 rfl).trans hs26_7), rfl, st33⟩
  · skip
    have h27p := of_decide_eq_false h27
    refine wp_exit ?_
    refine wp_seq ?_
    refine wp_seq ?_
    refine sx_region ?_
    have hneed : needOf r (k : Int) = needIn r ((sortI (froms r.plan.edges (k : Int))).take i) := by unfold needOf; rw [hbeq, show i = (sortI (froms r.plan.edges (k : Int))).length by omega, List.take_length]
    refine sx rfl (stp_fieldAddr fa_Task_1 hs26_5 ?_)
    have hk38 := hc7
    obtain ⟨he38, rfl, hok38⟩ := hk38
    have he38 : _ = [I (r.tasks[k]'hif4d94).state, I (r.tasks[k]'hif4d94).need, I (r.tasks[k]'hif4d94).try_, I (r.tasks[k]'hif4d94).until_] := he38
    subst he38
    refine sx rfl (stp_load_bx ld_int rfl rfl (st25.get 1 rfl) (i := 1) rfl rfl ?_)
    refine sx rfl (stp_move (v := I (needIn r ((sortI (froms r.plan.edges (k : Int))).take i))) hs26_6 ?_)
    refine sx rfl (stp_neq rfl rfl ?_)
    refine sx rfl (stp_move (v := .bool (!decide ((r.tasks[k]'hif4d94).need = (needIn r ((sortI (froms r.plan.edges (k : Int))).take i))))) rfl ?_)
    rcases bd (!decide ((r.tasks[k]'hif4d94).need = (needIn r ((sortI (froms r.plan.edges (k : Int))).take i)))) with h39 | h39
    · skip
      have h39p := of_decide_eq_true (bnot_f h39)
      refine sx_on (j := 4) (dd := 40) rfl rfl (by decide) (yl_on (e := !decide ((r.tasks[k]'hif4d94).need = (needIn r ((sortI (froms r.plan.edges (k : Int))).take i)))) rfl h39) (stp_fieldAddr fa_Task_2 hs26_5 ?_)
      refine sx_on (j := 4) (dd := 40) rfl rfl (by decide) (yl_on (e := !decide ((r.tasks[k]'hif4d94).need = (needIn r ((sortI (froms r.plan.edges (k : Int))).take i)))) rfl h39) (stp_load_bx ld_int rfl rfl (st25.get 1 rfl) (i := 2) rfl rfl ?_)
      refine sx_on (j := 4) (dd := 40) rfl rfl (by decide) (yl_on (e := !decide ((r.tasks[k]'hif4d94).need = (needIn r ((sortI (froms r.plan.edges (k : Int))).take i)))) rfl h39) (stp_fieldAddr fa_Run_1 hs26_2 ?_)
      refine sx_on (j := 4) (dd := 40) rfl rfl (by decide) (yl_on (e := !decide ((r.tasks[k]'hif4d94).need = (needIn r ((sortI (froms r.plan.edges (k : Int))).take i)))) rfl h39) (stp_fieldAddr fa_Plan_1 rfl ?_)
      refine sx_on (j := 4) (dd := 40) rfl rfl (by decide) (yl_on (e := !decide ((r.tasks[k]'hif4d94).need = (needIn r ((sortI (froms r.plan.edges (k : Int))).take i)))) rfl h39) (stp_load_bx ld_int rfl rfl (st25.get 2 rfl) (i := 2) rfl rfl ?_)
      refine sx_on (j := 4) (dd := 40) rfl rfl (by decide) (yl_on (e := !decide ((r.tasks[k]'hif4d94).need = (needIn r ((sortI (froms r.plan.edges (k : Int))).take i)))) rfl h39) (stp_call3 Tryz.func43 rfl rfl rfl rfl ((l01In_n W23 (r.tasks[k]'hif4d94).try_ 0 r.plan.most).mono ?_)); rintro _ W40 ⟨rfl, hk41⟩; refine ⟨_, rfl, ?_⟩
      have st42 := St.call st25 hk41
      refine sx_on (j := 4) (dd := 40) rfl rfl (by decide) (yl_on (e := !decide ((r.tasks[k]'hif4d94).need = (needIn r ((sortI (froms r.plan.edges (k : Int))).take i)))) rfl h39) (stp_not rfl ?_)
      refine sx rfl (stp_pick_f (v := .bool (!(inB (r.tasks[k]'hif4d94).try_ 0 r.plan.most))) ((rfl : _ = (.bool (!decide ((r.tasks[k]'hif4d94).need = (needIn r ((sortI (froms r.plan.edges (k : Int))).take i)))) : Value)).trans (congrArg Value.bool h39)) rfl ?_)
      refine sx_nil ?_
      refine sx_if rfl (fun h44 => ?_) (fun h44 => ?_)
      · skip
        have h44p := inB_not (bnot_t h44)
        refine wp_seq ?_
        refine sx_region ?_
        refine sx rfl (stp_assign (v := .bool false) rfl ?_)
        refine sx_nil ?_
        refine wp_ret ?_; repeat (first | refine then_ret ?_ | refine blk_ret ?_)
        refine ret1 Tryz.results156 rfl ?_
        exact ⟨(congrArg (fun z => Ending.returned (.bool z)) (by rw [pB_f (by unfold taskOkT; omega)])), st42.bare⟩
      · skip
        have h44p := inB_iff'.1 (bnot_f h44)
        refine wp_skip ?_
        refine wp_seq ?_
        refine wp_seq ?_
        refine sx_region ?_
        refine sx rfl (stp_fieldAddr fa_Task_0 hs26_5 ?_)
        refine sx rfl (stp_load_bx ld_int rfl rfl (st42.get 1 rfl) (i := 0) rfl rfl ?_)
        refine sx rfl (stp_eql rfl rfl ?_)
        refine sx rfl (stp_move (v := .bool (decide ((r.tasks[k]'hif4d94).state = 3))) rfl ?_)
        rcases bd (decide ((r.tasks[k]'hif4d94).state = 3)) with h45 | h45
        · skip
          have h45p := of_decide_eq_false h45
          iterate 4 refine sx_off (j := 3) (dd := 52) rfl rfl (by decide) (yl_off (e := decide ((r.tasks[k]'hif4d94).state = 3)) rfl h45) ?_
          refine sx rfl (stp_pick_f (v := .bool false) ((rfl : _ = (.bool (decide ((r.tasks[k]'hif4d94).state = 3)) : Value)).trans (congrArg Value.bool h45)) rfl ?_)
          refine sx rfl (stp_move (v := .bool false) rfl ?_)
          refine sx_on (j := 9) (dd := 58) rfl rfl (by decide) (yl_on (e := false) rfl rfl) (stp_fieldAddr fa_Task_0 hs26_5 ?_)
          refine sx_on (j := 9) (dd := 58) rfl rfl (by decide) (yl_on (e := false) rfl rfl) (stp_load_bx ld_int rfl rfl (st42.get 1 rfl) (i := 0) rfl rfl ?_)
          refine sx_on (j := 9) (dd := 58) rfl rfl (by decide) (yl_on (e := false) rfl rfl) (stp_neq rfl rfl ?_)
          refine sx_on (j := 9) (dd := 58) rfl rfl (by decide) (yl_on (e := false) rfl rfl) (stp_move (v := .bool (!decide ((r.tasks[k]'hif4d94).state = 3))) rfl ?_)
          refine sx_on (j := 13) (dd := 62) rfl rfl (by decide) (yl_on (e := !decide ((r.tasks[k]'hif4d94).state = 3)) rfl (congrArg not h45)) (stp_fieldAddr fa_Task_3 hs26_5 ?_)
          refine sx_on (j := 13) (dd := 62) rfl rfl (by decide) (yl_on (e := !decide ((r.tasks[k]'hif4d94).state = 3)) rfl (congrArg not h45)) (stp_load_bx ld_int rfl rfl (st42.get 1 rfl) (i := 3) rfl rfl ?_)
          refine sx_on (j := 13) (dd := 62) rfl rfl (by decide) (yl_on (e := !decide ((r.tasks[k]'hif4d94).state = 3)) rfl (congrArg not h45)) (stp_neq rfl rfl ?_)
          refine sx_on (j := 9) (dd := 58) rfl rfl (by decide) (yl_on (e := false) rfl rfl) (stp_pick_t (v := .bool (!decide ((r.tasks[k]'hif4d94).until_ = 0))) ((rfl : _ = (.bool (!decide ((r.tasks[k]'hif4d94).state = 3)) : Value)).trans (congrArg Value.bool (congrArg not h45))) rfl ?_)
          refine sx rfl (stp_pick_f (v := .bool (!decide ((r.tasks[k]'hif4d94).until_ = 0))) rfl rfl ?_)
          refine sx_nil ?_
          refine sx_if rfl (fun h46 => ?_) (fun h46 => ?_)
          · skip
            have h46p := of_decide_eq_false (bnot_t h46)
            refine wp_seq ?_
            refine sx_region ?_
            refine sx rfl (stp_assign (v := .bool false) rfl ?_)
            refine sx_nil ?_
            refine wp_ret ?_; repeat (first | refine then_ret ?_ | refine blk_ret ?_)
            refine ret1 Tryz.results156 rfl ?_
            exact ⟨(congrArg (fun z => Ending.returned (.bool z)) (by rw [pB_f (by unfold taskOkT; omega)])), st42.bare⟩
          · skip
            have h46p := of_decide_eq_true (bnot_f h46)
            refine wp_skip ?_
            refine wp_seq ?_
            refine wp_seq ?_
            refine sx_region ?_
            refine sx rfl (stp_fieldAddr fa_Task_0 hs26_5 ?_)
            refine sx rfl (stp_load_bx ld_int rfl rfl (st42.get 1 rfl) (i := 0) rfl rfl ?_)
            refine sx_nil ?_
            refine wp_block ?_
            refine wp_seq ?_
            refine sx_region ?_
            refine sx rfl (stp_eql rfl rfl ?_)
            refine sx rfl (stp_assign (v := .bool (decide ((r.tasks[k]'hif4d94).state = 1))) rfl ?_)
            refine sx_nil ?_
            refine sx_if rfl (fun h47 => ?_) (fun h47 => ?_)
            · skip
              have h47p := of_decide_eq_true h47
              refine wp_seq ?_
              refine sx_region ?_
              refine sx rfl (stp_move (v := I (needIn r ((sortI (froms r.plan.edges (k : Int))).take i))) hs26_6 ?_)
              refine sx rfl (stp_gtr rfl rfl ?_)
              refine sx rfl (stp_assign (v := .bool (decide (0 < (needIn r ((sortI (froms r.plan.edges (k : Int))).take i))))) rfl ?_)
              refine sx_nil ?_
              rcases bd (decide (0 < (needIn r ((sortI (froms r.plan.edges (k : Int))).take i)))) with h48 | h48
              · skip
                have h48p := of_decide_eq_false h48
                refine wp_ret ?_; repeat (first | refine then_ret ?_ | refine blk_ret ?_)
                refine ret1 Tryz.results156 ((rfl : _ = (.bool (decide (0 < (needIn r ((sortI (froms r.plan.edges (k : Int))).take i)))) : Value)).trans (congrArg Value.bool h48)) ?_
                exact ⟨(congrArg (fun z => Ending.returned (.bool z)) (by rw [pB_f (by unfold taskOkT; omega)])), st42.bare⟩
              · skip
                have h48p := of_decide_eq_true h48
                refine wp_ret ?_; repeat (first | refine then_ret ?_ | refine blk_ret ?_)
                refine ret1 Tryz.results156 ((rfl : _ = (.bool (decide (0 < (needIn r ((sortI (froms r.plan.edges (k : Int))).take i)))) : Value)).trans (congrArg Value.bool h48)) ?_
                exact ⟨(congrArg (fun z => Ending.returned (.bool z)) (by rw [pB_t (by unfold taskOkT; omega)])), st42.bare⟩
            · skip
              have h47p := of_decide_eq_false h47
              refine wp_seq ?_
              refine sx_region ?_
              refine sx rfl (stp_eql rfl rfl ?_)
              refine sx rfl (stp_assign (v := .bool (decide ((r.tasks[k]'hif4d94).state = 2))) rfl ?_)
              refine sx_nil ?_
              refine sx_if rfl (fun h49 => ?_) (fun h49 => ?_)
              · skip
                have h49p := of_decide_eq_true h49
                refine wp_seq ?_
                refine sx_region ?_
                refine sx rfl (stp_move (v := I (needIn r ((sortI (froms r.plan.edges (k : Int))).take i))) hs26_6 ?_)
                refine sx rfl (stp_eql rfl rfl ?_)
                refine sx rfl (stp_move (v := .bool (decide ((needIn r ((sortI (froms r.plan.edges (k : Int))).take i)) = 0))) rfl ?_)
                rcases bd (decide ((needIn r ((sortI (froms r.plan.edges (k : Int))).take i)) = 0)) with h50 | h50
                · skip
                  have h50p := of_decide_eq_false h50
                  iterate 6 refine sx_off (j := 2) (dd := 78) rfl rfl (by decide) (yl_off (e := decide ((needIn r ((sortI (froms r.plan.edges (k : Int))).take i)) = 0)) rfl h50) ?_
                  refine sx rfl (stp_pick_f (v := .bool false) ((rfl : _ = (.bool (decide ((needIn r ((sortI (froms r.plan.edges (k : Int))).take i)) = 0)) : Value)).trans (congrArg Value.bool h50)) rfl ?_)
                  refine sx rfl (stp_assign (v := .bool false) rfl ?_)
                  refine sx_nil ?_
                  refine wp_ret ?_; repeat (first | refine then_ret ?_ | refine blk_ret ?_)
                  refine ret1 Tryz.results156 rfl ?_
                  exact ⟨(congrArg (fun z => Ending.returned (.bool z)) (by rw [pB_f (by unfold taskOkT; omega)])), st42.bare⟩
                · skip
                  have h50p := of_decide_eq_true h50
                  refine sx_on (j := 2) (dd := 78) rfl rfl (by decide) (yl_on (e := decide ((needIn r ((sortI (froms r.plan.edges (k : Int))).take i)) = 0)) rfl h50) (stp_fieldAddr fa_Task_2 hs26_5 ?_)
                  refine sx_on (j := 2) (dd := 78) rfl rfl (by decide) (yl_on (e := decide ((needIn r ((sortI (froms r.plan.edges (k : Int))).take i)) = 0)) rfl h50) (stp_load_bx ld_int rfl rfl (st42.get 1 rfl) (i := 2) rfl rfl ?_)
                  refine sx_on (j := 2) (dd := 78) rfl rfl (by decide) (yl_on (e := decide ((needIn r ((sortI (froms r.plan.edges (k : Int))).take i)) = 0)) rfl h50) (stp_fieldAddr fa_Run_1 hs26_2 ?_)
                  refine sx_on (j := 2) (dd := 78) rfl rfl (by decide) (yl_on (e := decide ((needIn r ((sortI (froms r.plan.edges (k : Int))).take i)) = 0)) rfl h50) (stp_fieldAddr fa_Plan_1 rfl ?_)
                  refine sx_on (j := 2) (dd := 78) rfl rfl (by decide) (yl_on (e := decide ((needIn r ((sortI (froms r.plan.edges (k : Int))).take i)) = 0)) rfl h50) (stp_load_bx ld_int rfl rfl (st42.get 2 rfl) (i := 2) rfl rfl ?_)
                  refine sx_on (j := 2) (dd := 78) rfl rfl (by decide) (yl_on (e := decide ((needIn r ((sortI (froms r.plan.edges (k : Int))).take i)) = 0)) rfl h50) (stp_lss rfl rfl ?_)
                  refine sx rfl (stp_pick_t (v := .bool (decide ((r.tasks[k]'hif4d94).try_ < r.plan.most))) ((rfl : _ = (.bool (decide ((needIn r ((sortI (froms r.plan.edges (k : Int))).take i)) = 0)) : Value)).trans (congrArg Value.bool h50)) rfl ?_)
                  refine sx rfl (stp_assign (v := .bool (decide ((r.tasks[k]'hif4d94).try_ < r.plan.most))) rfl ?_)
                  refine sx_nil ?_
                  rcases bd (decide ((r.tasks[k]'hif4d94).try_ < r.plan.most)) with h51 | h51
                  · skip
                    have h51p := of_decide_eq_false h51
                    refine wp_ret ?_; repeat (first | refine then_ret ?_ | refine blk_ret ?_)
                    refine ret1 Tryz.results156 ((rfl : _ = (.bool (decide ((r.tasks[k]'hif4d94).try_ < r.plan.most)) : Value)).trans (congrArg Value.bool h51)) ?_
                    exact ⟨(congrArg (fun z => Ending.returned (.bool z)) (by rw [pB_f (by unfold taskOkT; omega)])), st42.bare⟩
                  · skip
                    have h51p := of_decide_eq_true h51
                    refine wp_ret ?_; repeat (first | refine then_ret ?_ | refine blk_ret ?_)
                    refine ret1 Tryz.results156 ((rfl : _ = (.bool (decide ((r.tasks[k]'hif4d94).try_ < r.plan.most)) : Value)).trans (congrArg Value.bool h51)) ?_
                    exact ⟨(congrArg (fun z => Ending.returned (.bool z)) (by rw [pB_t (by unfold taskOkT; omega)])), st42.bare⟩
              · skip
                have h49p := of_decide_eq_false h49
                refine wp_seq ?_
                refine wp_seq ?_
                refine sx_region ?_
                refine sx rfl (stp_eql rfl rfl ?_)
                refine sx rfl (stp_assign (v := .bool (decide ((r.tasks[k]'hif4d94).state = 3))) rfl ?_)
                refine sx_nil ?_
                refine sx_f rfl h45 ?_
                refine wp_seq ?_
                refine sx_region ?_
                refine sx rfl (stp_eql rfl rfl ?_)
                refine sx rfl (stp_assign (v := .bool (decide ((r.tasks[k]'hif4d94).state = 4))) rfl ?_)
                refine sx_nil ?_
                refine sx_if rfl (fun h52 => ?_) (fun h52 => ?_)
                · skip
                  have h52p := of_decide_eq_true h52
                  refine wp_skip ?_
                  refine sx_t rfl h52 ?_
                  refine wp_seq ?_
                  refine sx_region ?_
                  refine sx rfl (stp_move (v := I (needIn r ((sortI (froms r.plan.edges (k : Int))).take i))) hs26_6 ?_)
                  refine sx rfl (stp_eql rfl rfl ?_)
                  refine sx rfl (stp_move (v := .bool (decide ((needIn r ((sortI (froms r.plan.edges (k : Int))).take i)) = 0))) rfl ?_)
                  rcases bd (decide ((needIn r ((sortI (froms r.plan.edges (k : Int))).take i)) = 0)) with h53 | h53
                  · skip
                    have h53p := of_decide_eq_false h53
                    iterate 3 refine sx_off (j := 2) (dd := 92) rfl rfl (by decide) (yl_off (e := decide ((needIn r ((sortI (froms r.plan.edges (k : Int))).take i)) = 0)) rfl h53) ?_
                    refine sx rfl (stp_pick_f (v := .bool false) ((rfl : _ = (.bool (decide ((needIn r ((sortI (froms r.plan.edges (k : Int))).take i)) = 0)) : Value)).trans (congrArg Value.bool h53)) rfl ?_)
                    refine sx rfl (stp_assign (v := .bool false) rfl ?_)
                    refine sx_nil ?_
                    refine wp_ret ?_; repeat (first | refine then_ret ?_ | refine blk_ret ?_)
                    refine ret1 Tryz.results156 rfl ?_
                    exact ⟨(congrArg (fun z => Ending.returned (.bool z)) (by rw [pB_f (by unfold taskOkT; omega)])), st42.bare⟩
                  · skip
                    have h53p := of_decide_eq_true h53
                    refine sx_on (j := 2) (dd := 92) rfl rfl (by decide) (yl_on (e := decide ((needIn r ((sortI (froms r.plan.edges (k : Int))).take i)) = 0)) rfl h53) (stp_fieldAddr fa_Task_2 hs26_5 ?_)
                    refine sx_on (j := 2) (dd := 92) rfl rfl (by decide) (yl_on (e := decide ((needIn r ((sortI (froms r.plan.edges (k : Int))).take i)) = 0)) rfl h53) (stp_load_bx ld_int rfl rfl (st42.get 1 rfl) (i := 2) rfl rfl ?_)
                    refine sx_on (j := 2) (dd := 92) rfl rfl (by decide) (yl_on (e := decide ((needIn r ((sortI (froms r.plan.edges (k : Int))).take i)) = 0)) rfl h53) (stp_geq rfl rfl ?_)
                    refine sx rfl (stp_pick_t (v := .bool (decide (1 ≤ (r.tasks[k]'hif4d94).try_))) ((rfl : _ = (.bool (decide ((needIn r ((sortI (froms r.plan.edges (k : Int))).take i)) = 0)) : Value)).trans (congrArg Value.bool h53)) rfl ?_)
                    refine sx rfl (stp_assign (v := .bool (decide (1 ≤ (r.tasks[k]'hif4d94).try_))) rfl ?_)
                    refine sx_nil ?_
                    rcases bd (decide (1 ≤ (r.tasks[k]'hif4d94).try_)) with h54 | h54
                    · skip
                      have h54p := of_decide_eq_false h54
                      refine wp_ret ?_; repeat (first | refine then_ret ?_ | refine blk_ret ?_)
                      refine ret1 Tryz.results156 ((rfl : _ = (.bool (decide (1 ≤ (r.tasks[k]'hif4d94).try_)) : Value)).trans (congrArg Value.bool h54)) ?_
                      exact ⟨(congrArg (fun z => Ending.returned (.bool z)) (by rw [pB_f (by unfold taskOkT; omega)])), st42.bare⟩
                    · skip
                      have h54p := of_decide_eq_true h54
                      refine wp_ret ?_; repeat (first | refine then_ret ?_ | refine blk_ret ?_)
                      refine ret1 Tryz.results156 ((rfl : _ = (.bool (decide (1 ≤ (r.tasks[k]'hif4d94).try_)) : Value)).trans (congrArg Value.bool h54)) ?_
                      exact ⟨(congrArg (fun z => Ending.returned (.bool z)) (by rw [pB_t (by unfold taskOkT; omega)])), st42.bare⟩
                · skip
                  have h52p := of_decide_eq_false h52
                  refine sx_region ?_
                  refine sx rfl (stp_eql rfl rfl ?_)
                  refine sx rfl (stp_assign (v := .bool (decide ((r.tasks[k]'hif4d94).state = 5))) rfl ?_)
                  refine sx_nil ?_
                  refine sx_if rfl (fun h55 => ?_) (fun h55 => ?_)
                  · skip
                    have h55p := of_decide_eq_true h55
                    refine wp_seq ?_
                    refine sx_region ?_
                    refine sx rfl (stp_move (v := I (needIn r ((sortI (froms r.plan.edges (k : Int))).take i))) hs26_6 ?_)
                    refine sx rfl (stp_eql rfl rfl ?_)
                    refine sx rfl (stp_move (v := .bool (decide ((needIn r ((sortI (froms r.plan.edges (k : Int))).take i)) = 0))) rfl ?_)
                    rcases bd (decide ((needIn r ((sortI (froms r.plan.edges (k : Int))).take i)) = 0)) with h56 | h56
                    · skip
                      have h56p := of_decide_eq_false h56
                      iterate 3 refine sx_off (j := 2) (dd := 92) rfl rfl (by decide) (yl_off (e := decide ((needIn r ((sortI (froms r.plan.edges (k : Int))).take i)) = 0)) rfl h56) ?_
                      refine sx rfl (stp_pick_f (v := .bool false) ((rfl : _ = (.bool (decide ((needIn r ((sortI (froms r.plan.edges (k : Int))).take i)) = 0)) : Value)).trans (congrArg Value.bool h56)) rfl ?_)
                      refine sx rfl (stp_assign (v := .bool false) rfl ?_)
                      refine sx_nil ?_
                      refine wp_ret ?_; repeat (first | refine then_ret ?_ | refine blk_ret ?_)
                      refine ret1 Tryz.results156 rfl ?_
                      exact ⟨(congrArg (fun z => Ending.returned (.bool z)) (by rw [pB_f (by unfold taskOkT; omega)])), st42.bare⟩
                    · skip
                      have h56p := of_decide_eq_true h56
                      refine sx_on (j := 2) (dd := 92) rfl rfl (by decide) (yl_on (e := decide ((needIn r ((sortI (froms r.plan.edges (k : Int))).take i)) = 0)) rfl h56) (stp_fieldAddr fa_Task_2 hs26_5 ?_)
                      refine sx_on (j := 2) (dd := 92) rfl rfl (by decide) (yl_on (e := decide ((needIn r ((sortI (froms r.plan.edges (k : Int))).take i)) = 0)) rfl h56) (stp_load_bx ld_int rfl rfl (st42.get 1 rfl) (i := 2) rfl rfl ?_)
                      refine sx_on (j := 2) (dd := 92) rfl rfl (by decide) (yl_on (e := decide ((needIn r ((sortI (froms r.plan.edges (k : Int))).take i)) = 0)) rfl h56) (stp_geq rfl rfl ?_)
                      refine sx rfl (stp_pick_t (v := .bool (decide (1 ≤ (r.tasks[k]'hif4d94).try_))) ((rfl : _ = (.bool (decide ((needIn r ((sortI (froms r.plan.edges (k : Int))).take i)) = 0)) : Value)).trans (congrArg Value.bool h56)) rfl ?_)
                      refine sx rfl (stp_assign (v := .bool (decide (1 ≤ (r.tasks[k]'hif4d94).try_))) rfl ?_)
                      refine sx_nil ?_
                      rcases bd (decide (1 ≤ (r.tasks[k]'hif4d94).try_)) with h57 | h57
                      · skip
                        have h57p := of_decide_eq_false h57
                        refine wp_ret ?_; repeat (first | refine then_ret ?_ | refine blk_ret ?_)
                        refine ret1 Tryz.results156 ((rfl : _ = (.bool (decide (1 ≤ (r.tasks[k]'hif4d94).try_)) : Value)).trans (congrArg Value.bool h57)) ?_
                        exact ⟨(congrArg (fun z => Ending.returned (.bool z)) (by rw [pB_f (by unfold taskOkT; omega)])), st42.bare⟩
                      · skip
                        have h57p := of_decide_eq_true h57
                        refine wp_ret ?_; repeat (first | refine then_ret ?_ | refine blk_ret ?_)
                        refine ret1 Tryz.results156 ((rfl : _ = (.bool (decide (1 ≤ (r.tasks[k]'hif4d94).try_)) : Value)).trans (congrArg Value.bool h57)) ?_
                        exact ⟨(congrArg (fun z => Ending.returned (.bool z)) (by rw [pB_t (by unfold taskOkT; omega)])), st42.bare⟩
                  · skip
                    have h55p := of_decide_eq_false h55
                    refine wp_skip ?_
                    refine wp_seq ?_
                    refine sx_region ?_
                    refine sx rfl (stp_fieldAddr fa_Task_0 hs26_5 ?_)
                    refine sx rfl (stp_load_bx ld_int rfl rfl (st42.get 1 rfl) (i := 0) rfl rfl ?_)
                    refine sx rfl (stp_eql rfl rfl ?_)
                    refine sx rfl (stp_assign (v := .bool (decide ((r.tasks[k]'hif4d94).state = 6))) rfl ?_)
                    refine sx_nil ?_
                    rcases bd (decide ((r.tasks[k]'hif4d94).state = 6)) with h58 | h58
                    · skip
                      have h58p := of_decide_eq_false h58
                      refine wp_ret ?_; repeat (first | refine then_ret ?_ | refine blk_ret ?_)
                      refine ret1 Tryz.results156 ((rfl : _ = (.bool (decide ((r.tasks[k]'hif4d94).state = 6)) : Value)).trans (congrArg Value.bool h58)) ?_
                      exact ⟨(congrArg (fun z => Ending.returned (.bool z)) (by rw [pB_f (by unfold taskOkT; omega)])), st42.bare⟩
                    · skip
                      have h58p := of_decide_eq_true h58
                      refine wp_ret ?_; repeat (first | refine then_ret ?_ | refine blk_ret ?_)
                      refine ret1 Tryz.results156 ((rfl : _ = (.bool (decide ((r.tasks[k]'hif4d94).state = 6)) : Value)).trans (congrArg Value.bool h58)) ?_
                      exact ⟨(congrArg (fun z => Ending.returned (.bool z)) (by rw [pB_t (by unfold taskOkT; omega)])), st42.bare⟩
        · skip
          have h45p := of_decide_eq_true h45
          refine sx_on (j := 3) (dd := 52) rfl rfl (by decide) (yl_on (e := decide ((r.tasks[k]'hif4d94).state = 3)) rfl h45) (stp_fieldAddr fa_Task_3 hs26_5 ?_)
          refine sx_on (j := 3) (dd := 52) rfl rfl (by decide) (yl_on (e := decide ((r.tasks[k]'hif4d94).state = 3)) rfl h45) (stp_load_bx ld_int rfl rfl (st42.get 1 rfl) (i := 3) rfl rfl ?_)
          refine sx_on (j := 3) (dd := 52) rfl rfl (by decide) (yl_on (e := decide ((r.tasks[k]'hif4d94).state = 3)) rfl h45) (stp_call3 Tryz.func43 rfl rfl rfl rfl ((l01In_n W40 (r.tasks[k]'hif4d94).until_ 1 1000000000).mono ?_)); rintro _ W59 ⟨rfl, hk60⟩; refine ⟨_, rfl, ?_⟩
          have st61 := St.call st42 hk60
          refine sx_on (j := 3) (dd := 52) rfl rfl (by decide) (yl_on (e := decide ((r.tasks[k]'hif4d94).state = 3)) rfl h45) (stp_not rfl ?_)
          refine sx rfl (stp_pick_t (v := .bool (!(inB (r.tasks[k]'hif4d94).until_ 1 1000000000))) ((rfl : _ = (.bool (decide ((r.tasks[k]'hif4d94).state = 3)) : Value)).trans (congrArg Value.bool h45)) rfl ?_)
          refine sx rfl (stp_move (v := .bool (!(inB (r.tasks[k]'hif4d94).until_ 1 1000000000))) rfl ?_)
          rcases bd (!(inB (r.tasks[k]'hif4d94).until_ 1 1000000000)) with h63 | h63
          · skip
            have h63p := inB_iff'.1 (bnot_f h63)
            refine sx_on (j := 9) (dd := 58) rfl rfl (by decide) (yl_on (e := !(inB (r.tasks[k]'hif4d94).until_ 1 1000000000)) rfl h63) (stp_fieldAddr fa_Task_0 hs26_5 ?_)
            refine sx_on (j := 9) (dd := 58) rfl rfl (by decide) (yl_on (e := !(inB (r.tasks[k]'hif4d94).until_ 1 1000000000)) rfl h63) (stp_load_bx ld_int rfl rfl (st61.get 1 rfl) (i := 0) rfl rfl ?_)
            refine sx_on (j := 9) (dd := 58) rfl rfl (by decide) (yl_on (e := !(inB (r.tasks[k]'hif4d94).until_ 1 1000000000)) rfl h63) (stp_neq rfl rfl ?_)
            refine sx_on (j := 9) (dd := 58) rfl rfl (by decide) (yl_on (e := !(inB (r.tasks[k]'hif4d94).until_ 1 1000000000)) rfl h63) (stp_move (v := .bool (!decide ((r.tasks[k]'hif4d94).state = 3))) rfl ?_)
            iterate 3 refine sx_off (j := 13) (dd := 62) rfl rfl (by decide) (yl_off (e := !decide ((r.tasks[k]'hif4d94).state = 3)) rfl (congrArg not h45)) ?_
            refine sx_on (j := 9) (dd := 58) rfl rfl (by decide) (yl_on (e := !(inB (r.tasks[k]'hif4d94).until_ 1 1000000000)) rfl h63) (stp_pick_f (v := .bool false) ((rfl : _ = (.bool (!decide ((r.tasks[k]'hif4d94).state = 3)) : Value)).trans (congrArg Value.bool (congrArg not h45))) rfl ?_)
            refine sx rfl (stp_pick_f (v := .bool false) ((rfl : _ = (.bool (!(inB (r.tasks[k]'hif4d94).until_ 1 1000000000)) : Value)).trans (congrArg Value.bool h63)) rfl ?_)
            refine sx_nil ?_
            refine sx_f rfl rfl ?_
            refine wp_skip ?_
            refine wp_seq ?_
            refine wp_seq ?_
            refine sx_region ?_
            refine sx rfl (stp_fieldAddr fa_Task_0 hs26_5 ?_)
            refine sx rfl (stp_load_bx ld_int rfl rfl (st61.get 1 rfl) (i := 0) rfl rfl ?_)
            refine sx_nil ?_
            refine wp_block ?_
            refine wp_seq ?_
            refine sx_region ?_
            refine sx rfl (stp_eql rfl rfl ?_)
            refine sx rfl (stp_assign (v := .bool (decide ((r.tasks[k]'hif4d94).state = 1))) rfl ?_)
            refine sx_nil ?_
            refine sx_if rfl (fun h64 => ?_) (fun h64 => ?_)
            · skip
              have h64p := of_decide_eq_true h64
              refine wp_seq ?_
              refine sx_region ?_
              refine sx rfl (stp_move (v := I (needIn r ((sortI (froms r.plan.edges (k : Int))).take i))) hs26_6 ?_)
              refine sx rfl (stp_gtr rfl rfl ?_)
              refine sx rfl (stp_assign (v := .bool (decide (0 < (needIn r ((sortI (froms r.plan.edges (k : Int))).take i))))) rfl ?_)
              refine sx_nil ?_
              rcases bd (decide (0 < (needIn r ((sortI (froms r.plan.edges (k : Int))).take i)))) with h65 | h65
              · skip
                have h65p := of_decide_eq_false h65
                refine wp_ret ?_; repeat (first | refine then_ret ?_ | refine blk_ret ?_)
                refine ret1 Tryz.results156 ((rfl : _ = (.bool (decide (0 < (needIn r ((sortI (froms r.plan.edges (k : Int))).take i)))) : Value)).trans (congrArg Value.bool h65)) ?_
                exact ⟨(congrArg (fun z => Ending.returned (.bool z)) (by rw [pB_f (by unfold taskOkT; omega)])), st61.bare⟩
              · skip
                have h65p := of_decide_eq_true h65
                refine wp_ret ?_; repeat (first | refine then_ret ?_ | refine blk_ret ?_)
                refine ret1 Tryz.results156 ((rfl : _ = (.bool (decide (0 < (needIn r ((sortI (froms r.plan.edges (k : Int))).take i)))) : Value)).trans (congrArg Value.bool h65)) ?_
                exact ⟨(congrArg (fun z => Ending.returned (.bool z)) (by rw [pB_t (by unfold taskOkT; omega)])), st61.bare⟩
            · skip
              have h64p := of_decide_eq_false h64
              refine wp_seq ?_
              refine sx_region ?_
              refine sx rfl (stp_eql rfl rfl ?_)
              refine sx rfl (stp_assign (v := .bool (decide ((r.tasks[k]'hif4d94).state = 2))) rfl ?_)
              refine sx_nil ?_
              refine sx_if rfl (fun h66 => ?_) (fun h66 => ?_)
              · skip
                have h66p := of_decide_eq_true h66
                refine wp_seq ?_
                refine sx_region ?_
                refine sx rfl (stp_move (v := I (needIn r ((sortI (froms r.plan.edges (k : Int))).take i))) hs26_6 ?_)
                refine sx rfl (stp_eql rfl rfl ?_)
                refine sx rfl (stp_move (v := .bool (decide ((needIn r ((sortI (froms r.plan.edges (k : Int))).take i)) = 0))) rfl ?_)
                rcases bd (decide ((needIn r ((sortI (froms r.plan.edges (k : Int))).take i)) = 0)) with h67 | h67
                · skip
                  have h67p := of_decide_eq_false h67
                  iterate 6 refine sx_off (j := 2) (dd := 78) rfl rfl (by decide) (yl_off (e := decide ((needIn r ((sortI (froms r.plan.edges (k : Int))).take i)) = 0)) rfl h67) ?_
                  refine sx rfl (stp_pick_f (v := .bool false) ((rfl : _ = (.bool (decide ((needIn r ((sortI (froms r.plan.edges (k : Int))).take i)) = 0)) : Value)).trans (congrArg Value.bool h67)) rfl ?_)
                  refine sx rfl (stp_assign (v := .bool false) rfl ?_)
                  refine sx_nil ?_
                  refine wp_ret ?_; repeat (first | refine then_ret ?_ | refine blk_ret ?_)
                  refine ret1 Tryz.results156 rfl ?_
                  exact ⟨(congrArg (fun z => Ending.returned (.bool z)) (by rw [pB_f (by unfold taskOkT; omega)])), st61.bare⟩
                · skip
                  have h67p := of_decide_eq_true h67
                  refine sx_on (j := 2) (dd := 78) rfl rfl (by decide) (yl_on (e := decide ((needIn r ((sortI (froms r.plan.edges (k : Int))).take i)) = 0)) rfl h67) (stp_fieldAddr fa_Task_2 hs26_5 ?_)
                  refine sx_on (j := 2) (dd := 78) rfl rfl (by decide) (yl_on (e := decide ((needIn r ((sortI (froms r.plan.edges (k : Int))).take i)) = 0)) rfl h67) (stp_load_bx ld_int rfl rfl (st61.get 1 rfl) (i := 2) rfl rfl ?_)
                  refine sx_on (j := 2) (dd := 78) rfl rfl (by decide) (yl_on (e := decide ((needIn r ((sortI (froms r.plan.edges (k : Int))).take i)) = 0)) rfl h67) (stp_fieldAddr fa_Run_1 hs26_2 ?_)
                  refine sx_on (j := 2) (dd := 78) rfl rfl (by decide) (yl_on (e := decide ((needIn r ((sortI (froms r.plan.edges (k : Int))).take i)) = 0)) rfl h67) (stp_fieldAddr fa_Plan_1 rfl ?_)
                  refine sx_on (j := 2) (dd := 78) rfl rfl (by decide) (yl_on (e := decide ((needIn r ((sortI (froms r.plan.edges (k : Int))).take i)) = 0)) rfl h67) (stp_load_bx ld_int rfl rfl (st61.get 2 rfl) (i := 2) rfl rfl ?_)
                  refine sx_on (j := 2) (dd := 78) rfl rfl (by decide) (yl_on (e := decide ((needIn r ((sortI (froms r.plan.edges (k : Int))).take i)) = 0)) rfl h67) (stp_lss rfl rfl ?_)
                  refine sx rfl (stp_pick_t (v := .bool (decide ((r.tasks[k]'hif4d94).try_ < r.plan.most))) ((rfl : _ = (.bool (decide ((needIn r ((sortI (froms r.plan.edges (k : Int))).take i)) = 0)) : Value)).trans (congrArg Value.bool h67)) rfl ?_)
                  refine sx rfl (stp_assign (v := .bool (decide ((r.tasks[k]'hif4d94).try_ < r.plan.most))) rfl ?_)
                  refine sx_nil ?_
                  rcases bd (decide ((r.tasks[k]'hif4d94).try_ < r.plan.most)) with h68 | h68
                  · skip
                    have h68p := of_decide_eq_false h68
                    refine wp_ret ?_; repeat (first | refine then_ret ?_ | refine blk_ret ?_)
                    refine ret1 Tryz.results156 ((rfl : _ = (.bool (decide ((r.tasks[k]'hif4d94).try_ < r.plan.most)) : Value)).trans (congrArg Value.bool h68)) ?_
                    exact ⟨(congrArg (fun z => Ending.returned (.bool z)) (by rw [pB_f (by unfold taskOkT; omega)])), st61.bare⟩
                  · skip
                    have h68p := of_decide_eq_true h68
                    refine wp_ret ?_; repeat (first | refine then_ret ?_ | refine blk_ret ?_)
                    refine ret1 Tryz.results156 ((rfl : _ = (.bool (decide ((r.tasks[k]'hif4d94).try_ < r.plan.most)) : Value)).trans (congrArg Value.bool h68)) ?_
                    exact ⟨(congrArg (fun z => Ending.returned (.bool z)) (by rw [pB_t (by unfold taskOkT; omega)])), st61.bare⟩
              · skip
                have h66p := of_decide_eq_false h66
                refine wp_seq ?_
                refine wp_seq ?_
                refine sx_region ?_
                refine sx rfl (stp_eql rfl rfl ?_)
                refine sx rfl (stp_assign (v := .bool (decide ((r.tasks[k]'hif4d94).state = 3))) rfl ?_)
                refine sx_nil ?_
                refine sx_t rfl h45 ?_
                refine wp_skip ?_
                refine sx_t rfl h45 ?_
                refine wp_seq ?_
                refine sx_region ?_
                refine sx rfl (stp_move (v := I (needIn r ((sortI (froms r.plan.edges (k : Int))).take i))) hs26_6 ?_)
                refine sx rfl (stp_eql rfl rfl ?_)
                refine sx rfl (stp_move (v := .bool (decide ((needIn r ((sortI (froms r.plan.edges (k : Int))).take i)) = 0))) rfl ?_)
                rcases bd (decide ((needIn r ((sortI (froms r.plan.edges (k : Int))).take i)) = 0)) with h69 | h69
                · skip
                  have h69p := of_decide_eq_false h69
                  iterate 3 refine sx_off (j := 2) (dd := 92) rfl rfl (by decide) (yl_off (e := decide ((needIn r ((sortI (froms r.plan.edges (k : Int))).take i)) = 0)) rfl h69) ?_
                  refine sx rfl (stp_pick_f (v := .bool false) ((rfl : _ = (.bool (decide ((needIn r ((sortI (froms r.plan.edges (k : Int))).take i)) = 0)) : Value)).trans (congrArg Value.bool h69)) rfl ?_)
                  refine sx rfl (stp_assign (v := .bool false) rfl ?_)
                  refine sx_nil ?_
                  refine wp_ret ?_; repeat (first | refine then_ret ?_ | refine blk_ret ?_)
                  refine ret1 Tryz.results156 rfl ?_
                  exact ⟨(congrArg (fun z => Ending.returned (.bool z)) (by rw [pB_f (by unfold taskOkT; omega)])), st61.bare⟩
                · skip
                  have h69p := of_decide_eq_true h69
                  refine sx_on (j := 2) (dd := 92) rfl rfl (by decide) (yl_on (e := decide ((needIn r ((sortI (froms r.plan.edges (k : Int))).take i)) = 0)) rfl h69) (stp_fieldAddr fa_Task_2 hs26_5 ?_)
                  refine sx_on (j := 2) (dd := 92) rfl rfl (by decide) (yl_on (e := decide ((needIn r ((sortI (froms r.plan.edges (k : Int))).take i)) = 0)) rfl h69) (stp_load_bx ld_int rfl rfl (st61.get 1 rfl) (i := 2) rfl rfl ?_)
                  refine sx_on (j := 2) (dd := 92) rfl rfl (by decide) (yl_on (e := decide ((needIn r ((sortI (froms r.plan.edges (k : Int))).take i)) = 0)) rfl h69) (stp_geq rfl rfl ?_)
                  refine sx rfl (stp_pick_t (v := .bool (decide (1 ≤ (r.tasks[k]'hif4d94).try_))) ((rfl : _ = (.bool (decide ((needIn r ((sortI (froms r.plan.edges (k : Int))).take i)) = 0)) : Value)).trans (congrArg Value.bool h69)) rfl ?_)
                  refine sx rfl (stp_assign (v := .bool (decide (1 ≤ (r.tasks[k]'hif4d94).try_))) rfl ?_)
                  refine sx_nil ?_
                  rcases bd (decide (1 ≤ (r.tasks[k]'hif4d94).try_)) with h70 | h70
                  · skip
                    have h70p := of_decide_eq_false h70
                    refine wp_ret ?_; repeat (first | refine then_ret ?_ | refine blk_ret ?_)
                    refine ret1 Tryz.results156 ((rfl : _ = (.bool (decide (1 ≤ (r.tasks[k]'hif4d94).try_)) : Value)).trans (congrArg Value.bool h70)) ?_
                    exact ⟨(congrArg (fun z => Ending.returned (.bool z)) (by rw [pB_f (by unfold taskOkT; omega)])), st61.bare⟩
                  · skip
                    have h70p := of_decide_eq_true h70
                    refine wp_ret ?_; repeat (first | refine then_ret ?_ | refine blk_ret ?_)
                    refine ret1 Tryz.results156 ((rfl : _ = (.bool (decide (1 ≤ (r.tasks[k]'hif4d94).try_)) : Value)).trans (congrArg Value.bool h70)) ?_
                    exact ⟨(congrArg (fun z => Ending.returned (.bool z)) (by rw [pB_t (by unfold taskOkT; omega)])), st61.bare⟩
          · skip
            have h63p := inB_not (bnot_t h63)
            iterate 4 refine sx_off (j := 9) (dd := 58) rfl rfl (by decide) (yl_off (e := !(inB (r.tasks[k]'hif4d94).until_ 1 1000000000)) rfl h63) ?_
            iterate 3 refine sx_off rfl rfl (by decide) (yl_und rfl) ?_
            refine sx_off (j := 9) (dd := 58) rfl rfl (by decide) (yl_off (e := !(inB (r.tasks[k]'hif4d94).until_ 1 1000000000)) rfl h63) ?_
            refine sx rfl (stp_pick_t (v := .bool true) ((rfl : _ = (.bool (!(inB (r.tasks[k]'hif4d94).until_ 1 1000000000)) : Value)).trans (congrArg Value.bool h63)) rfl ?_)
            refine sx_nil ?_
            refine sx_t rfl rfl ?_
            refine wp_seq ?_
            refine sx_region ?_
            refine sx rfl (stp_assign (v := .bool false) rfl ?_)
            refine sx_nil ?_
            refine wp_ret ?_; repeat (first | refine then_ret ?_ | refine blk_ret ?_)
            refine ret1 Tryz.results156 rfl ?_
            exact ⟨(congrArg (fun z => Ending.returned (.bool z)) (by rw [pB_f (by unfold taskOkT; omega)])), st61.bare⟩
    · skip
      have h39p := of_decide_eq_false (bnot_t h39)
      iterate 7 refine sx_off (j := 4) (dd := 40) rfl rfl (by decide) (yl_off (e := !decide ((r.tasks[k]'hif4d94).need = (needIn r ((sortI (froms r.plan.edges (k : Int))).take i)))) rfl h39) ?_
      refine sx rfl (stp_pick_t (v := .bool true) ((rfl : _ = (.bool (!decide ((r.tasks[k]'hif4d94).need = (needIn r ((sortI (froms r.plan.edges (k : Int))).take i)))) : Value)).trans (congrArg Value.bool h39)) rfl ?_)
      refine sx_nil ?_
      refine sx_t rfl rfl ?_
      refine wp_seq ?_
      refine sx_region ?_
      refine sx rfl (stp_assign (v := .bool false) rfl ?_)
      refine sx_nil ?_
      refine wp_ret ?_; repeat (first | refine then_ret ?_ | refine blk_ret ?_)
      refine ret1 Tryz.results156 rfl ?_
      exact ⟨(congrArg (fun z => Ending.returned (.bool z)) (by rw [pB_f (by unfold taskOkT; omega)])), st25.bare⟩
set_option maxHeartbeats 2000000 in
theorem StateS (w : World) {r : Run} {cs : List Value} {fp : List Nat} (hc : Shape.C w cs r fp) (hS : ∀ t ∈ r.tasks, 1 ≤ t.state ∧ t.state ≤ 6) (hl : r.tasks.length ≤ 1048576) :
    Calls Tryz.prog 157 #[.agg cs.toArray] w fun e w' => e = .returned (I (stateOf r.tasks)) ∧ St w w' [] := by
  have hcap : r.tasks.length ≤ 9223372036854775807 := by have h0 := hc; obtain ⟨v1, v2, f1, f2, h0, hok, h1, h2, hfp⟩ := h0; exact h2.len_le
  refine enter1 Tryz.func157 rfl Tryz.ntmps157 (by decide) ?_
  refine wp_seq ?_
  refine sx_region ?_
  refine sx rfl (stp_box_agg (cs := cs) rfl (St.start w) ?_); intro b1 W2 hb3 st4
  refine sx rfl (stp_assign (v := I 0) rfl ?_)
  refine sx_nil ?_
  refine wp_seq ?_
  refine sx_region ?_
  refine sx rfl (stp_buildSlice (cs := [I 0, I 0, I 0, I 0, I 0, I 0, I 0]) (e := 3) (pcons (v := I 0) rfl (pcons (v := I 0) rfl (pcons (v := I 0) rfl (pcons (v := I 0) rfl (pcons (v := I 0) rfl (pcons (v := I 0) rfl (pcons (v := I 0) rfl pnil))))))) (run_buildSliceN ap_IntS _ rfl (lc_cons rfl (lc_cons rfl (lc_cons rfl (lc_cons rfl (lc_cons rfl (lc_cons rfl (lc_cons rfl lc_nil)))))))) st4 ?_); intro b6 W7 hb8 st9
  refine sx rfl (stp_assign (v := .slice (some ⟨b6, 0, none⟩) 7 7) rfl ?_)
  refine sx_nil ?_
  refine wp_seq ?_
  refine wp_seq ?_
  refine sx_region ?_
  refine sx rfl (stp_assign (v := I 0) rfl ?_)
  refine sx_nil ?_
  refine wp_block ?_
  have st11 := St.row_lit (α := Int) (ys := [0, 0, 0, 0, 0, 0, 0]) st9 rfl (Nat.le_of_ble_eq_true rfl) (Elems.ic (by simp only [I64] at *; omega) (Elems.ic (by simp only [I64] at *; omega) (Elems.ic (by simp only [I64] at *; omega) (Elems.ic (by simp only [I64] at *; omega) (Elems.ic (by simp only [I64] at *; omega) (Elems.ic (by simp only [I64] at *; omega) (Elems.ic (by simp only [I64] at *; omega) Elems.i0)))))))
  have hq_ := st11.shut
  obtain ⟨fp12, st13⟩ := hq_
  refine sx_loop (fun (m : Nat) (f : Nat → Value) (W : World) => ∃ (k : Nat) (fo14 : List Nat), k ≤ r.tasks.length ∧ m = r.tasks.length - k ∧ f 1 = .pointer (some ⟨b1, 0, none⟩) ∧ f 3 = (.slice (some ⟨b6, 0, none⟩) 7 7) ∧ f 4 = I (k : Int) ∧ St w W ([Res.own (α := List Int) (.slice (some ⟨b6, 0, none⟩) 7 7) (cnts (r.tasks.take k)) fo14, Res.bx b1 cs 123])) (r.tasks.length - 0) ?_ ?_
  · exact ⟨0, fp12, (by omega), rfl, rfl, rfl, rfl, (by rw [List.take_zero, cnts_nil]; exact st13)⟩
  intro m15 f16 W17 hJ18
  obtain ⟨k, fo14, hk, rfl, hs20_1, hs20_3, hs20_4, st19⟩ := hJ18
  refine wp_seq ?_
  refine wp_seq ?_
  refine sx_region ?_
  refine sx rfl (stp_move (v := I (k : Int)) hs20_4 ?_)
  refine sx rfl (stp_fieldAddr fa_Run_3 hs20_1 ?_)
  have hk21 := hc
  obtain ⟨v21_0, v21_1, g21_0, g21_1, rfl, hok21, h21_0, h21_1, rfl⟩ := hk21
  refine sx rfl (stp_load_bx ld_TaskS rfl rfl (st19.get 1 rfl) (i := 7) rfl rfl ?_)
  refine sx rfl (stp_len sl_TaskS rfl h21_1 ?_)
  refine sx rfl (stp_lss rfl rfl ?_)
  refine sx_nil ?_
  refine sx_if rfl (fun h22 => ?_) (fun h22 => ?_)
  · skip
    have h22p := of_decide_eq_true h22
    refine wp_skip ?_
    refine wp_seq ?_
    refine wp_block ?_
    refine sx_region ?_
    refine sx rfl (stp_move (v := (.slice (some ⟨b6, 0, none⟩) 7 7)) hs20_3 ?_)
    refine sx rfl (stp_fieldAddr fa_Run_3 hs20_1 ?_)
    refine sx rfl (stp_load_bx ld_TaskS rfl rfl (st19.get 1 rfl) (i := 7) rfl rfl ?_)
    refine sx rfl (stp_move (v := I (k : Int)) hs20_4 ?_)
    have hif4d94 : k < r.tasks.length := (by omega)
    have hq_ := idx h21_1 (i := k) hif4d94
    obtain ⟨b23, o23, cs23, f23, hp23, hr23, hc23, hm23⟩ := hq_
    refine sx rfl (stp_indexAddr sl_TaskS rfl hp23 rfl rfl ?_)
    refine sx rfl (stp_fieldAddr fa_Task_0 rfl ?_)
    have hk24 := hc23
    obtain ⟨he24, rfl, hok24⟩ := hk24
    have he24 : _ = [I (r.tasks[k]'hif4d94).state, I (r.tasks[k]'hif4d94).need, I (r.tasks[k]'hif4d94).try_, I (r.tasks[k]'hif4d94).until_] := he24
    subst he24
    refine sx rfl (stp_load_rg ld_int rfl rfl hr23 st19.below (i := 0) rfl rfl ?_)
    have hsk := hS _ (List.getElem_mem (l := r.tasks) (n := k) (by omega))
    have hcl := cnts_len (r.tasks.take k)
    have htl := List.length_take_le k r.tasks
    have hi2be82 : ((r.tasks[k]'hif4d94).state).toNat < (cnts (r.tasks.take k)).length := (by omega)
    have hq_ := idx (own_Sl (st19.get 0 rfl)) (i := ((r.tasks[k]'hif4d94).state).toNat) hi2be82
    obtain ⟨b25, o25, cs25, f25, hp25, hr25, hc25, hm25⟩ := hq_
    have hk25 := hc25
    obtain ⟨rfl, rfl, hok25⟩ := hk25
    refine sx rfl (stp_indexAddr sl_IntS rfl hp25 rfl (by omega) ?_)
    have hcr := cnts_rng (r.tasks.take k) (r.tasks[k]'(by omega)).state.toNat (by omega)
    refine sx rfl (stp_load_rg ld_int rfl rfl hr25 (Below.refl _ _) (i := 0) rfl rfl ?_)
    refine sx rfl (stp_add rfl rfl (by (simp only [I64] at *; omega)) ?_)
    refine sx rfl (stp_indexAddr sl_IntS rfl hp25 rfl (by omega) ?_)
    refine sx rfl (stp_poke1 (α := Int) (z := ((cnts (r.tasks.take k))[((r.tasks[k]'hif4d94).state).toNat]'hi2be82) + 1) rfl (by kernel_rfl) rfl hp25 hi2be82 rfl rfl rfl st19 (fun W => ⟨rfl, rfl, (by (simp only [I64] at *; omega))⟩) ?_); intro fp26 W27 st28
    refine sx_nil ?_
    refine sx_region ?_
    refine sx rfl (stp_move (v := I (k : Int)) hs20_4 ?_)
    refine sx rfl (stp_add rfl rfl (by (simp only [I64] at *; omega)) ?_)
    refine sx rfl (stp_assign (v := I ((k : Int) + 1)) rfl ?_)
    refine sx_nil ?_
    exact ⟨_, r.tasks.length - (k + 1), (by omega), rfl, k + 1, fp26, (by omega), rfl, hs20_1, hs20_3, rfl, (by rw [← cnts_set (by omega) (hS _ (List.getElem_mem _)) (by rw [cnts_len]; omega)]; exact st28)⟩
  · skip
    have h22p := of_decide_eq_false h22
    refine wp_exit ?_
    refine wp_seq ?_
    have hkl : k = r.tasks.length := by omega
    have hcl := cnts_len (r.tasks.take k)
    have hso := stateOf_cases r.tasks
    have hk0 : r.tasks.take k = r.tasks := by rw [hkl, List.take_length]
    have hq1 : (cnts (r.tasks.take k))[1]'(by omega) = cntI r.tasks 1 := (cnts_4 _ 1 _).trans (by rw [hk0]; rfl)
    have hq2 : (cnts (r.tasks.take k))[2]'(by omega) = cntI r.tasks 2 := (cnts_4 _ 2 _).trans (by rw [hk0]; rfl)
    have hq3 : (cnts (r.tasks.take k))[3]'(by omega) = cntI r.tasks 3 := (cnts_4 _ 3 _).trans (by rw [hk0]; rfl)
    have hq4 : (cnts (r.tasks.take k))[4]'(by omega) = cntI r.tasks 4 := (cnts_4 _ 4 _).trans (by rw [hk0]; rfl)
    have hq5 : (cnts (r.tasks.take k))[5]'(by omega) = cntI r.tasks 5 := (cnts_4 _ 5 _).trans (by rw [hk0]; rfl)
    have hq6 : (cnts (r.tasks.take k))[6]'(by omega) = cntI r.tasks 6 := (cnts_4 _ 6 _).trans (by rw [hk0]; rfl)
    have hnn1 := cntI_nonneg r.tasks 1
    have hnn2 := cntI_nonneg r.tasks 2
    have hnn3 := cntI_nonneg r.tasks 3
    have hnn4 := cntI_nonneg r.tasks 4
    have hnn5 := cntI_nonneg r.tasks 5
    have hnn6 := cntI_nonneg r.tasks 6
    have hll1 := cntI_le r.tasks 1
    have hll2 := cntI_le r.tasks 2
    have hll3 := cntI_le r.tasks 3
    have hll4 := cntI_le r.tasks 4
    have hll5 := cntI_le r.tasks 5
    have hll6 := cntI_le r.tasks 6
    have hi25f68 : 1 < (cnts (r.tasks.take k)).length := (by omega)
    have hq_ := idx (own_Sl (st19.get 0 rfl)) (i := 1) hi25f68
    obtain ⟨b29, o29, cs29, f29, hp29, hr29, hc29, hm29⟩ := hq_
    have hk29 := hc29
    obtain ⟨rfl, rfl, hok29⟩ := hk29
    have hi416b4 : 2 < (cnts (r.tasks.take k)).length := (by omega)
    have hq_ := idx (own_Sl (st19.get 0 rfl)) (i := 2) hi416b4
    obtain ⟨b30, o30, cs30, f30, hp30, hr30, hc30, hm30⟩ := hq_
    have hk30 := hc30
    obtain ⟨rfl, rfl, hok30⟩ := hk30
    have hi98b8f : 3 < (cnts (r.tasks.take k)).length := (by omega)
    have hq_ := idx (own_Sl (st19.get 0 rfl)) (i := 3) hi98b8f
    obtain ⟨b31, o31, cs31, f31, hp31, hr31, hc31, hm31⟩ := hq_
    have hk31 := hc31
    obtain ⟨rfl, rfl, hok31⟩ := hk31
    refine sx_any [Pl.is ((.slice (some ⟨b6, 0, none⟩) 7 7)) (Sl.yl (own_Sl (st19.get 0 rfl))), Pl.is (.pointer (some ⟨b29, o29, none⟩)), Pl.is (I ((cnts (r.tasks.take k))[1]'hi25f68)), Pl.is ((.slice (some ⟨b6, 0, none⟩) 7 7)) (Sl.yl (own_Sl (st19.get 0 rfl))), Pl.is (.pointer (some ⟨b30, o30, none⟩)), Pl.is (I ((cnts (r.tasks.take k))[2]'hi416b4)), Pl.is (I (((cnts (r.tasks.take k))[1]'hi25f68) + ((cnts (r.tasks.take k))[2]'hi416b4))), Pl.is ((.slice (some ⟨b6, 0, none⟩) 7 7)) (Sl.yl (own_Sl (st19.get 0 rfl))), Pl.is (.pointer (some ⟨b31, o31, none⟩)), Pl.is (I ((cnts (r.tasks.take k))[3]'hi98b8f)), Pl.is (I ((((cnts (r.tasks.take k))[1]'hi25f68) + ((cnts (r.tasks.take k))[2]'hi416b4)) + ((cnts (r.tasks.take k))[3]'hi98b8f))), Pl.is (I ((((cnts (r.tasks.take k))[1]'hi25f68) + ((cnts (r.tasks.take k))[2]'hi416b4)) + ((cnts (r.tasks.take k))[3]'hi98b8f)))] mix (by rfl) st19 ⟨(fun f W hst hbl hd hf => stp_move (v := (.slice (some ⟨b6, 0, none⟩) 7 7)) ((hf 3 rfl).trans hs20_3) ⟨Below.refl _ _, rfl⟩), (fun f W hst hbl hd hf => stp_indexAddr sl_IntS (hd 0 25 rfl rfl) hp29 rfl rfl ⟨Below.refl _ _, rfl⟩), (fun f W hst hbl hd hf => stp_load_rg ld_int rfl (hd 1 26 rfl rfl) hr29 hbl (i := 0) rfl rfl ⟨Below.refl _ _, rfl⟩), (fun f W hst hbl hd hf => stp_move (v := (.slice (some ⟨b6, 0, none⟩) 7 7)) ((hf 3 rfl).trans hs20_3) ⟨Below.refl _ _, rfl⟩), (fun f W hst hbl hd hf => stp_indexAddr sl_IntS (hd 3 28 rfl rfl) hp30 rfl rfl ⟨Below.refl _ _, rfl⟩), (fun f W hst hbl hd hf => stp_load_rg ld_int rfl (hd 4 29 rfl rfl) hr30 hbl (i := 0) rfl rfl ⟨Below.refl _ _, rfl⟩), (fun f W hst hbl hd hf => stp_add (hd 2 27 rfl rfl) (hd 5 30 rfl rfl) (by (simp only [I64] at *; omega)) ⟨Below.refl _ _, rfl⟩), (fun f W hst hbl hd hf => stp_move (v := (.slice (some ⟨b6, 0, none⟩) 7 7)) ((hf 3 rfl).trans hs20_3) ⟨Below.refl _ _, rfl⟩), (fun f W hst hbl hd hf => stp_indexAddr sl_IntS (hd 7 32 rfl rfl) hp31 rfl rfl ⟨Below.refl _ _, rfl⟩), (fun f W hst hbl hd hf => stp_load_rg ld_int rfl (hd 8 33 rfl rfl) hr31 hbl (i := 0) rfl rfl ⟨Below.refl _ _, rfl⟩), (fun f W hst hbl hd hf => stp_add (hd 6 31 rfl rfl) (hd 9 34 rfl rfl) (by (simp only [I64] at *; omega)) ⟨Below.refl _ _, rfl⟩), (fun f W hst hbl hd hf => stp_assign (v := I ((((cnts (r.tasks.take k))[1]'hi25f68) + ((cnts (r.tasks.take k))[2]'hi416b4)) + ((cnts (r.tasks.take k))[3]'hi98b8f))) (hd 10 35 rfl rfl) ⟨Below.refl _ _, rfl⟩), trivial⟩ ?_
    intro f32 W33 st34 hb35 hv36 hf37
    refine wp_seq ?_
    refine wp_block ?_
    refine wp_seq ?_
    have hi7bb14 : 4 < (cnts (r.tasks.take k)).length := (by omega)
    have hq_ := idx (own_Sl (st34.get 0 rfl)) (i := 4) hi7bb14
    obtain ⟨b38, o38, cs38, f38, hp38, hr38, hc38, hm38⟩ := hq_
    have hk38 := hc38
    obtain ⟨rfl, rfl, hok38⟩ := hk38
    refine sx_any [Pl.is ((.slice (some ⟨b6, 0, none⟩) 7 7)) (Sl.yl (own_Sl (st34.get 0 rfl))), Pl.is (.pointer (some ⟨b38, o38, none⟩)), Pl.is (I ((cnts (r.tasks.take k))[4]'hi7bb14)), Pl.is (.pointer (some ⟨b1, 0 + 7, none⟩)), Pl.is (v21_1) (Sl.yl h21_1), Pl.is (I (r.tasks.length : Int)), Pl.bool (decide (((cnts (r.tasks.take k))[4]'hi7bb14) = (r.tasks.length : Int))), Pl.bool (decide (((cnts (r.tasks.take k))[4]'hi7bb14) = (r.tasks.length : Int)))] mix (by rfl) st34 ⟨(fun f W hst hbl hd hf => stp_move (v := (.slice (some ⟨b6, 0, none⟩) 7 7)) ((hf 3 rfl).trans ((hf37 3 rfl).trans hs20_3)) ⟨Below.refl _ _, rfl⟩), (fun f W hst hbl hd hf => stp_indexAddr sl_IntS (hd 0 37 rfl rfl) hp38 rfl rfl ⟨Below.refl _ _, rfl⟩), (fun f W hst hbl hd hf => stp_load_rg ld_int rfl (hd 1 38 rfl rfl) hr38 hbl (i := 0) rfl rfl ⟨Below.refl _ _, rfl⟩), (fun f W hst hbl hd hf => stp_fieldAddr fa_Run_3 ((hf 1 rfl).trans ((hf37 1 rfl).trans hs20_1)) ⟨Below.refl _ _, rfl⟩), (fun f W hst hbl hd hf => stp_load_bx ld_TaskS rfl (hd 3 40 rfl rfl) (hst.get 1 rfl) (i := 7) rfl rfl ⟨Below.refl _ _, rfl⟩), (fun f W hst hbl hd hf => stp_len sl_TaskS (hd 4 41 rfl rfl) h21_1 ⟨Below.refl _ _, rfl⟩), (fun f W hst hbl hd hf => stp_eql (hd 2 39 rfl rfl) (hd 5 42 rfl rfl) ⟨Below.refl _ _, rfl⟩), (fun f W hst hbl hd hf => stp_assign (v := .bool (decide (((cnts (r.tasks.take k))[4]'hi7bb14) = (r.tasks.length : Int)))) (hd 6 43 rfl rfl) ⟨Below.refl _ _, rfl⟩), trivial⟩ ?_
    intro f39 W40 st41 hb42 hv43 hf44
    refine sx_if (hv43 7 36 (by decide) rfl) (fun h45 => ?_) (fun h45 => ?_)
    · skip
      have h45p := of_decide_eq_true h45
      refine wp_seq ?_
      refine sx_region ?_
      refine sx rfl (stp_assign (v := I 2) rfl ?_)
      refine sx_nil ?_
      refine wp_ret ?_; repeat (first | refine then_ret ?_ | refine blk_ret ?_)
      refine ret1 Tryz.results157 rfl ?_
      exact ⟨(congrArg (fun z => Ending.returned (I z)) (by omega)), st41.bare⟩
    · skip
      have h45p := of_decide_eq_false h45
      refine wp_seq ?_
      refine sx_region ?_
      refine sx rfl (stp_move (v := (.slice (some ⟨b6, 0, none⟩) 7 7)) ((hf44 3 rfl).trans ((hf37 3 rfl).trans hs20_3)) ?_)
      have hi9ea3c : 5 < (cnts (r.tasks.take k)).length := (by omega)
      have hq_ := idx (own_Sl (st41.get 0 rfl)) (i := 5) hi9ea3c
      obtain ⟨b46, o46, cs46, f46, hp46, hr46, hc46, hm46⟩ := hq_
      have hk46 := hc46
      obtain ⟨rfl, rfl, hok46⟩ := hk46
      refine sx rfl (stp_indexAddr sl_IntS rfl hp46 rfl rfl ?_)
      refine sx rfl (stp_load_rg ld_int rfl rfl hr46 (Below.refl _ _) (i := 0) rfl rfl ?_)
      refine sx rfl (stp_eql rfl rfl ?_)
      refine sx rfl (stp_move (v := .bool (decide (((cnts (r.tasks.take k))[5]'hi9ea3c) = 1))) rfl ?_)
      rcases bd (decide (((cnts (r.tasks.take k))[5]'hi9ea3c) = 1)) with h47 | h47
      · skip
        have h47p := of_decide_eq_false h47
        iterate 2 refine sx_off (j := 4) (dd := 49) rfl rfl (by decide) (yl_off (e := decide (((cnts (r.tasks.take k))[5]'hi9ea3c) = 1)) rfl h47) ?_
        refine sx rfl (stp_pick_f (v := .bool false) ((rfl : _ = (.bool (decide (((cnts (r.tasks.take k))[5]'hi9ea3c) = 1)) : Value)).trans (congrArg Value.bool h47)) rfl ?_)
        refine sx rfl (stp_assign (v := .bool false) rfl ?_)
        refine sx_nil ?_
        refine sx_f rfl rfl ?_
        refine wp_seq ?_
        refine sx_region ?_
        refine sx rfl (stp_move (v := (.slice (some ⟨b6, 0, none⟩) 7 7)) ((hf44 3 rfl).trans ((hf37 3 rfl).trans hs20_3)) ?_)
        refine sx rfl (stp_indexAddr sl_IntS rfl hp46 rfl rfl ?_)
        refine sx rfl (stp_load_rg ld_int rfl rfl hr46 (Below.refl _ _) (i := 0) rfl rfl ?_)
        refine sx rfl (stp_eql rfl rfl ?_)
        refine sx rfl (stp_move (v := .bool (decide (((cnts (r.tasks.take k))[5]'hi9ea3c) = 0))) rfl ?_)
        rcases bd (decide (((cnts (r.tasks.take k))[5]'hi9ea3c) = 0)) with h48 | h48
        · skip
          have h48p := of_decide_eq_false h48
          iterate 4 refine sx_off (j := 4) (dd := 58) rfl rfl (by decide) (yl_off (e := decide (((cnts (r.tasks.take k))[5]'hi9ea3c) = 0)) rfl h48) ?_
          refine sx rfl (stp_pick_f (v := .bool false) ((rfl : _ = (.bool (decide (((cnts (r.tasks.take k))[5]'hi9ea3c) = 0)) : Value)).trans (congrArg Value.bool h48)) rfl ?_)
          refine sx rfl (stp_move (v := .bool false) rfl ?_)
          iterate 2 refine sx_off (j := 10) (dd := 64) rfl rfl (by decide) (yl_off (e := false) rfl rfl) ?_
          refine sx rfl (stp_pick_f (v := .bool false) rfl rfl ?_)
          refine sx rfl (stp_assign (v := .bool false) rfl ?_)
          refine sx_nil ?_
          refine sx_f rfl rfl ?_
          refine wp_seq ?_
          refine sx_region ?_
          refine sx rfl (stp_move (v := (.slice (some ⟨b6, 0, none⟩) 7 7)) ((hf44 3 rfl).trans ((hf37 3 rfl).trans hs20_3)) ?_)
          refine sx rfl (stp_indexAddr sl_IntS rfl hp46 rfl rfl ?_)
          refine sx rfl (stp_load_rg ld_int rfl rfl hr46 (Below.refl _ _) (i := 0) rfl rfl ?_)
          refine sx rfl (stp_eql rfl rfl ?_)
          refine sx rfl (stp_move (v := .bool (decide (((cnts (r.tasks.take k))[5]'hi9ea3c) = 0))) rfl ?_)
          iterate 4 refine sx_off (j := 4) (dd := 73) rfl rfl (by decide) (yl_off (e := decide (((cnts (r.tasks.take k))[5]'hi9ea3c) = 0)) rfl h48) ?_
          refine sx rfl (stp_pick_f (v := .bool false) ((rfl : _ = (.bool (decide (((cnts (r.tasks.take k))[5]'hi9ea3c) = 0)) : Value)).trans (congrArg Value.bool h48)) rfl ?_)
          refine sx rfl (stp_assign (v := .bool false) rfl ?_)
          refine sx_nil ?_
          refine sx_f rfl rfl ?_
          refine wp_skip ?_
          refine wp_seq ?_
          refine sx_region ?_
          refine sx rfl (stp_assign (v := I 0) rfl ?_)
          refine sx_nil ?_
          refine wp_ret ?_; repeat (first | refine then_ret ?_ | refine blk_ret ?_)
          refine ret1 Tryz.results157 rfl ?_
          exact ⟨(congrArg (fun z => Ending.returned (I z)) (by omega)), st41.bare⟩
        · skip
          have h48p := of_decide_eq_true h48
          refine sx_on (j := 4) (dd := 58) rfl rfl (by decide) (yl_on (e := decide (((cnts (r.tasks.take k))[5]'hi9ea3c) = 0)) rfl h48) (stp_move (v := (.slice (some ⟨b6, 0, none⟩) 7 7)) ((hf44 3 rfl).trans ((hf37 3 rfl).trans hs20_3)) ?_)
          have hi05ed7 : 6 < (cnts (r.tasks.take k)).length := (by omega)
          have hq_ := idx (own_Sl (st41.get 0 rfl)) (i := 6) hi05ed7
          obtain ⟨b49, o49, cs49, f49, hp49, hr49, hc49, hm49⟩ := hq_
          have hk49 := hc49
          obtain ⟨rfl, rfl, hok49⟩ := hk49
          refine sx_on (j := 4) (dd := 58) rfl rfl (by decide) (yl_on (e := decide (((cnts (r.tasks.take k))[5]'hi9ea3c) = 0)) rfl h48) (stp_indexAddr sl_IntS rfl hp49 rfl rfl ?_)
          refine sx_on (j := 4) (dd := 58) rfl rfl (by decide) (yl_on (e := decide (((cnts (r.tasks.take k))[5]'hi9ea3c) = 0)) rfl h48) (stp_load_rg ld_int rfl rfl hr49 (Below.refl _ _) (i := 0) rfl rfl ?_)
          refine sx_on (j := 4) (dd := 58) rfl rfl (by decide) (yl_on (e := decide (((cnts (r.tasks.take k))[5]'hi9ea3c) = 0)) rfl h48) (stp_gtr rfl rfl ?_)
          refine sx rfl (stp_pick_t (v := .bool (decide (0 < ((cnts (r.tasks.take k))[6]'hi05ed7)))) ((rfl : _ = (.bool (decide (((cnts (r.tasks.take k))[5]'hi9ea3c) = 0)) : Value)).trans (congrArg Value.bool h48)) rfl ?_)
          refine sx rfl (stp_move (v := .bool (decide (0 < ((cnts (r.tasks.take k))[6]'hi05ed7)))) rfl ?_)
          rcases bd (decide (0 < ((cnts (r.tasks.take k))[6]'hi05ed7))) with h50 | h50
          · skip
            have h50p := of_decide_eq_false h50
            iterate 2 refine sx_off (j := 10) (dd := 64) rfl rfl (by decide) (yl_off (e := decide (0 < ((cnts (r.tasks.take k))[6]'hi05ed7))) rfl h50) ?_
            refine sx rfl (stp_pick_f (v := .bool false) ((rfl : _ = (.bool (decide (0 < ((cnts (r.tasks.take k))[6]'hi05ed7))) : Value)).trans (congrArg Value.bool h50)) rfl ?_)
            refine sx rfl (stp_assign (v := .bool false) rfl ?_)
            refine sx_nil ?_
            refine sx_f rfl rfl ?_
            refine wp_seq ?_
            refine sx_region ?_
            refine sx rfl (stp_move (v := (.slice (some ⟨b6, 0, none⟩) 7 7)) ((hf44 3 rfl).trans ((hf37 3 rfl).trans hs20_3)) ?_)
            refine sx rfl (stp_indexAddr sl_IntS rfl hp46 rfl rfl ?_)
            refine sx rfl (stp_load_rg ld_int rfl rfl hr46 (Below.refl _ _) (i := 0) rfl rfl ?_)
            refine sx rfl (stp_eql rfl rfl ?_)
            refine sx rfl (stp_move (v := .bool (decide (((cnts (r.tasks.take k))[5]'hi9ea3c) = 0))) rfl ?_)
            refine sx_on (j := 4) (dd := 73) rfl rfl (by decide) (yl_on (e := decide (((cnts (r.tasks.take k))[5]'hi9ea3c) = 0)) rfl h48) (stp_move (v := (.slice (some ⟨b6, 0, none⟩) 7 7)) ((hf44 3 rfl).trans ((hf37 3 rfl).trans hs20_3)) ?_)
            refine sx_on (j := 4) (dd := 73) rfl rfl (by decide) (yl_on (e := decide (((cnts (r.tasks.take k))[5]'hi9ea3c) = 0)) rfl h48) (stp_indexAddr sl_IntS rfl hp49 rfl rfl ?_)
            refine sx_on (j := 4) (dd := 73) rfl rfl (by decide) (yl_on (e := decide (((cnts (r.tasks.take k))[5]'hi9ea3c) = 0)) rfl h48) (stp_load_rg ld_int rfl rfl hr49 (Below.refl _ _) (i := 0) rfl rfl ?_)
            refine sx_on (j := 4) (dd := 73) rfl rfl (by decide) (yl_on (e := decide (((cnts (r.tasks.take k))[5]'hi9ea3c) = 0)) rfl h48) (stp_eql rfl rfl ?_)
            refine sx rfl (stp_pick_t (v := .bool (decide (((cnts (r.tasks.take k))[6]'hi05ed7) = 0))) ((rfl : _ = (.bool (decide (((cnts (r.tasks.take k))[5]'hi9ea3c) = 0)) : Value)).trans (congrArg Value.bool h48)) rfl ?_)
            refine sx rfl (stp_assign (v := .bool (decide (((cnts (r.tasks.take k))[6]'hi05ed7) = 0))) rfl ?_)
            refine sx_nil ?_
            refine sx_if rfl (fun h51 => ?_) (fun h51 => ?_)
            · skip
              have h51p := of_decide_eq_true h51
              refine wp_seq ?_
              refine sx_region ?_
              refine sx rfl (stp_assign (v := I 1) rfl ?_)
              refine sx_nil ?_
              refine wp_ret ?_; repeat (first | refine then_ret ?_ | refine blk_ret ?_)
              refine ret1 Tryz.results157 rfl ?_
              exact ⟨(congrArg (fun z => Ending.returned (I z)) (by omega)), st41.bare⟩
            · skip
              have h51p := of_decide_eq_false h51
              refine wp_skip ?_
              refine wp_seq ?_
              refine sx_region ?_
              refine sx rfl (stp_assign (v := I 0) rfl ?_)
              refine sx_nil ?_
              refine wp_ret ?_; repeat (first | refine then_ret ?_ | refine blk_ret ?_)
              refine ret1 Tryz.results157 rfl ?_
              exact ⟨(congrArg (fun z => Ending.returned (I z)) (by omega)), st41.bare⟩
          · skip
            have h50p := of_decide_eq_true h50
            refine sx_on (j := 10) (dd := 64) rfl rfl (by decide) (yl_on (e := decide (0 < ((cnts (r.tasks.take k))[6]'hi05ed7))) rfl h50) (stp_move (v := I ((((cnts (r.tasks.take k))[1]'hi25f68) + ((cnts (r.tasks.take k))[2]'hi416b4)) + ((cnts (r.tasks.take k))[3]'hi98b8f))) ((hf44 5 rfl).trans (hv36 11 5 (by decide) rfl)) ?_)
            refine sx_on (j := 10) (dd := 64) rfl rfl (by decide) (yl_on (e := decide (0 < ((cnts (r.tasks.take k))[6]'hi05ed7))) rfl h50) (stp_eql rfl rfl ?_)
            refine sx rfl (stp_pick_t (v := .bool (decide (((((cnts (r.tasks.take k))[1]'hi25f68) + ((cnts (r.tasks.take k))[2]'hi416b4)) + ((cnts (r.tasks.take k))[3]'hi98b8f)) = 0))) ((rfl : _ = (.bool (decide (0 < ((cnts (r.tasks.take k))[6]'hi05ed7))) : Value)).trans (congrArg Value.bool h50)) rfl ?_)
            refine sx rfl (stp_assign (v := .bool (decide (((((cnts (r.tasks.take k))[1]'hi25f68) + ((cnts (r.tasks.take k))[2]'hi416b4)) + ((cnts (r.tasks.take k))[3]'hi98b8f)) = 0))) rfl ?_)
            refine sx_nil ?_
            refine sx_if rfl (fun h52 => ?_) (fun h52 => ?_)
            · skip
              have h52p := of_decide_eq_true h52
              refine wp_seq ?_
              refine sx_region ?_
              refine sx rfl (stp_assign (v := I 4) rfl ?_)
              refine sx_nil ?_
              refine wp_ret ?_; repeat (first | refine then_ret ?_ | refine blk_ret ?_)
              refine ret1 Tryz.results157 rfl ?_
              exact ⟨(congrArg (fun z => Ending.returned (I z)) (by omega)), st41.bare⟩
            · skip
              have h52p := of_decide_eq_false h52
              refine wp_seq ?_
              refine sx_region ?_
              refine sx rfl (stp_move (v := (.slice (some ⟨b6, 0, none⟩) 7 7)) ((hf44 3 rfl).trans ((hf37 3 rfl).trans hs20_3)) ?_)
              refine sx rfl (stp_indexAddr sl_IntS rfl hp46 rfl rfl ?_)
              refine sx rfl (stp_load_rg ld_int rfl rfl hr46 (Below.refl _ _) (i := 0) rfl rfl ?_)
              refine sx rfl (stp_eql rfl rfl ?_)
              refine sx rfl (stp_move (v := .bool (decide (((cnts (r.tasks.take k))[5]'hi9ea3c) = 0))) rfl ?_)
              refine sx_on (j := 4) (dd := 73) rfl rfl (by decide) (yl_on (e := decide (((cnts (r.tasks.take k))[5]'hi9ea3c) = 0)) rfl h48) (stp_move (v := (.slice (some ⟨b6, 0, none⟩) 7 7)) ((hf44 3 rfl).trans ((hf37 3 rfl).trans hs20_3)) ?_)
              refine sx_on (j := 4) (dd := 73) rfl rfl (by decide) (yl_on (e := decide (((cnts (r.tasks.take k))[5]'hi9ea3c) = 0)) rfl h48) (stp_indexAddr sl_IntS rfl hp49 rfl rfl ?_)
              refine sx_on (j := 4) (dd := 73) rfl rfl (by decide) (yl_on (e := decide (((cnts (r.tasks.take k))[5]'hi9ea3c) = 0)) rfl h48) (stp_load_rg ld_int rfl rfl hr49 (Below.refl _ _) (i := 0) rfl rfl ?_)
              refine sx_on (j := 4) (dd := 73) rfl rfl (by decide) (yl_on (e := decide (((cnts (r.tasks.take k))[5]'hi9ea3c) = 0)) rfl h48) (stp_eql rfl rfl ?_)
              refine sx rfl (stp_pick_t (v := .bool (decide (((cnts (r.tasks.take k))[6]'hi05ed7) = 0))) ((rfl : _ = (.bool (decide (((cnts (r.tasks.take k))[5]'hi9ea3c) = 0)) : Value)).trans (congrArg Value.bool h48)) rfl ?_)
              refine sx rfl (stp_assign (v := .bool (decide (((cnts (r.tasks.take k))[6]'hi05ed7) = 0))) rfl ?_)
              refine sx_nil ?_
              refine sx_if rfl (fun h53 => ?_) (fun h53 => ?_)
              · skip
                have h53p := of_decide_eq_true h53
                refine wp_seq ?_
                refine sx_region ?_
                refine sx rfl (stp_assign (v := I 1) rfl ?_)
                refine sx_nil ?_
                refine wp_ret ?_; repeat (first | refine then_ret ?_ | refine blk_ret ?_)
                refine ret1 Tryz.results157 rfl ?_
                exact ⟨(congrArg (fun z => Ending.returned (I z)) (by omega)), st41.bare⟩
              · skip
                have h53p := of_decide_eq_false h53
                refine wp_skip ?_
                refine wp_seq ?_
                refine sx_region ?_
                refine sx rfl (stp_assign (v := I 0) rfl ?_)
                refine sx_nil ?_
                refine wp_ret ?_; repeat (first | refine then_ret ?_ | refine blk_ret ?_)
                refine ret1 Tryz.results157 rfl ?_
                exact ⟨(congrArg (fun z => Ending.returned (I z)) (by omega)), st41.bare⟩
      · skip
        have h47p := of_decide_eq_true h47
        refine sx_on (j := 4) (dd := 49) rfl rfl (by decide) (yl_on (e := decide (((cnts (r.tasks.take k))[5]'hi9ea3c) = 1)) rfl h47) (stp_move (v := I ((((cnts (r.tasks.take k))[1]'hi25f68) + ((cnts (r.tasks.take k))[2]'hi416b4)) + ((cnts (r.tasks.take k))[3]'hi98b8f))) ((hf44 5 rfl).trans (hv36 11 5 (by decide) rfl)) ?_)
        refine sx_on (j := 4) (dd := 49) rfl rfl (by decide) (yl_on (e := decide (((cnts (r.tasks.take k))[5]'hi9ea3c) = 1)) rfl h47) (stp_eql rfl rfl ?_)
        refine sx rfl (stp_pick_t (v := .bool (decide (((((cnts (r.tasks.take k))[1]'hi25f68) + ((cnts (r.tasks.take k))[2]'hi416b4)) + ((cnts (r.tasks.take k))[3]'hi98b8f)) = 0))) ((rfl : _ = (.bool (decide (((cnts (r.tasks.take k))[5]'hi9ea3c) = 1)) : Value)).trans (congrArg Value.bool h47)) rfl ?_)
        refine sx rfl (stp_assign (v := .bool (decide (((((cnts (r.tasks.take k))[1]'hi25f68) + ((cnts (r.tasks.take k))[2]'hi416b4)) + ((cnts (r.tasks.take k))[3]'hi98b8f)) = 0))) rfl ?_)
        refine sx_nil ?_
        refine sx_if rfl (fun h54 => ?_) (fun h54 => ?_)
        · skip
          have h54p := of_decide_eq_true h54
          refine wp_seq ?_
          refine sx_region ?_
          refine sx rfl (stp_assign (v := I 3) rfl ?_)
          refine sx_nil ?_
          refine wp_ret ?_; repeat (first | refine then_ret ?_ | refine blk_ret ?_)
          refine ret1 Tryz.results157 rfl ?_
          exact ⟨(congrArg (fun z => Ending.returned (I z)) (by omega)), st41.bare⟩
        · skip
          have h54p := of_decide_eq_false h54
          refine wp_seq ?_
          refine sx_region ?_
          refine sx rfl (stp_move (v := (.slice (some ⟨b6, 0, none⟩) 7 7)) ((hf44 3 rfl).trans ((hf37 3 rfl).trans hs20_3)) ?_)
          refine sx rfl (stp_indexAddr sl_IntS rfl hp46 rfl rfl ?_)
          refine sx rfl (stp_load_rg ld_int rfl rfl hr46 (Below.refl _ _) (i := 0) rfl rfl ?_)
          refine sx rfl (stp_eql rfl rfl ?_)
          refine sx rfl (stp_move (v := .bool (decide (((cnts (r.tasks.take k))[5]'hi9ea3c) = 0))) rfl ?_)
          rcases bd (decide (((cnts (r.tasks.take k))[5]'hi9ea3c) = 0)) with h55 | h55
          · skip
            have h55p := of_decide_eq_false h55
            iterate 4 refine sx_off (j := 4) (dd := 58) rfl rfl (by decide) (yl_off (e := decide (((cnts (r.tasks.take k))[5]'hi9ea3c) = 0)) rfl h55) ?_
            refine sx rfl (stp_pick_f (v := .bool false) ((rfl : _ = (.bool (decide (((cnts (r.tasks.take k))[5]'hi9ea3c) = 0)) : Value)).trans (congrArg Value.bool h55)) rfl ?_)
            refine sx rfl (stp_move (v := .bool false) rfl ?_)
            iterate 2 refine sx_off (j := 10) (dd := 64) rfl rfl (by decide) (yl_off (e := false) rfl rfl) ?_
            refine sx rfl (stp_pick_f (v := .bool false) rfl rfl ?_)
            refine sx rfl (stp_assign (v := .bool false) rfl ?_)
            refine sx_nil ?_
            refine sx_f rfl rfl ?_
            refine wp_seq ?_
            refine sx_region ?_
            refine sx rfl (stp_move (v := (.slice (some ⟨b6, 0, none⟩) 7 7)) ((hf44 3 rfl).trans ((hf37 3 rfl).trans hs20_3)) ?_)
            refine sx rfl (stp_indexAddr sl_IntS rfl hp46 rfl rfl ?_)
            refine sx rfl (stp_load_rg ld_int rfl rfl hr46 (Below.refl _ _) (i := 0) rfl rfl ?_)
            refine sx rfl (stp_eql rfl rfl ?_)
            refine sx rfl (stp_move (v := .bool (decide (((cnts (r.tasks.take k))[5]'hi9ea3c) = 0))) rfl ?_)
            iterate 4 refine sx_off (j := 4) (dd := 73) rfl rfl (by decide) (yl_off (e := decide (((cnts (r.tasks.take k))[5]'hi9ea3c) = 0)) rfl h55) ?_
            refine sx rfl (stp_pick_f (v := .bool false) ((rfl : _ = (.bool (decide (((cnts (r.tasks.take k))[5]'hi9ea3c) = 0)) : Value)).trans (congrArg Value.bool h55)) rfl ?_)
            refine sx rfl (stp_assign (v := .bool false) rfl ?_)
            refine sx_nil ?_
            refine sx_f rfl rfl ?_
            refine wp_skip ?_
            refine wp_seq ?_
            refine sx_region ?_
            refine sx rfl (stp_assign (v := I 0) rfl ?_)
            refine sx_nil ?_
            refine wp_ret ?_; repeat (first | refine then_ret ?_ | refine blk_ret ?_)
            refine ret1 Tryz.results157 rfl ?_
            exact ⟨(congrArg (fun z => Ending.returned (I z)) (by omega)), st41.bare⟩
          · skip
            have h55p := of_decide_eq_true h55
            refine sx_on (j := 4) (dd := 58) rfl rfl (by decide) (yl_on (e := decide (((cnts (r.tasks.take k))[5]'hi9ea3c) = 0)) rfl h55) (stp_move (v := (.slice (some ⟨b6, 0, none⟩) 7 7)) ((hf44 3 rfl).trans ((hf37 3 rfl).trans hs20_3)) ?_)
            have hi05ed7 : 6 < (cnts (r.tasks.take k)).length := (by omega)
            have hq_ := idx (own_Sl (st41.get 0 rfl)) (i := 6) hi05ed7
            obtain ⟨b56, o56, cs56, f56, hp56, hr56, hc56, hm56⟩ := hq_
            have hk56 := hc56
            obtain ⟨rfl, rfl, hok56⟩ := hk56
            refine sx_on (j := 4) (dd := 58) rfl rfl (by decide) (yl_on (e := decide (((cnts (r.tasks.take k))[5]'hi9ea3c) = 0)) rfl h55) (stp_indexAddr sl_IntS rfl hp56 rfl rfl ?_)
            refine sx_on (j := 4) (dd := 58) rfl rfl (by decide) (yl_on (e := decide (((cnts (r.tasks.take k))[5]'hi9ea3c) = 0)) rfl h55) (stp_load_rg ld_int rfl rfl hr56 (Below.refl _ _) (i := 0) rfl rfl ?_)
            refine sx_on (j := 4) (dd := 58) rfl rfl (by decide) (yl_on (e := decide (((cnts (r.tasks.take k))[5]'hi9ea3c) = 0)) rfl h55) (stp_gtr rfl rfl ?_)
            refine sx rfl (stp_pick_t (v := .bool (decide (0 < ((cnts (r.tasks.take k))[6]'hi05ed7)))) ((rfl : _ = (.bool (decide (((cnts (r.tasks.take k))[5]'hi9ea3c) = 0)) : Value)).trans (congrArg Value.bool h55)) rfl ?_)
            refine sx rfl (stp_move (v := .bool (decide (0 < ((cnts (r.tasks.take k))[6]'hi05ed7)))) rfl ?_)
            rcases bd (decide (0 < ((cnts (r.tasks.take k))[6]'hi05ed7))) with h57 | h57
            · skip
              have h57p := of_decide_eq_false h57
              iterate 2 refine sx_off (j := 10) (dd := 64) rfl rfl (by decide) (yl_off (e := decide (0 < ((cnts (r.tasks.take k))[6]'hi05ed7))) rfl h57) ?_
              refine sx rfl (stp_pick_f (v := .bool false) ((rfl : _ = (.bool (decide (0 < ((cnts (r.tasks.take k))[6]'hi05ed7))) : Value)).trans (congrArg Value.bool h57)) rfl ?_)
              refine sx rfl (stp_assign (v := .bool false) rfl ?_)
              refine sx_nil ?_
              refine sx_f rfl rfl ?_
              refine wp_seq ?_
              refine sx_region ?_
              refine sx rfl (stp_move (v := (.slice (some ⟨b6, 0, none⟩) 7 7)) ((hf44 3 rfl).trans ((hf37 3 rfl).trans hs20_3)) ?_)
              refine sx rfl (stp_indexAddr sl_IntS rfl hp46 rfl rfl ?_)
              refine sx rfl (stp_load_rg ld_int rfl rfl hr46 (Below.refl _ _) (i := 0) rfl rfl ?_)
              refine sx rfl (stp_eql rfl rfl ?_)
              refine sx rfl (stp_move (v := .bool (decide (((cnts (r.tasks.take k))[5]'hi9ea3c) = 0))) rfl ?_)
              refine sx_on (j := 4) (dd := 73) rfl rfl (by decide) (yl_on (e := decide (((cnts (r.tasks.take k))[5]'hi9ea3c) = 0)) rfl h55) (stp_move (v := (.slice (some ⟨b6, 0, none⟩) 7 7)) ((hf44 3 rfl).trans ((hf37 3 rfl).trans hs20_3)) ?_)
              refine sx_on (j := 4) (dd := 73) rfl rfl (by decide) (yl_on (e := decide (((cnts (r.tasks.take k))[5]'hi9ea3c) = 0)) rfl h55) (stp_indexAddr sl_IntS rfl hp56 rfl rfl ?_)
              refine sx_on (j := 4) (dd := 73) rfl rfl (by decide) (yl_on (e := decide (((cnts (r.tasks.take k))[5]'hi9ea3c) = 0)) rfl h55) (stp_load_rg ld_int rfl rfl hr56 (Below.refl _ _) (i := 0) rfl rfl ?_)
              refine sx_on (j := 4) (dd := 73) rfl rfl (by decide) (yl_on (e := decide (((cnts (r.tasks.take k))[5]'hi9ea3c) = 0)) rfl h55) (stp_eql rfl rfl ?_)
              refine sx rfl (stp_pick_t (v := .bool (decide (((cnts (r.tasks.take k))[6]'hi05ed7) = 0))) ((rfl : _ = (.bool (decide (((cnts (r.tasks.take k))[5]'hi9ea3c) = 0)) : Value)).trans (congrArg Value.bool h55)) rfl ?_)
              refine sx rfl (stp_assign (v := .bool (decide (((cnts (r.tasks.take k))[6]'hi05ed7) = 0))) rfl ?_)
              refine sx_nil ?_
              refine sx_if rfl (fun h58 => ?_) (fun h58 => ?_)
              · skip
                have h58p := of_decide_eq_true h58
                refine wp_seq ?_
                refine sx_region ?_
                refine sx rfl (stp_assign (v := I 1) rfl ?_)
                refine sx_nil ?_
                refine wp_ret ?_; repeat (first | refine then_ret ?_ | refine blk_ret ?_)
                refine ret1 Tryz.results157 rfl ?_
                exact ⟨(congrArg (fun z => Ending.returned (I z)) (by omega)), st41.bare⟩
              · skip
                have h58p := of_decide_eq_false h58
                refine wp_skip ?_
                refine wp_seq ?_
                refine sx_region ?_
                refine sx rfl (stp_assign (v := I 0) rfl ?_)
                refine sx_nil ?_
                refine wp_ret ?_; repeat (first | refine then_ret ?_ | refine blk_ret ?_)
                refine ret1 Tryz.results157 rfl ?_
                exact ⟨(congrArg (fun z => Ending.returned (I z)) (by omega)), st41.bare⟩
            · skip
              have h57p := of_decide_eq_true h57
              refine sx_on (j := 10) (dd := 64) rfl rfl (by decide) (yl_on (e := decide (0 < ((cnts (r.tasks.take k))[6]'hi05ed7))) rfl h57) (stp_move (v := I ((((cnts (r.tasks.take k))[1]'hi25f68) + ((cnts (r.tasks.take k))[2]'hi416b4)) + ((cnts (r.tasks.take k))[3]'hi98b8f))) ((hf44 5 rfl).trans (hv36 11 5 (by decide) rfl)) ?_)
              refine sx_on (j := 10) (dd := 64) rfl rfl (by decide) (yl_on (e := decide (0 < ((cnts (r.tasks.take k))[6]'hi05ed7))) rfl h57) (stp_eql rfl rfl ?_)
              refine sx rfl (stp_pick_t (v := .bool (decide (((((cnts (r.tasks.take k))[1]'hi25f68) + ((cnts (r.tasks.take k))[2]'hi416b4)) + ((cnts (r.tasks.take k))[3]'hi98b8f)) = 0))) ((rfl : _ = (.bool (decide (0 < ((cnts (r.tasks.take k))[6]'hi05ed7))) : Value)).trans (congrArg Value.bool h57)) rfl ?_)
              refine sx rfl (stp_assign (v := .bool (decide (((((cnts (r.tasks.take k))[1]'hi25f68) + ((cnts (r.tasks.take k))[2]'hi416b4)) + ((cnts (r.tasks.take k))[3]'hi98b8f)) = 0))) rfl ?_)
              refine sx_nil ?_
              refine sx_f rfl h54 ?_
              refine wp_seq ?_
              refine sx_region ?_
              refine sx rfl (stp_move (v := (.slice (some ⟨b6, 0, none⟩) 7 7)) ((hf44 3 rfl).trans ((hf37 3 rfl).trans hs20_3)) ?_)
              refine sx rfl (stp_indexAddr sl_IntS rfl hp46 rfl rfl ?_)
              refine sx rfl (stp_load_rg ld_int rfl rfl hr46 (Below.refl _ _) (i := 0) rfl rfl ?_)
              refine sx rfl (stp_eql rfl rfl ?_)
              refine sx rfl (stp_move (v := .bool (decide (((cnts (r.tasks.take k))[5]'hi9ea3c) = 0))) rfl ?_)
              refine sx_on (j := 4) (dd := 73) rfl rfl (by decide) (yl_on (e := decide (((cnts (r.tasks.take k))[5]'hi9ea3c) = 0)) rfl h55) (stp_move (v := (.slice (some ⟨b6, 0, none⟩) 7 7)) ((hf44 3 rfl).trans ((hf37 3 rfl).trans hs20_3)) ?_)
              refine sx_on (j := 4) (dd := 73) rfl rfl (by decide) (yl_on (e := decide (((cnts (r.tasks.take k))[5]'hi9ea3c) = 0)) rfl h55) (stp_indexAddr sl_IntS rfl hp56 rfl rfl ?_)
              refine sx_on (j := 4) (dd := 73) rfl rfl (by decide) (yl_on (e := decide (((cnts (r.tasks.take k))[5]'hi9ea3c) = 0)) rfl h55) (stp_load_rg ld_int rfl rfl hr56 (Below.refl _ _) (i := 0) rfl rfl ?_)
              refine sx_on (j := 4) (dd := 73) rfl rfl (by decide) (yl_on (e := decide (((cnts (r.tasks.take k))[5]'hi9ea3c) = 0)) rfl h55) (stp_eql rfl rfl ?_)
              refine sx rfl (stp_pick_t (v := .bool (decide (((cnts (r.tasks.take k))[6]'hi05ed7) = 0))) ((rfl : _ = (.bool (decide (((cnts (r.tasks.take k))[5]'hi9ea3c) = 0)) : Value)).trans (congrArg Value.bool h55)) rfl ?_)
              refine sx rfl (stp_assign (v := .bool (decide (((cnts (r.tasks.take k))[6]'hi05ed7) = 0))) rfl ?_)
              refine sx_nil ?_
              refine sx_if rfl (fun h59 => ?_) (fun h59 => ?_)
              · skip
                have h59p := of_decide_eq_true h59
                refine wp_seq ?_
                refine sx_region ?_
                refine sx rfl (stp_assign (v := I 1) rfl ?_)
                refine sx_nil ?_
                refine wp_ret ?_; repeat (first | refine then_ret ?_ | refine blk_ret ?_)
                refine ret1 Tryz.results157 rfl ?_
                exact ⟨(congrArg (fun z => Ending.returned (I z)) (by omega)), st41.bare⟩
              · skip
                have h59p := of_decide_eq_false h59
                refine wp_skip ?_
                refine wp_seq ?_
                refine sx_region ?_
                refine sx rfl (stp_assign (v := I 0) rfl ?_)
                refine sx_nil ?_
                refine wp_ret ?_; repeat (first | refine then_ret ?_ | refine blk_ret ?_)
                refine ret1 Tryz.results157 rfl ?_
                exact ⟨(congrArg (fun z => Ending.returned (I z)) (by omega)), st41.bare⟩
set_option maxHeartbeats 2000000 in
theorem RunOkS (w : World) {r : Run} {cs : List Value} {fp : List Nat} (hc : Shape.C w cs r fp) :
    Calls Tryz.prog 89 #[.agg cs.toArray] w fun e w' => e = .returned (.bool (runOk r)) ∧ St w w' [] := by
  have hcap : r.tasks.length ≤ 9223372036854775807 := by have h0 := hc; obtain ⟨v1, v2, f1, f2, h0, hok, h1, h2, hfp⟩ := h0; exact h2.len_le
  refine enter1 Tryz.func89 rfl Tryz.ntmps89 (by decide) ?_
  refine wp_seq ?_
  refine sx_region ?_
  refine sx rfl (stp_box_agg (cs := cs) rfl (St.start w) ?_); intro b1 W2 hb3 st4
  refine sx rfl (stp_assign (v := .bool false) rfl ?_)
  refine sx_nil ?_
  refine wp_seq ?_
  refine wp_seq ?_
  refine sx_region ?_
  refine sx rfl (stp_fieldAddr fa_Run_0 rfl ?_)
  have hk6 := hc
  obtain ⟨v6_0, v6_1, g6_0, g6_1, rfl, hok6, h6_0, h6_1, rfl⟩ := hk6
  refine sx rfl (stp_load_bx ld_int rfl rfl (st4.get 0 rfl) (i := 0) rfl rfl ?_)
  refine sx rfl (stp_call3 Tryz.func43 rfl rfl rfl rfl ((l01In_n W2 r.id 1 9999).mono ?_)); rintro _ W7 ⟨rfl, hk8⟩; refine ⟨_, rfl, ?_⟩
  have st9 := St.call st4 hk8
  refine sx rfl (stp_not rfl ?_)
  refine sx rfl (stp_move (v := .bool (!(inB r.id 1 9999))) rfl ?_)
  rcases bd (!(inB r.id 1 9999)) with h11 | h11
  · skip
    have h11p := inB_iff'.1 (bnot_f h11)
    refine sx_on (j := 4) (dd := 9) rfl rfl (by decide) (yl_on (e := !(inB r.id 1 9999)) rfl h11) (stp_fieldAddr fa_Run_1 rfl ?_)
    refine sx_on (j := 4) (dd := 9) rfl rfl (by decide) (yl_on (e := !(inB r.id 1 9999)) rfl h11) (stp_load_bxs (cs := [I r.plan.prio, I r.plan.most, I r.plan.wait, I r.plan.tasks, v6_0]) ld_Plan rfl rfl (st9.get 0 rfl) rfl rfl ?_)
    refine sx_on (j := 4) (dd := 9) rfl rfl (by decide) (yl_on (e := !(inB r.id 1 9999)) rfl h11) (stp_call1 Tryz.func155 rfl rfl ((PlanFaultS W7 (show Shape.C _ [I r.plan.prio, I r.plan.most, I r.plan.wait, I r.plan.tasks, v6_0] r.plan _ from ⟨_, _, rfl, (by first | exact True.intro | (simp only [Edge.ok, Plan.ok, Entry.ok, Task.ok, Run.ok, Yard.ok, Reply.ok, Deed.ok, Note.ok, Wait.ok, File.ok, Disk.ok, Engine.ok, WorldD.ok, ActD.ok, Hand.ok, Span.ok, Crew.ok, View.ok, I64] at *; omega)), (h6_0.below st9.below), rfl⟩)).mono ?_)); rintro _ W12 ⟨rfl, hk13⟩; refine ⟨_, rfl, ?_⟩
    have st14 := St.call st9 hk13
    refine sx_on (j := 4) (dd := 9) rfl rfl (by decide) (yl_on (e := !(inB r.id 1 9999)) rfl h11) (stp_neq rfl rfl ?_)
    refine sx rfl (stp_pick_f (v := .bool (!decide ((planFault r.plan) = 0))) ((rfl : _ = (.bool (!(inB r.id 1 9999)) : Value)).trans (congrArg Value.bool h11)) rfl ?_)
    refine sx rfl (stp_move (v := .bool (!decide ((planFault r.plan) = 0))) rfl ?_)
    rcases bd (!decide ((planFault r.plan) = 0)) with h16 | h16
    · skip
      have h16p := of_decide_eq_true (bnot_f h16)
      refine sx_on (j := 10) (dd := 15) rfl rfl (by decide) (yl_on (e := !decide ((planFault r.plan) = 0)) rfl h16) (stp_fieldAddr fa_Run_3 rfl ?_)
      refine sx_on (j := 10) (dd := 15) rfl rfl (by decide) (yl_on (e := !decide ((planFault r.plan) = 0)) rfl h16) (stp_load_bx ld_TaskS rfl rfl (st14.get 0 rfl) (i := 7) rfl rfl ?_)
      refine sx_on (j := 10) (dd := 15) rfl rfl (by decide) (yl_on (e := !decide ((planFault r.plan) = 0)) rfl h16) (stp_len sl_TaskS rfl h6_1 ?_)
      refine sx_on (j := 10) (dd := 15) rfl rfl (by decide) (yl_on (e := !decide ((planFault r.plan) = 0)) rfl h16) (stp_fieldAddr fa_Run_1 rfl ?_)
      refine sx_on (j := 10) (dd := 15) rfl rfl (by decide) (yl_on (e := !decide ((planFault r.plan) = 0)) rfl h16) (stp_fieldAddr fa_Plan_3 rfl ?_)
      refine sx_on (j := 10) (dd := 15) rfl rfl (by decide) (yl_on (e := !decide ((planFault r.plan) = 0)) rfl h16) (stp_load_bx ld_int rfl rfl (st14.get 0 rfl) (i := 4) rfl rfl ?_)
      refine sx_on (j := 10) (dd := 15) rfl rfl (by decide) (yl_on (e := !decide ((planFault r.plan) = 0)) rfl h16) (stp_neq rfl rfl ?_)
      refine sx rfl (stp_pick_f (v := .bool (!decide ((r.tasks.length : Int) = r.plan.tasks))) ((rfl : _ = (.bool (!decide ((planFault r.plan) = 0)) : Value)).trans (congrArg Value.bool h16)) rfl ?_)
      refine sx_nil ?_
      refine sx_if rfl (fun h17 => ?_) (fun h17 => ?_)
      · skip
        have h17p := of_decide_eq_false (bnot_t h17)
        refine wp_seq ?_
        refine sx_region ?_
        refine sx rfl (stp_assign (v := .bool false) rfl ?_)
        refine sx_nil ?_
        refine wp_ret ?_; repeat (first | refine then_ret ?_ | refine blk_ret ?_)
        refine ret1 Tryz.results89 rfl ?_
        exact ⟨(congrArg (fun z => Ending.returned (.bool z)) (by unfold runOk; rw [pB_f (by rintro ⟨hz1, hz2, hz3, hz4, hz5, hz6⟩; omega)])), st14.bare⟩
      · skip
        have h17p := of_decide_eq_true (bnot_f h17)
        refine wp_skip ?_
        refine wp_seq ?_
        refine wp_seq ?_
        refine sx_region ?_
        have hP : planFault r.plan = 0 := by omega
        have hMb := pM (pf_ok hP).1
        refine sx rfl (stp_assign (v := I 0) rfl ?_)
        refine sx_nil ?_
        refine wp_block ?_
        refine sx_loop (fun (m : Nat) (f : Nat → Value) (W : World) => ∃ (i : Nat), i ≤ r.tasks.length ∧ (∀ t ∈ r.tasks.take i, 1 ≤ t.state ∧ t.state ≤ 6) ∧ m = r.tasks.length - i ∧ f 1 = .pointer (some ⟨b1, 0, none⟩) ∧ f 3 = I (i : Int) ∧ St w W ([Res.bx b1 [I r.id, I r.plan.prio, I r.plan.most, I r.plan.wait, I r.plan.tasks, v6_0, I r.state, v6_1] 123])) (r.tasks.length - 0) ?_ ?_
        · exact ⟨0, (by omega), (by simp), rfl, rfl, rfl, st14⟩
        intro m18 f19 W20 hJ21
        obtain ⟨i, hk, hSk, rfl, hs23_1, hs23_3, st22⟩ := hJ21
        refine wp_seq ?_
        refine wp_seq ?_
        refine sx_region ?_
        refine sx rfl (stp_move (v := I (i : Int)) hs23_3 ?_)
        refine sx rfl (stp_fieldAddr fa_Run_3 hs23_1 ?_)
        refine sx rfl (stp_load_bx ld_TaskS rfl rfl (st22.get 0 rfl) (i := 7) rfl rfl ?_)
        refine sx rfl (stp_len sl_TaskS rfl h6_1 ?_)
        refine sx rfl (stp_lss rfl rfl ?_)
        refine sx_nil ?_
        refine sx_if rfl (fun h24 => ?_) (fun h24 => ?_)
        · skip
          have h24p := of_decide_eq_true h24
          refine wp_skip ?_
          refine wp_seq ?_
          refine wp_block ?_
          refine wp_seq ?_
          refine sx_region ?_
          refine sx rfl (stp_fieldAddr fa_Run_3 hs23_1 ?_)
          refine sx rfl (stp_load_bx ld_TaskS rfl rfl (st22.get 0 rfl) (i := 7) rfl rfl ?_)
          refine sx rfl (stp_move (v := I (i : Int)) hs23_3 ?_)
          have hi4283f : i < r.tasks.length := (by omega)
          have hq_ := idx h6_1 (i := i) hi4283f
          obtain ⟨b25, o25, cs25, f25, hp25, hr25, hc25, hm25⟩ := hq_
          refine sx rfl (stp_indexAddr sl_TaskS rfl hp25 rfl rfl ?_)
          refine sx rfl (stp_fieldAddr fa_Task_0 rfl ?_)
          have hk26 := hc25
          obtain ⟨he26, rfl, hok26⟩ := hk26
          have he26 : _ = [I (r.tasks[i]'hi4283f).state, I (r.tasks[i]'hi4283f).need, I (r.tasks[i]'hi4283f).try_, I (r.tasks[i]'hi4283f).until_] := he26
          subst he26
          refine sx rfl (stp_load_rg ld_int rfl rfl hr25 st22.below (i := 0) rfl rfl ?_)
          refine sx rfl (stp_call3 Tryz.func43 rfl rfl rfl rfl ((l01In_n W20 (r.tasks[i]'hi4283f).state 1 6).mono ?_)); rintro _ W27 ⟨rfl, hk28⟩; refine ⟨_, rfl, ?_⟩
          have st29 := St.call st22 hk28
          refine sx rfl (stp_not rfl ?_)
          refine sx_nil ?_
          refine sx_if rfl (fun h31 => ?_) (fun h31 => ?_)
          · skip
            have h31p := inB_not (bnot_t h31)
            refine wp_seq ?_
            refine sx_region ?_
            refine sx rfl (stp_assign (v := .bool false) rfl ?_)
            refine sx_nil ?_
            refine wp_ret ?_; repeat (first | refine then_ret ?_ | refine blk_ret ?_)
            refine ret1 Tryz.results89 rfl ?_
            exact ⟨(congrArg (fun z => Ending.returned (.bool z)) (by unfold runOk; rw [pB_f (fun hz => by have hz2 := (hz.2.2.2.1 i (by omega) (by omega)).1; omega)])), st29.bare⟩
          · skip
            have h31p := inB_iff'.1 (bnot_f h31)
            refine wp_skip ?_
            refine sx_region ?_
            refine sx rfl (stp_move (v := I (i : Int)) hs23_3 ?_)
            refine sx rfl (stp_add rfl rfl (by (simp only [I64] at *; omega)) ?_)
            skip
            skip
            refine sx rfl (stp_assign (v := I ((i : Int) + 1)) rfl ?_)
            refine sx_nil ?_
            exact ⟨_, r.tasks.length - (i + 1), (by omega), rfl, i + 1, (by omega), (fun t ht => by rw [List.take_succ_eq_append_getElem (by omega)] at ht; rcases List.mem_append.1 ht with h1 | h1; exact hSk t h1; rw [List.mem_singleton] at h1; subst h1; omega), rfl, hs23_1, rfl, st29⟩
        · skip
          have h24p := of_decide_eq_false h24
          refine wp_exit ?_
          refine wp_seq ?_
          refine wp_seq ?_
          refine sx_region ?_
          have hS : ∀ t ∈ r.tasks, 1 ≤ t.state ∧ t.state ≤ 6 := by rw [show i = r.tasks.length by omega, List.take_length] at hSk; exact hSk
          refine sx rfl (stp_assign (v := I 0) rfl ?_)
          refine sx_nil ?_
          refine wp_block ?_
          refine sx_loop (fun (m : Nat) (f : Nat → Value) (W : World) => ∃ (k : Nat), k ≤ r.tasks.length ∧ (∀ j, j < k → taskOkK r j) ∧ m = r.tasks.length - k ∧ f 1 = .pointer (some ⟨b1, 0, none⟩) ∧ f 4 = I (k : Int) ∧ St w W ([Res.bx b1 [I r.id, I r.plan.prio, I r.plan.most, I r.plan.wait, I r.plan.tasks, v6_0, I r.state, v6_1] 123])) (r.tasks.length - 0) ?_ ?_
          · exact ⟨0, (by omega), (fun j hj => absurd hj (Nat.not_lt_zero j)), rfl, hs23_1, rfl, st22⟩
          intro m32 f33 W34 hJ35
          obtain ⟨k, hk, hT, rfl, hs37_1, hs37_4, st36⟩ := hJ35
          refine wp_seq ?_
          refine wp_seq ?_
          refine sx_region ?_
          refine sx rfl (stp_move (v := I (k : Int)) hs37_4 ?_)
          refine sx rfl (stp_fieldAddr fa_Run_3 hs37_1 ?_)
          refine sx rfl (stp_load_bx ld_TaskS rfl rfl (st36.get 0 rfl) (i := 7) rfl rfl ?_)
          refine sx rfl (stp_len sl_TaskS rfl h6_1 ?_)
          refine sx rfl (stp_lss rfl rfl ?_)
          refine sx_nil ?_
          refine sx_if rfl (fun h38 => ?_) (fun h38 => ?_)
          · skip
            have h38p := of_decide_eq_true h38
            refine wp_skip ?_
            refine wp_seq ?_
            refine wp_block ?_
            refine wp_seq ?_
            refine sx_region ?_
            refine sx rfl (stp_load_bxs (cs := [I r.id, I r.plan.prio, I r.plan.most, I r.plan.wait, I r.plan.tasks, v6_0, I r.state, v6_1]) ld_Run rfl hs37_1 (st36.get 0 rfl) rfl rfl ?_)
            refine sx rfl (stp_move (v := I (k : Int)) hs37_4 ?_)
            refine sx rfl (stp_call2 Tryz.func156 rfl rfl rfl ((TaskOkS W34 (C_below hc st36.below) (k := k) (by omega) (by omega) (by omega) (hS _ (List.getElem_mem _))).mono ?_)); rintro _ W39 ⟨rfl, hk40⟩; refine ⟨_, rfl, ?_⟩
            have st41 := St.call st36 hk40
            refine sx rfl (stp_not rfl ?_)
            refine sx_nil ?_
            refine sx_if rfl (fun h43 => ?_) (fun h43 => ?_)
            · skip
              refine wp_seq ?_
              refine sx_region ?_
              refine sx rfl (stp_assign (v := .bool false) rfl ?_)
              refine sx_nil ?_
              refine wp_ret ?_; repeat (first | refine then_ret ?_ | refine blk_ret ?_)
              refine ret1 Tryz.results89 rfl ?_
              exact ⟨(congrArg (fun z => Ending.returned (.bool z)) (by unfold runOk; rw [pB_f (fun hz => pB_not (bnot_t h43) (hz.2.2.2.1 k (by omega) (by omega)))])), st41.bare⟩
            · skip
              refine wp_skip ?_
              refine sx_region ?_
              refine sx rfl (stp_move (v := I (k : Int)) hs37_4 ?_)
              refine sx rfl (stp_add rfl rfl (by (simp only [I64] at *; omega)) ?_)
              skip
              refine sx rfl (stp_assign (v := I ((k : Int) + 1)) rfl ?_)
              refine sx_nil ?_
              exact ⟨_, r.tasks.length - (k + 1), (by omega), rfl, k + 1, (by omega), (fun j hj => by rcases Nat.lt_succ_iff_lt_or_eq.1 hj with h1 | rfl; exact hT j h1; exact fun _ => pB_iff.1 ((bnot_f h43))), rfl, hs37_1, rfl, st41⟩
          · skip
            have h38p := of_decide_eq_false h38
            refine wp_exit ?_
            refine wp_seq ?_
            rcases bd (decide (r.state = (stateOf r.tasks))) with h44 | h44
            · skip
              have h44p := of_decide_eq_false h44
              have hTk : ∀ j, j < r.tasks.length → taskOkK r j := by rw [show k = r.tasks.length by omega] at hT; exact hT
              refine sx_any [Pl.is (.pointer (some ⟨b1, 0 + 6, none⟩)), Pl.is (I r.state), Pl.is (.agg #[I r.id, I r.plan.prio, I r.plan.most, I r.plan.wait, I r.plan.tasks, v6_0, I r.state, v6_1]), Pl.is (I (stateOf r.tasks)), Pl.bool false, Pl.bool false, Pl.off, Pl.off, Pl.off, Pl.bool false, Pl.bool false] mix (by rfl) st36 ⟨(fun f W hst hbl hd hf => stp_fieldAddr fa_Run_2 ((hf 1 rfl).trans hs37_1) ⟨Below.refl _ _, rfl⟩), (fun f W hst hbl hd hf => stp_load_bx ld_int rfl (hd 0 50 rfl rfl) (hst.get 0 rfl) (i := 6) rfl rfl ⟨Below.refl _ _, rfl⟩), (fun f W hst hbl hd hf => stp_load_bxs (cs := [I r.id, I r.plan.prio, I r.plan.most, I r.plan.wait, I r.plan.tasks, v6_0, I r.state, v6_1]) ld_Run rfl ((hf 1 rfl).trans hs37_1) (hst.get 0 rfl) rfl rfl ⟨Below.refl _ _, rfl⟩), (fun f W hst hbl hd hf => stp_call1 Tryz.func157 rfl (hd 2 52 rfl rfl) ((StateS W (C_below hc hst.below) hS (by omega)).mono (by rintro e W2 ⟨rfl, hk⟩; exact ⟨_, rfl, hk.below, rfl⟩))), (fun f W hst hbl hd hf => stp_eql (hd 1 51 rfl rfl) (hd 3 53 rfl rfl) ⟨Below.refl _ _, congrArg Value.bool h44⟩), (fun f W hst hbl hd hf => stp_move (v := .bool false) (hd 4 54 rfl rfl) ⟨Below.refl _ _, rfl⟩), (fun f W hst hbl hd hf => rfl), (fun f W hst hbl hd hf => rfl), (fun f W hst hbl hd hf => rfl), (fun f W hst hbl hd hf => stp_pick_f (v := .bool false) (hd 5 55 rfl rfl) rfl ⟨Below.refl _ _, rfl⟩), (fun f W hst hbl hd hf => stp_assign (v := .bool false) (hd 9 59 rfl rfl) ⟨Below.refl _ _, rfl⟩), trivial⟩ ?_
              intro f45 W46 st47 hb48 hv49 hf50
              refine wp_ret ?_; repeat (first | refine then_ret ?_ | refine blk_ret ?_)
              refine ret1 Tryz.results89 (hv49 10 2 (by decide) rfl) ?_
              exact ⟨(congrArg (fun z => Ending.returned (.bool z)) (by unfold runOk; rw [pB_f (by rintro ⟨hz1, hz2, hz3, hz4, hz5, hz6⟩; omega)])), st47.bare⟩
            · skip
              have h44p := of_decide_eq_true h44
              have hTk : ∀ j, j < r.tasks.length → taskOkK r j := by rw [show k = r.tasks.length by omega] at hT; exact hT
              refine sx_any [Pl.is (.pointer (some ⟨b1, 0 + 6, none⟩)), Pl.is (I r.state), Pl.is (.agg #[I r.id, I r.plan.prio, I r.plan.most, I r.plan.wait, I r.plan.tasks, v6_0, I r.state, v6_1]), Pl.is (I (stateOf r.tasks)), Pl.bool true, Pl.bool true, Pl.is (.pointer (some ⟨b1, 0 + 6, none⟩)), Pl.is (I r.state), Pl.bool (!decide (r.state = 0)), Pl.bool (!decide (r.state = 0)), Pl.bool (!decide (r.state = 0))] mix (by rfl) st36 ⟨(fun f W hst hbl hd hf => stp_fieldAddr fa_Run_2 ((hf 1 rfl).trans hs37_1) ⟨Below.refl _ _, rfl⟩), (fun f W hst hbl hd hf => stp_load_bx ld_int rfl (hd 0 50 rfl rfl) (hst.get 0 rfl) (i := 6) rfl rfl ⟨Below.refl _ _, rfl⟩), (fun f W hst hbl hd hf => stp_load_bxs (cs := [I r.id, I r.plan.prio, I r.plan.most, I r.plan.wait, I r.plan.tasks, v6_0, I r.state, v6_1]) ld_Run rfl ((hf 1 rfl).trans hs37_1) (hst.get 0 rfl) rfl rfl ⟨Below.refl _ _, rfl⟩), (fun f W hst hbl hd hf => stp_call1 Tryz.func157 rfl (hd 2 52 rfl rfl) ((StateS W (C_below hc hst.below) hS (by omega)).mono (by rintro e W2 ⟨rfl, hk⟩; exact ⟨_, rfl, hk.below, rfl⟩))), (fun f W hst hbl hd hf => stp_eql (hd 1 51 rfl rfl) (hd 3 53 rfl rfl) ⟨Below.refl _ _, congrArg Value.bool h44⟩), (fun f W hst hbl hd hf => stp_move (v := .bool true) (hd 4 54 rfl rfl) ⟨Below.refl _ _, rfl⟩), (fun f W hst hbl hd hf => stp_fieldAddr fa_Run_2 ((hf 1 rfl).trans hs37_1) ⟨Below.refl _ _, rfl⟩), (fun f W hst hbl hd hf => stp_load_bx ld_int rfl (hd 6 56 rfl rfl) (hst.get 0 rfl) (i := 6) rfl rfl ⟨Below.refl _ _, rfl⟩), (fun f W hst hbl hd hf => stp_neq (hd 7 57 rfl rfl) rfl ⟨Below.refl _ _, rfl⟩), (fun f W hst hbl hd hf => stp_pick_t (v := .bool (!decide (r.state = 0))) (hd 5 55 rfl rfl) (hd 8 58 rfl rfl) ⟨Below.refl _ _, rfl⟩), (fun f W hst hbl hd hf => stp_assign (v := .bool (!decide (r.state = 0))) (hd 9 59 rfl rfl) ⟨Below.refl _ _, rfl⟩), trivial⟩ ?_
              intro f51 W52 st53 hb54 hv55 hf56
              rcases bd (!decide (r.state = 0)) with h57 | h57
              · skip
                have h57p := of_decide_eq_true (bnot_f h57)
                refine wp_ret ?_; repeat (first | refine then_ret ?_ | refine blk_ret ?_)
                refine ret1 Tryz.results89 ((hv55 10 2 (by decide) rfl).trans (congrArg Value.bool h57)) ?_
                exact ⟨(congrArg (fun z => Ending.returned (.bool z)) (by unfold runOk; rw [pB_f (by rintro ⟨hz1, hz2, hz3, hz4, hz5, hz6⟩; omega)])), st53.bare⟩
              · skip
                have h57p := of_decide_eq_false (bnot_t h57)
                refine wp_ret ?_; repeat (first | refine then_ret ?_ | refine blk_ret ?_)
                refine ret1 Tryz.results89 ((hv55 10 2 (by decide) rfl).trans (congrArg Value.bool h57)) ?_
                exact ⟨(congrArg (fun z => Ending.returned (.bool z)) (by unfold runOk; rw [pB_t ⟨by omega, by omega, by omega, hTk, by omega, by omega⟩])), st53.bare⟩
    · skip
      have h16p := of_decide_eq_false (bnot_t h16)
      iterate 7 refine sx_off (j := 10) (dd := 15) rfl rfl (by decide) (yl_off (e := !decide ((planFault r.plan) = 0)) rfl h16) ?_
      refine sx rfl (stp_pick_t (v := .bool true) ((rfl : _ = (.bool (!decide ((planFault r.plan) = 0)) : Value)).trans (congrArg Value.bool h16)) rfl ?_)
      refine sx_nil ?_
      refine sx_t rfl rfl ?_
      refine wp_seq ?_
      refine sx_region ?_
      refine sx rfl (stp_assign (v := .bool false) rfl ?_)
      refine sx_nil ?_
      refine wp_ret ?_; repeat (first | refine then_ret ?_ | refine blk_ret ?_)
      refine ret1 Tryz.results89 rfl ?_
      exact ⟨(congrArg (fun z => Ending.returned (.bool z)) (by unfold runOk; rw [pB_f (by rintro ⟨hz1, hz2, hz3, hz4, hz5, hz6⟩; omega)])), st14.bare⟩
  · skip
    have h11p := inB_not (bnot_t h11)
    iterate 4 refine sx_off (j := 4) (dd := 9) rfl rfl (by decide) (yl_off (e := !(inB r.id 1 9999)) rfl h11) ?_
    refine sx rfl (stp_pick_t (v := .bool true) ((rfl : _ = (.bool (!(inB r.id 1 9999)) : Value)).trans (congrArg Value.bool h11)) rfl ?_)
    refine sx rfl (stp_move (v := .bool true) rfl ?_)
    iterate 7 refine sx_off (j := 10) (dd := 15) rfl rfl (by decide) (yl_off (e := true) rfl rfl) ?_
    refine sx rfl (stp_pick_t (v := .bool true) rfl rfl ?_)
    refine sx_nil ?_
    refine sx_t rfl rfl ?_
    refine wp_seq ?_
    refine sx_region ?_
    refine sx rfl (stp_assign (v := .bool false) rfl ?_)
    refine sx_nil ?_
    refine wp_ret ?_; repeat (first | refine then_ret ?_ | refine blk_ret ?_)
    refine ret1 Tryz.results89 rfl ?_
    exact ⟨(congrArg (fun z => Ending.returned (.bool z)) (by unfold runOk; rw [pB_f (by rintro ⟨hz1, hz2, hz3, hz4, hz5, hz6⟩; omega)])), st9.bare⟩
end Go.Proofs.YtchnllpegfbleaaGreat
