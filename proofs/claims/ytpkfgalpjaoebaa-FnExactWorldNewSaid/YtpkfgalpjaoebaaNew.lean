/-
  A new yard, engine, world. (Printed by a program of this project's.)
-/
import Derived.Test.YtpkfgalpjaoebaaSxNew
import Derived.Test.YtpkfgalpjaoebaaKBase
namespace Go.Proofs.Ytpkfgalpjaoebaa
set_option linter.unusedSimpArgs false
set_option linter.unusedVariables false
set_option maxRecDepth 100000
open Go.RowKit


def yardNew : Yard := ⟨0, 1, List.replicate 4 [], []⟩
def engineNew : Engine := ⟨yardNew, ⟨[]⟩, 1, 0, [], 1, false⟩
def worldNew : WorldD := ⟨engineNew, [], [], 0, 0⟩

set_option maxHeartbeats 2000000 in
theorem YardNewI (w : World) :
    Calls Try.prog 68 #[] w fun e w' => ∃ (cs' : List Value) (fp' : List Nat), e = .returned (.agg cs'.toArray) ∧ St w w' [Res.own (.agg cs'.toArray) yardNew fp'] := by
  refine enter0 Try.func68 rfl Try.ntmps68 (by decide) ?_
  refine wp_seq ?_
  refine sx_region ?_
  refine sx rfl (stp_alloc zz_Yard (St.start w) ?_); intro b1 W2 hb3 st4
  refine sx_nil ?_
  refine wp_seq ?_
  refine sx_region ?_
  refine sx rfl (stp_makeZ (α := (List Entry)) (N := 4) (v := .slice none 0 0) (z := ([] : List Entry)) ap_EntrySS (by kernel_rfl) rfl rfl (by omega) (by omega) st4 (fun W => ⟨_, rfl, nil_Sl⟩) ?_); intro b6 fp10 W7 hb8 st9
  refine sx rfl (stp_build (vs := [(1, I 1), (2, (.slice (some ⟨b6, 0, none⟩) 4 4))]) (cs := [I 0, I 1, (.slice (some ⟨b6, 0, none⟩) 4 4), .slice none 0 0]) (pcons (v := I 1) rfl (pcons (v := (.slice (some ⟨b6, 0, none⟩) 4 4)) rfl pnil)) (by kernel_rfl) ?_)
  have st12 := st9.f1
  refine sx rfl (stp_store_agg (cs := [I 0, I 1, (.slice (some ⟨b6, 0, none⟩) 4 4), .slice none 0 0]) (C' := [I 0, I 1, (.slice (some ⟨b6, 0, none⟩) 4 4), .slice none 0 0]) (by kernel_rfl) rfl rfl (one_cons rfl (one_cons rfl (one_cons (Sl.one (own_Sl (st12.get 1 rfl))) (one_cons rfl one_nil)))) st12 (Nat.le_of_ble_eq_true rfl) rfl ?_); intro W13 st14
  refine sx_nil ?_
  refine wp_ret ?_; repeat (first | refine then_ret ?_ | refine blk_ret ?_)
  refine retc1 ld_Yard rfl Try.results68 rfl (st14.get 0 rfl) rfl ?_
  have st15 := St.own_nil (α := Run) st14
  have st17 := st15.f2
  have st18 := shut_Yard (x := yardNew) st17 (by simp [worldNew, engineNew, yardNew, WorldD.ok, Engine.ok, Yard.ok, Disk.ok, I64])
  exact ⟨_, _, rfl, st18.only 0 rfl⟩
set_option maxHeartbeats 2000000 in
theorem YardNewS (w : World) :
    Calls Try.prog 67 #[] w fun e w' => ∃ (cs' : List Value) (fp' : List Nat), e = .returned (.agg cs'.toArray) ∧ St w w' [Res.own (.agg cs'.toArray) yardNew fp'] := by
  refine enter0 Try.func67 rfl Try.ntmps67 (by decide) ?_
  refine wp_seq ?_
  refine sx_region ?_
  refine sx rfl (stp_alloc zz_Yard (St.start w) ?_); intro b1 W2 hb3 st4
  refine sx_nil ?_
  refine wp_seq ?_
  refine sx_region ?_
  refine sx rfl (stp_build (vs := [(1, I 1)]) (cs := [I 0, I 1, .slice none 0 0, .slice none 0 0]) (pcons (v := I 1) rfl pnil) (by kernel_rfl) ?_)
  refine sx rfl (stp_alloc zz_Yard st4 ?_); intro b6 W7 hb8 st9
  refine sx rfl (stp_store_agg (cs := [I 0, I 1, .slice none 0 0, .slice none 0 0]) (C' := [I 0, I 1, .slice none 0 0, .slice none 0 0]) (by kernel_rfl) rfl rfl (one_cons rfl (one_cons rfl (one_cons rfl (one_cons rfl one_nil)))) st9 (Nat.le_of_ble_eq_true rfl) rfl ?_); intro W11 st12
  refine sx_nil ?_
  refine wp_seq ?_
  refine wp_seq ?_
  refine sx_region ?_
  have st13 := st12.row_nil (α := List Entry) 103
  skip
  refine sx rfl (stp_assign (v := I 0) rfl ?_)
  refine sx_nil ?_
  refine wp_block ?_
  refine sx_loop (fun (m : Nat) (f : Nat → Value) (W : World) => ∃ (k : Nat) (v15 : Value), k ≤ 4 ∧ m = 4 - k ∧ f 0 = .pointer (some ⟨b1, 0, none⟩) ∧ f 1 = .pointer (some ⟨b6, 0, none⟩) ∧ f 2 = I (k : Int) ∧ St w W ([Res.row (α := (List Entry)) 103 v15 (List.replicate k ([] : List Entry)) [], Res.bx b6 [I 0, I 1, v15, .slice none 0 0] 32, Res.bx b1 [I 0, I 0, .slice none 0 0, .slice none 0 0] 32])) (4 - 0) ?_ ?_
  · exact ⟨0, (.slice none 0 0), (by omega), rfl, rfl, rfl, rfl, st13⟩
  intro m16 f17 W18 hJ19
  obtain ⟨k, v15, hcd21_0, rfl, hs21_0, hs21_1, hs21_2, st20⟩ := hJ19
  refine wp_seq ?_
  refine wp_seq ?_
  refine sx_region ?_
  refine sx rfl (stp_move (v := I (k : Int)) hs21_2 ?_)
  refine sx rfl (stp_lss rfl rfl ?_)
  refine sx_nil ?_
  refine sx_if rfl (fun h22 => ?_) (fun h22 => ?_)
  · skip
    have h22p := of_decide_eq_true h22
    refine wp_skip ?_
    refine wp_seq ?_
    refine wp_block ?_
    refine sx_region ?_
    refine sx rfl (stp_fieldAddr fa_Yard_2 hs21_1 ?_)
    refine sx rfl (stp_load_bx ld_EntrySS rfl rfl (st20.get 1 rfl) (i := 2) rfl rfl ?_)
    refine sx rfl (stp_buildSlice (cs := []) (e := 133) pnil (run_buildSlice0 ap_EntryS _) st20 ?_); intro b23 W24 hb25 st26
    have st26 := st26.row_empty (α := Entry)
    refine sx rfl (stp_buildSlice (cs := [(.slice (some ⟨b23, 0, none⟩) 0 0)]) (e := 103) (pcons (v := (.slice (some ⟨b23, 0, none⟩) 0 0)) rfl pnil) (run_buildSlice1 ap_EntrySS _ _ rfl rfl (by decide)) st26 ?_); intro b28 W29 hb30 st31
    have st33 := st31.f2
    refine sx rfl (stp_append_bx (ys := [[]]) ap_EntrySS rfl rfl rfl st33 (Elems.one1 ⟨_, rfl, row_Sl0 (st33.get 2 rfl)⟩) (by rw [List.length_replicate]; unfold maxLen; omega) (by rw [List.length_replicate]; omega) ?_); intro v34 W35 st36
    refine sx rfl (stp_fieldAddr fa_Yard_2 hs21_1 ?_)
    have st37 := st36.f2
    refine sx rfl (stp_store_one (v := v34) (C' := [I 0, I 1, v34, .slice none 0 0]) (by kernel_rfl) rfl rfl (Sl.cells (row_Sl (st37.get 1 rfl))) (Sl.one (row_Sl (st37.get 1 rfl))) st37 (Nat.le_of_ble_eq_true rfl) rfl ?_); intro W38 st39
    refine sx_nil ?_
    refine sx_region ?_
    refine sx rfl (stp_move (v := I (k : Int)) hs21_2 ?_)
    refine sx rfl (stp_add rfl rfl (by (simp only [I64] at *; omega)) ?_)
    have st40 := st39.row_nil (α := List Entry) 103
    skip
    refine sx rfl (stp_assign (v := I ((k : Int) + 1)) rfl ?_)
    refine sx_nil ?_
    have st42 := st40.f4
    have st43 := st42.f2
    have st44 := st43.f3
    have st45 := st44.d3
    have st46 := st45.d3
    exact ⟨_, 4 - (k + 1), (by omega), rfl, k + 1, v34, (by omega), rfl, hs21_0, hs21_1, rfl, (by rw [List.replicate_succ']; exact st46)⟩
  · skip
    have h22p := of_decide_eq_false h22
    refine wp_exit ?_
    refine wp_seq ?_
    refine sx_region ?_
    refine sx rfl (stp_load_bxs (cs := [I 0, I 1, v15, .slice none 0 0]) ld_Yard rfl hs21_1 (st20.get 1 rfl) rfl rfl ?_)
    have st47 := st20.f2
    refine sx rfl (stp_store_agg (cs := [I 0, I 1, v15, .slice none 0 0]) (C' := [I 0, I 1, v15, .slice none 0 0]) (by kernel_rfl) hs21_0 rfl (one_cons rfl (one_cons rfl (one_cons (Sl.one (row_Sl (st47.get 1 rfl))) (one_cons rfl one_nil)))) st47 (Nat.le_of_ble_eq_true rfl) rfl ?_); intro W48 st49
    refine sx_nil ?_
    refine wp_ret ?_; repeat (first | refine then_ret ?_ | refine blk_ret ?_)
    refine retc1 ld_Yard rfl Try.results67 hs21_0 (st49.get 0 rfl) rfl ?_
    obtain rfl : k = 4 := by omega
    have st50 := st49.f1
    have hq_ := st50.shut
    obtain ⟨fp52, st51⟩ := hq_
    have st53 := St.own_nil (α := Run) st51
    have st55 := st53.f1
    have st56 := shut_Yard (x := yardNew) st55 (by simp [yardNew, Yard.ok, I64])
    exact ⟨_, _, rfl, st56.only 0 rfl⟩
set_option maxHeartbeats 2000000 in
theorem EngineNewI (w : World) :
    Calls Try.prog 44 #[] w fun e w' => ∃ (cs' : List Value) (fp' : List Nat), e = .returned (.agg cs'.toArray) ∧ St w w' [Res.own (.agg cs'.toArray) engineNew fp'] := by
  refine enter0 Try.func44 rfl Try.ntmps44 (by decide) ?_
  refine wp_seq ?_
  refine sx_region ?_
  refine sx rfl (stp_alloc zz_Engine (St.start w) ?_); intro b1 W2 hb3 st4
  refine sx_nil ?_
  refine wp_seq ?_
  refine sx_region ?_
  refine sx rfl (stp_call0 Try.func68 rfl  ((YardNewI W2 ).mono ?_)); rintro _ W8 ⟨cs6, fp6, rfl, hk9⟩; refine ⟨_, rfl, ?_⟩
  have st10 := St.call st4 hk9
  have hq_ := open_Yard st10
  obtain ⟨v12_0, v12_1, g12_0, g12_1, he12, hok12, st13⟩ := hq_
  subst he12
  refine sx rfl (stp_build (vs := [(0, .agg #[I yardNew.now, I yardNew.seq, v12_0, v12_1]), (2, I 1), (5, I 1)]) (cs := [I yardNew.now, I yardNew.seq, v12_0, v12_1, .slice none 0 0, I 1, I 0, .slice none 0 0, I 1, .bool false]) (pcons (v := .agg #[I yardNew.now, I yardNew.seq, v12_0, v12_1]) rfl (pcons (v := I 1) rfl (pcons (v := I 1) rfl pnil))) (by kernel_rfl) ?_)
  have st16 := st13.f2
  refine sx rfl (stp_store_agg (cs := [I yardNew.now, I yardNew.seq, v12_0, v12_1, .slice none 0 0, I 1, I 0, .slice none 0 0, I 1, .bool false]) (C' := [I yardNew.now, I yardNew.seq, v12_0, v12_1, .slice none 0 0, I 1, I 0, .slice none 0 0, I 1, .bool false]) (by kernel_rfl) rfl rfl (one_cons rfl (one_cons rfl (one_cons (Sl.one (own_Sl (st16.get 1 rfl))) (one_cons (Sl.one (own_Sl (st16.get 2 rfl))) (one_cons rfl (one_cons rfl (one_cons rfl (one_cons rfl (one_cons rfl (one_cons rfl one_nil)))))))))) st16 (Nat.le_of_ble_eq_true rfl) rfl ?_); intro W17 st18
  refine sx_nil ?_
  refine wp_ret ?_; repeat (first | refine then_ret ?_ | refine blk_ret ?_)
  refine retc1 ld_Engine rfl Try.results44 rfl (st18.get 0 rfl) rfl ?_
  have st19 := St.own_nil (α := File) st18
  have st21 := St.own_nil (α := Wait) st19
  have st23 := st21.f1
  have st24 := st23.f4
  have st25 := st24.f4
  have st26 := shut_Engine (x := engineNew) st25 (by simp [worldNew, engineNew, yardNew, WorldD.ok, Engine.ok, Yard.ok, Disk.ok, I64])
  exact ⟨_, _, rfl, st26.only 0 rfl⟩
set_option maxHeartbeats 2000000 in
theorem EngineNewS (w : World) :
    Calls Try.prog 43 #[] w fun e w' => ∃ (cs' : List Value) (fp' : List Nat), e = .returned (.agg cs'.toArray) ∧ St w w' [Res.own (.agg cs'.toArray) engineNew fp'] := by
  refine enter0 Try.func43 rfl Try.ntmps43 (by decide) ?_
  refine wp_seq ?_
  refine sx_region ?_
  refine sx rfl (stp_alloc zz_Engine (St.start w) ?_); intro b1 W2 hb3 st4
  refine sx_nil ?_
  refine wp_seq ?_
  refine sx_region ?_
  refine sx rfl (stp_call0 Try.func67 rfl  ((YardNewS W2 ).mono ?_)); rintro _ W8 ⟨cs6, fp6, rfl, hk9⟩; refine ⟨_, rfl, ?_⟩
  have st10 := St.call st4 hk9
  have hq_ := open_Yard st10
  obtain ⟨v12_0, v12_1, g12_0, g12_1, he12, hok12, st13⟩ := hq_
  subst he12
  refine sx rfl (stp_build (vs := [(0, .agg #[I yardNew.now, I yardNew.seq, v12_0, v12_1]), (2, I 1), (5, I 1)]) (cs := [I yardNew.now, I yardNew.seq, v12_0, v12_1, .slice none 0 0, I 1, I 0, .slice none 0 0, I 1, .bool false]) (pcons (v := .agg #[I yardNew.now, I yardNew.seq, v12_0, v12_1]) rfl (pcons (v := I 1) rfl (pcons (v := I 1) rfl pnil))) (by kernel_rfl) ?_)
  have st16 := st13.f2
  refine sx rfl (stp_store_agg (cs := [I yardNew.now, I yardNew.seq, v12_0, v12_1, .slice none 0 0, I 1, I 0, .slice none 0 0, I 1, .bool false]) (C' := [I yardNew.now, I yardNew.seq, v12_0, v12_1, .slice none 0 0, I 1, I 0, .slice none 0 0, I 1, .bool false]) (by kernel_rfl) rfl rfl (one_cons rfl (one_cons rfl (one_cons (Sl.one (own_Sl (st16.get 1 rfl))) (one_cons (Sl.one (own_Sl (st16.get 2 rfl))) (one_cons rfl (one_cons rfl (one_cons rfl (one_cons rfl (one_cons rfl (one_cons rfl one_nil)))))))))) st16 (Nat.le_of_ble_eq_true rfl) rfl ?_); intro W17 st18
  refine sx_nil ?_
  refine wp_ret ?_; repeat (first | refine then_ret ?_ | refine blk_ret ?_)
  refine retc1 ld_Engine rfl Try.results43 rfl (st18.get 0 rfl) rfl ?_
  have st19 := St.own_nil (α := File) st18
  have st21 := St.own_nil (α := Wait) st19
  have st23 := st21.f1
  have st24 := st23.f4
  have st25 := st24.f4
  have st26 := shut_Engine (x := engineNew) st25 (by simp [worldNew, engineNew, yardNew, WorldD.ok, Engine.ok, Yard.ok, Disk.ok, I64])
  exact ⟨_, _, rfl, st26.only 0 rfl⟩
set_option maxHeartbeats 2000000 in
theorem WorldNewI (w : World) :
    Calls Try.prog 21 #[] w fun e w' => ∃ (cs' : List Value) (fp' : List Nat), e = .returned (.agg cs'.toArray) ∧ St w w' [Res.own (.agg cs'.toArray) worldNew fp'] := by
  refine enter0 Try.func21 rfl Try.ntmps21 (by decide) ?_
  refine wp_seq ?_
  refine sx_region ?_
  refine sx rfl (stp_alloc zz_World (St.start w) ?_); intro b1 W2 hb3 st4
  refine sx_nil ?_
  refine wp_seq ?_
  refine sx_region ?_
  refine sx rfl (stp_call0 Try.func44 rfl  ((EngineNewI W2 ).mono ?_)); rintro _ W8 ⟨cs6, fp6, rfl, hk9⟩; refine ⟨_, rfl, ?_⟩
  have st10 := St.call st4 hk9
  have hq_ := open_Engine st10
  obtain ⟨v12_0, v12_1, v12_2, v12_3, g12_0, g12_1, g12_2, g12_3, he12, hok12, st13⟩ := hq_
  subst he12
  refine sx rfl (stp_build (vs := [(0, .agg #[I engineNew.yard.now, I engineNew.yard.seq, v12_0, v12_1, v12_2, I engineNew.next, I engineNew.calls, v12_3, I engineNew.state, .bool engineNew.broken])]) (cs := [I engineNew.yard.now, I engineNew.yard.seq, v12_0, v12_1, v12_2, I engineNew.next, I engineNew.calls, v12_3, I engineNew.state, .bool engineNew.broken, .slice none 0 0, .slice none 0 0, I 0, I 0]) (pcons (v := .agg #[I engineNew.yard.now, I engineNew.yard.seq, v12_0, v12_1, v12_2, I engineNew.next, I engineNew.calls, v12_3, I engineNew.state, .bool engineNew.broken]) rfl pnil) (by kernel_rfl) ?_)
  have st18 := st13.f4
  refine sx rfl (stp_store_agg (cs := [I engineNew.yard.now, I engineNew.yard.seq, v12_0, v12_1, v12_2, I engineNew.next, I engineNew.calls, v12_3, I engineNew.state, .bool engineNew.broken, .slice none 0 0, .slice none 0 0, I 0, I 0]) (C' := [I engineNew.yard.now, I engineNew.yard.seq, v12_0, v12_1, v12_2, I engineNew.next, I engineNew.calls, v12_3, I engineNew.state, .bool engineNew.broken, .slice none 0 0, .slice none 0 0, I 0, I 0]) (by kernel_rfl) rfl rfl (one_cons rfl (one_cons rfl (one_cons (Sl.one (own_Sl (st18.get 1 rfl))) (one_cons (Sl.one (own_Sl (st18.get 2 rfl))) (one_cons (Sl.one (own_Sl (st18.get 3 rfl))) (one_cons rfl (one_cons rfl (one_cons (Sl.one (own_Sl (st18.get 4 rfl))) (one_cons rfl (one_cons rfl (one_cons rfl (one_cons rfl (one_cons rfl (one_cons rfl one_nil)))))))))))))) st18 (Nat.le_of_ble_eq_true rfl) rfl ?_); intro W19 st20
  refine sx_nil ?_
  refine wp_ret ?_; repeat (first | refine then_ret ?_ | refine blk_ret ?_)
  refine retc1 ld_World rfl Try.results21 rfl (st20.get 0 rfl) rfl ?_
  have st21 := St.own_nil (α := Deed) st20
  have st23 := St.own_nil (α := Reply) st21
  have st25 := st23.f1
  have st26 := st25.f6
  have st27 := st26.f6
  have st28 := st27.f6
  have st29 := st28.f6
  have st30 := shut_World (x := worldNew) st29 (by simp [worldNew, engineNew, yardNew, WorldD.ok, Engine.ok, Yard.ok, Disk.ok, I64])
  exact ⟨_, _, rfl, st30.only 0 rfl⟩
set_option maxHeartbeats 2000000 in
theorem WorldNewS (w : World) :
    Calls Try.prog 20 #[] w fun e w' => ∃ (cs' : List Value) (fp' : List Nat), e = .returned (.agg cs'.toArray) ∧ St w w' [Res.own (.agg cs'.toArray) worldNew fp'] := by
  refine enter0 Try.func20 rfl Try.ntmps20 (by decide) ?_
  refine wp_seq ?_
  refine sx_region ?_
  refine sx rfl (stp_alloc zz_World (St.start w) ?_); intro b1 W2 hb3 st4
  refine sx_nil ?_
  refine wp_seq ?_
  refine sx_region ?_
  refine sx rfl (stp_call0 Try.func43 rfl  ((EngineNewS W2 ).mono ?_)); rintro _ W8 ⟨cs6, fp6, rfl, hk9⟩; refine ⟨_, rfl, ?_⟩
  have st10 := St.call st4 hk9
  have hq_ := open_Engine st10
  obtain ⟨v12_0, v12_1, v12_2, v12_3, g12_0, g12_1, g12_2, g12_3, he12, hok12, st13⟩ := hq_
  subst he12
  refine sx rfl (stp_build (vs := [(0, .agg #[I engineNew.yard.now, I engineNew.yard.seq, v12_0, v12_1, v12_2, I engineNew.next, I engineNew.calls, v12_3, I engineNew.state, .bool engineNew.broken])]) (cs := [I engineNew.yard.now, I engineNew.yard.seq, v12_0, v12_1, v12_2, I engineNew.next, I engineNew.calls, v12_3, I engineNew.state, .bool engineNew.broken, .slice none 0 0, .slice none 0 0, I 0, I 0]) (pcons (v := .agg #[I engineNew.yard.now, I engineNew.yard.seq, v12_0, v12_1, v12_2, I engineNew.next, I engineNew.calls, v12_3, I engineNew.state, .bool engineNew.broken]) rfl pnil) (by kernel_rfl) ?_)
  have st18 := st13.f4
  refine sx rfl (stp_store_agg (cs := [I engineNew.yard.now, I engineNew.yard.seq, v12_0, v12_1, v12_2, I engineNew.next, I engineNew.calls, v12_3, I engineNew.state, .bool engineNew.broken, .slice none 0 0, .slice none 0 0, I 0, I 0]) (C' := [I engineNew.yard.now, I engineNew.yard.seq, v12_0, v12_1, v12_2, I engineNew.next, I engineNew.calls, v12_3, I engineNew.state, .bool engineNew.broken, .slice none 0 0, .slice none 0 0, I 0, I 0]) (by kernel_rfl) rfl rfl (one_cons rfl (one_cons rfl (one_cons (Sl.one (own_Sl (st18.get 1 rfl))) (one_cons (Sl.one (own_Sl (st18.get 2 rfl))) (one_cons (Sl.one (own_Sl (st18.get 3 rfl))) (one_cons rfl (one_cons rfl (one_cons (Sl.one (own_Sl (st18.get 4 rfl))) (one_cons rfl (one_cons rfl (one_cons rfl (one_cons rfl (one_cons rfl (one_cons rfl one_nil)))))))))))))) st18 (Nat.le_of_ble_eq_true rfl) rfl ?_); intro W19 st20
  refine sx_nil ?_
  refine wp_ret ?_; repeat (first | refine then_ret ?_ | refine blk_ret ?_)
  refine retc1 ld_World rfl Try.results20 rfl (st20.get 0 rfl) rfl ?_
  have st21 := St.own_nil (α := Deed) st20
  have st23 := St.own_nil (α := Reply) st21
  have st25 := st23.f1
  have st26 := st25.f6
  have st27 := st26.f6
  have st28 := st27.f6
  have st29 := st28.f6
  have st30 := shut_World (x := worldNew) st29 (by simp [worldNew, engineNew, yardNew, WorldD.ok, Engine.ok, Yard.ok, Disk.ok, I64])
  exact ⟨_, _, rfl, st30.only 0 rfl⟩
end Go.Proofs.Ytpkfgalpjaoebaa
