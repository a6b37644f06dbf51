/-
  The laws' marks, walked. (Printed by a program of this project's.)
-/
import Derived.Test.YtchnllpegfbleaaMkA
namespace Go.Proofs.Ytchnllpegfbleaa
set_option linter.unusedSimpArgs false
set_option linter.unusedVariables false
set_option maxRecDepth 100000
open Go.RowKit

set_option maxHeartbeats 2000000 in
theorem markIntS_n {w W0 : World} {rs : List Res} {v : Value} {xs : List Int} {fp : List Nat} (hst : St w W0 (Res.own v xs fp :: rs)) (k : Int) (h0 : 0 ≤ k) (hk : k + (cL neI xs : Nat) ≤ 4611686018427387904) :
    Calls Try.prog 15 #[v, I k] W0 fun e w' => ∃ fp', e = .returned (I (k + (cL neI xs : Nat))) ∧ St w w' (Res.own v (mkL mkI neI xs k) fp' :: rs) := by
  have hcap := (own_Sl (hst.get 0 rfl)).len_le
  refine enter2 Try.func15 rfl Try.ntmps15 (by decide) ?_
  refine wp_seq ?_
  refine sx_region ?_
  refine sx rfl (stp_assign (v := I 0) rfl ?_)
  refine sx_nil ?_
  refine wp_seq ?_
  refine wp_seq ?_
  refine sx_region ?_
  refine sx rfl (stp_assign (v := I 0) rfl ?_)
  refine sx_nil ?_
  refine wp_block ?_
  refine sx_loop (fun (m : Nat) (f : Nat → Value) (W : World) => ∃ (i : Nat) (K : Int) (fo1 : List Nat), i ≤ xs.length ∧ K = k + (cL neI (xs.take i) : Nat) ∧ m = xs.length - i ∧ f 0 = v ∧ f 1 = I K ∧ f 5 = I (i : Int) ∧ St w W (Res.own (α := List Int) v (mkL mkI neI (xs.take i) k ++ xs.drop i) fo1 :: rs)) (xs.length - 0) ?_ ?_
  · exact ⟨0, k, fp, Nat.zero_le _, (by simp [cL]), rfl, rfl, rfl, rfl, (by simpa [mkL] using hst)⟩
  intro m2 f3 W4 hJ5
  obtain ⟨i, K, fo1, hi, hK, rfl, hs7_0, hs7_1, hs7_5, st6⟩ := hJ5
  have hlx : (mkL mkI neI (xs.take i) k ++ xs.drop i).length = xs.length := by rw [List.length_append, mkL_len, List.length_take, List.length_drop]; omega
  refine wp_seq ?_
  refine wp_seq ?_
  refine sx_region ?_
  refine sx rfl (stp_move (v := I (i : Int)) hs7_5 ?_)
  refine sx rfl (stp_move (v := v) hs7_0 ?_)
  refine sx rfl (stp_len sl_IntS rfl (own_Sl (st6.get 0 rfl)) ?_)
  refine sx rfl (stp_lss rfl rfl ?_)
  refine sx_nil ?_
  refine sx_if rfl (fun h8 => ?_) (fun h8 => ?_)
  · skip
    have h8p := of_decide_eq_true h8
    refine wp_skip ?_
    refine wp_seq ?_
    refine wp_block ?_
    refine wp_seq ?_
    refine sx_region ?_
    refine sx rfl (stp_move (v := v) hs7_0 ?_)
    refine sx rfl (stp_move (v := I (i : Int)) hs7_5 ?_)
    refine sx rfl (stp_move (v := I K) hs7_1 ?_)
    have hq_ := some_at (xs := xs) (i := i) (by omega)
    obtain ⟨y, hy⟩ := hq_
    have hcs := cL_takey neI hy
    have hcl := cL_take_le neI xs (i + 1)
    have hne : neI y = 1 := rfl
    have hb9 : Bd K (1 + (0)) := ⟨by omega, by omega⟩
    have hq_ := St.lendx (α := Int) (by decide) st6 (x := y) (mk_gety hy)
    obtain ⟨b10, e10, pre10, cs10, post10, fi10, fr10, hPA10, hC10, st11⟩ := hq_
    have st15 := st11.d1
    obtain ⟨he10, hf10, hok10⟩ := hC10; have he10 : _ = [I y] := he10; subst he10
    skip
    refine sx rfl (stp_indexAddr sl_IntS rfl hPA10 rfl rfl ?_)
    refine sx rfl (stp_store_bp (i := 0) (v := I K) (C' := [I K]) (by kernel_rfl) rfl rfl rfl rfl st15 rfl (Nat.le_of_ble_eq_true rfl) rfl ?_); intro W16 st17
    refine sx_nil ?_
    refine sx_region ?_
    refine sx rfl (stp_move (v := I K) hs7_1 ?_)
    have hb18 := hb9.up
    refine sx rfl (stp_add rfl rfl hb18.i64 ?_)
    refine sx rfl (stp_assign (v := I (K + 1)) rfl ?_)
    refine sx_nil ?_
    refine sx_region ?_
    refine sx rfl (stp_move (v := I (i : Int)) hs7_5 ?_)
    refine sx rfl (stp_add rfl rfl (by (simp only [I64] at *; omega)) ?_)
    refine sx rfl (stp_assign (v := I ((i : Int) + 1)) rfl ?_)
    refine sx_nil ?_
    have st19 := st17.cs0 (cs := [I K]) (x := K) ⟨rfl, rfl, (by (simp only [I64] at *; omega))⟩
    have st21 := st19.f2
    have st22 := st21.f1
    have st23 := st22.f2
    have hq_ := St.give (α := Int) st23
    obtain ⟨fp24, st25⟩ := hq_
    exact ⟨_, xs.length - (i + 1), (by omega), rfl, i + 1, K + 1, fp24, (by omega), (by omega), rfl, hs7_0, rfl, rfl, (by rw [← mk_stepy hy hK]; exact st25)⟩
  · skip
    have h8p := of_decide_eq_false h8
    refine wp_exit ?_
    refine wp_seq ?_
    refine sx_region ?_
    refine sx rfl (stp_move (v := I K) hs7_1 ?_)
    refine sx rfl (stp_assign (v := I K) rfl ?_)
    refine sx_nil ?_
    refine wp_ret ?_; repeat (first | refine then_ret ?_ | refine blk_ret ?_)
    refine ret1 Try.results15 rfl ?_
    obtain rfl : i = xs.length := by omega
    have hca := cL_all neI xs _ rfl
    rw [mk_all rfl] at st6
    exact ⟨_, congrArg (fun z => Ending.returned (I z)) (by omega), st6⟩
set_option maxHeartbeats 2000000 in
theorem heldIntS_n (w : World) {v : Value} {x : List Int} {fp : List Nat} {k : Int} (h : Sl w v (mkL mkI neI x k) fp) (h0 : 0 ≤ k) (hk : k + (cL neI x : Nat) ≤ 4611686018427387904) :
    Calls Try.prog 16 #[v, I k] w fun e w' => e = .returned (I (k + (cL neI x : Nat))) ∧ St w w' [] := by
  have hcap := h.len_le
  rw [mkL_len] at hcap
  have hml : (mkL mkI neI x k).length = x.length := mkL_len _ _
  refine enter2 Try.func16 rfl Try.ntmps16 (by decide) ?_
  refine wp_seq ?_
  refine sx_region ?_
  refine sx rfl (stp_assign (v := I 0) rfl ?_)
  refine sx_nil ?_
  refine wp_seq ?_
  refine wp_seq ?_
  refine sx_region ?_
  refine sx rfl (stp_assign (v := I 0) rfl ?_)
  refine sx_nil ?_
  refine wp_block ?_
  refine sx_loop (fun (m : Nat) (f : Nat → Value) (W : World) => ∃ (i : Nat) (K : Int), i ≤ x.length ∧ K = k + (cL neI (x.take i) : Nat) ∧ m = x.length - i ∧ f 0 = v ∧ f 1 = I K ∧ f 5 = I (i : Int) ∧ St w W ([])) (x.length - 0) ?_ ?_
  · exact ⟨0, k, Nat.zero_le _, (by simp [cL]), rfl, rfl, rfl, rfl, (St.start w)⟩
  intro m1 f2 W3 hJ4
  obtain ⟨i, K, hi, hK, rfl, hs6_0, hs6_1, hs6_5, st5⟩ := hJ4
  refine wp_seq ?_
  refine wp_seq ?_
  refine sx_region ?_
  refine sx rfl (stp_move (v := I (i : Int)) hs6_5 ?_)
  refine sx rfl (stp_move (v := v) hs6_0 ?_)
  refine sx rfl (stp_len sl_IntS rfl h ?_)
  refine sx rfl (stp_lss rfl rfl ?_)
  refine sx_nil ?_
  refine sx_if rfl (fun h7 => ?_) (fun h7 => ?_)
  · skip
    have h7p := of_decide_eq_true h7
    refine wp_skip ?_
    refine wp_seq ?_
    refine wp_block ?_
    refine wp_seq ?_
    refine wp_seq ?_
    refine sx_region ?_
    refine sx rfl (stp_move (v := v) hs6_0 ?_)
    refine sx rfl (stp_move (v := I (i : Int)) hs6_5 ?_)
    have hq_ := some_at (xs := x) (i := i) (by omega)
    obtain ⟨y, hy⟩ := hq_
    have hcs := cL_takey neI hy
    have hcl := cL_take_le neI x (i + 1)
    have hne : neI y = 1 := rfl
    have hb9 : Bd K (1 + (0)) := ⟨by omega, by omega⟩
    have hq_ := idxmy h hy hK
    obtain ⟨b8, o8, cs8, f8, hp8, hr8, hc8, hm8⟩ := hq_
    obtain ⟨he8, rfl, hok8⟩ := hc8; have he8 : _ = [I K] := he8; subst he8
    skip
    refine sx rfl (stp_indexAddr sl_IntS rfl hp8 rfl rfl ?_)
    refine sx rfl (stp_load_rg ld_int rfl rfl hr8 st5.below (i := 0) rfl rfl ?_)
    refine sx rfl (stp_move (v := I K) hs6_1 ?_)
    refine sx rfl (stp_neq rfl rfl ?_)
    refine sx_nil ?_
    refine sx_if rfl (fun h10 => ?_) (fun h10 => ?_)
    · skip
      have h10p := of_decide_eq_false (bnot_t h10)
      exact absurd rfl h10p
    · skip
      have h10p := of_decide_eq_true (bnot_f h10)
      refine wp_skip ?_
      refine sx_region ?_
      refine sx rfl (stp_move (v := I K) hs6_1 ?_)
      have hb11 := hb9.up
      refine sx rfl (stp_add rfl rfl hb11.i64 ?_)
      refine sx rfl (stp_assign (v := I (K + 1)) rfl ?_)
      refine sx_nil ?_
      refine sx_region ?_
      refine sx rfl (stp_move (v := I (i : Int)) hs6_5 ?_)
      refine sx rfl (stp_add rfl rfl (by (simp only [I64] at *; omega)) ?_)
      refine sx rfl (stp_assign (v := I ((i : Int) + 1)) rfl ?_)
      refine sx_nil ?_
      exact ⟨_, x.length - (i + 1), (by omega), rfl, i + 1, K + 1, (by omega), (by omega), rfl, hs6_0, rfl, rfl, st5⟩
  · skip
    have h7p := of_decide_eq_false h7
    refine wp_exit ?_
    refine wp_seq ?_
    refine sx_region ?_
    refine sx rfl (stp_move (v := I K) hs6_1 ?_)
    refine sx rfl (stp_assign (v := I K) rfl ?_)
    refine sx_nil ?_
    refine wp_ret ?_; repeat (first | refine then_ret ?_ | refine blk_ret ?_)
    refine ret1 Try.results16 rfl ?_
    obtain rfl : i = x.length := by omega
    have hca := cL_all neI x _ rfl
    exact ⟨congrArg (fun z => Ending.returned (I z)) (by omega), st5.bare⟩
set_option maxHeartbeats 2000000 in
theorem markEdgeS_n {w W0 : World} {rs : List Res} {v : Value} {xs : List Edge} {fp : List Nat} (hst : St w W0 (Res.own v xs fp :: rs)) (k : Int) (h0 : 0 ≤ k) (hk : k + (cL neE_Edge xs : Nat) ≤ 4611686018427387904) :
    Calls Try.prog 26 #[v, I k] W0 fun e w' => ∃ fp', e = .returned (I (k + (cL neE_Edge xs : Nat))) ∧ St w w' (Res.own v (mkL mkE_Edge neE_Edge xs k) fp' :: rs) := by
  have hcap := (own_Sl (hst.get 0 rfl)).len_le
  refine enter2 Try.func26 rfl Try.ntmps26 (by decide) ?_
  refine wp_seq ?_
  refine sx_region ?_
  refine sx rfl (stp_assign (v := I 0) rfl ?_)
  refine sx_nil ?_
  refine wp_seq ?_
  refine wp_seq ?_
  refine sx_region ?_
  refine sx rfl (stp_assign (v := I 0) rfl ?_)
  refine sx_nil ?_
  refine wp_block ?_
  refine sx_loop (fun (m : Nat) (f : Nat → Value) (W : World) => ∃ (i : Nat) (K : Int) (fo1 : List Nat), i ≤ xs.length ∧ K = k + (cL neE_Edge (xs.take i) : Nat) ∧ m = xs.length - i ∧ f 0 = v ∧ f 1 = I K ∧ f 5 = I (i : Int) ∧ St w W (Res.own (α := List Edge) v (mkL mkE_Edge neE_Edge (xs.take i) k ++ xs.drop i) fo1 :: rs)) (xs.length - 0) ?_ ?_
  · exact ⟨0, k, fp, Nat.zero_le _, (by simp [cL]), rfl, rfl, rfl, rfl, (by simpa [mkL] using hst)⟩
  intro m2 f3 W4 hJ5
  obtain ⟨i, K, fo1, hi, hK, rfl, hs7_0, hs7_1, hs7_5, st6⟩ := hJ5
  have hlx : (mkL mkE_Edge neE_Edge (xs.take i) k ++ xs.drop i).length = xs.length := by rw [List.length_append, mkL_len, List.length_take, List.length_drop]; omega
  refine wp_seq ?_
  refine wp_seq ?_
  refine sx_region ?_
  refine sx rfl (stp_move (v := I (i : Int)) hs7_5 ?_)
  refine sx rfl (stp_move (v := v) hs7_0 ?_)
  refine sx rfl (stp_len sl_EdgeS rfl (own_Sl (st6.get 0 rfl)) ?_)
  refine sx rfl (stp_lss rfl rfl ?_)
  refine sx_nil ?_
  refine sx_if rfl (fun h8 => ?_) (fun h8 => ?_)
  · skip
    have h8p := of_decide_eq_true h8
    refine wp_skip ?_
    refine wp_seq ?_
    refine wp_block ?_
    refine wp_seq ?_
    refine sx_region ?_
    refine sx rfl (stp_move (v := v) hs7_0 ?_)
    refine sx rfl (stp_move (v := I (i : Int)) hs7_5 ?_)
    refine sx rfl (stp_move (v := I K) hs7_1 ?_)
    have hq_ := some_at (xs := xs) (i := i) (by omega)
    obtain ⟨y, hy⟩ := hq_
    have hcs := cL_takey neE_Edge hy
    have hcl := cL_take_le neE_Edge xs (i + 1)
    have hne : neE_Edge y = 2 := rfl
    have hb9 : Bd K (1 + (1 + (0))) := ⟨by omega, by omega⟩
    have hq_ := St.lendx (α := Edge) (by decide) st6 (x := y) (mk_gety hy)
    obtain ⟨b10, e10, pre10, cs10, post10, fi10, fr10, hPA10, hC10, st11⟩ := hq_
    have st15 := st11.d1
    obtain ⟨he10, hf10, hok10⟩ := hC10; have he10 : _ = [I y.from_, I y.to_] := he10; subst he10
    skip
    refine sx rfl (stp_indexAddr sl_EdgeS rfl hPA10 rfl rfl ?_)
    refine sx rfl (stp_fieldAddr fa_Edge_0 rfl ?_)
    refine sx rfl (stp_store_bp (i := 0) (v := I K) (C' := [I K, I y.to_]) (by kernel_rfl) rfl rfl rfl rfl st15 rfl (Nat.le_of_ble_eq_true rfl) rfl ?_); intro W16 st17
    refine sx_nil ?_
    refine wp_seq ?_
    refine sx_region ?_
    refine sx rfl (stp_move (v := I K) hs7_1 ?_)
    have hb18 := hb9.up
    refine sx rfl (stp_add rfl rfl hb18.i64 ?_)
    refine sx rfl (stp_assign (v := I (K + 1)) rfl ?_)
    refine sx_nil ?_
    refine wp_seq ?_
    refine sx_region ?_
    refine sx rfl (stp_move (v := v) hs7_0 ?_)
    refine sx rfl (stp_move (v := I (i : Int)) hs7_5 ?_)
    refine sx rfl (stp_move (v := I (K + 1)) rfl ?_)
    refine sx rfl (stp_indexAddr sl_EdgeS rfl hPA10 rfl rfl ?_)
    refine sx rfl (stp_fieldAddr fa_Edge_1 rfl ?_)
    refine sx rfl (stp_store_bp (i := 1) (v := I (K + 1)) (C' := [I K, I (K + 1)]) (by kernel_rfl) rfl rfl rfl rfl st17 rfl (Nat.le_of_ble_eq_true rfl) rfl ?_); intro W19 st20
    refine sx_nil ?_
    refine sx_region ?_
    refine sx rfl (stp_move (v := I (K + 1)) rfl ?_)
    have hb21 := hb18.up
    refine sx rfl (stp_add rfl rfl hb21.i64 ?_)
    refine sx rfl (stp_assign (v := I ((K + 1) + 1)) rfl ?_)
    refine sx_nil ?_
    refine sx_region ?_
    refine sx rfl (stp_move (v := I (i : Int)) hs7_5 ?_)
    refine sx rfl (stp_add rfl rfl (by (simp only [I64] at *; omega)) ?_)
    refine sx rfl (stp_assign (v := I ((i : Int) + 1)) rfl ?_)
    refine sx_nil ?_
    have st22 := st20.cs0 (cs := [I K, I (K + 1)]) (x := (⟨K, K + 1⟩ : Edge)) ⟨rfl, rfl, (by first | exact True.intro | (simp only [Edge.ok, Plan.ok, Entry.ok, Task.ok, Run.ok, Yard.ok, Reply.ok, Deed.ok, Note.ok, Wait.ok, File.ok, Disk.ok, Engine.ok, WorldD.ok, ActD.ok, Hand.ok, Span.ok, Crew.ok, View.ok, I64] at *; omega))⟩
    have st24 := st22.f2
    have st25 := st24.f1
    have st26 := st25.f2
    have hq_ := St.give (α := Edge) st26
    obtain ⟨fp27, st28⟩ := hq_
    exact ⟨_, xs.length - (i + 1), (by omega), rfl, i + 1, (K + 1) + 1, fp27, (by omega), (by omega), rfl, hs7_0, rfl, rfl, (by rw [← mk_stepy hy hK]; exact st28)⟩
  · skip
    have h8p := of_decide_eq_false h8
    refine wp_exit ?_
    refine wp_seq ?_
    refine sx_region ?_
    refine sx rfl (stp_move (v := I K) hs7_1 ?_)
    refine sx rfl (stp_assign (v := I K) rfl ?_)
    refine sx_nil ?_
    refine wp_ret ?_; repeat (first | refine then_ret ?_ | refine blk_ret ?_)
    refine ret1 Try.results26 rfl ?_
    obtain rfl : i = xs.length := by omega
    have hca := cL_all neE_Edge xs _ rfl
    rw [mk_all rfl] at st6
    exact ⟨_, congrArg (fun z => Ending.returned (I z)) (by omega), st6⟩
set_option maxHeartbeats 2000000 in
theorem markReplyS_n {w W0 : World} {rs : List Res} {v : Value} {xs : List Reply} {fp : List Nat} (hst : St w W0 (Res.own v xs fp :: rs)) (k : Int) (h0 : 0 ≤ k) (hk : k + (cL neE_Reply xs : Nat) ≤ 4611686018427387904) :
    Calls Try.prog 14 #[v, I k] W0 fun e w' => ∃ fp', e = .returned (I (k + (cL neE_Reply xs : Nat))) ∧ St w w' (Res.own v (mkL mkE_Reply neE_Reply xs k) fp' :: rs) := by
  have hcap := (own_Sl (hst.get 0 rfl)).len_le
  refine enter2 Try.func14 rfl Try.ntmps14 (by decide) ?_
  refine wp_seq ?_
  refine sx_region ?_
  refine sx rfl (stp_assign (v := I 0) rfl ?_)
  refine sx_nil ?_
  refine wp_seq ?_
  refine wp_seq ?_
  refine sx_region ?_
  refine sx rfl (stp_assign (v := I 0) rfl ?_)
  refine sx_nil ?_
  refine wp_block ?_
  refine sx_loop (fun (m : Nat) (f : Nat → Value) (W : World) => ∃ (i : Nat) (K : Int) (fo1 : List Nat), i ≤ xs.length ∧ K = k + (cL neE_Reply (xs.take i) : Nat) ∧ m = xs.length - i ∧ f 0 = v ∧ f 1 = I K ∧ f 5 = I (i : Int) ∧ St w W (Res.own (α := List Reply) v (mkL mkE_Reply neE_Reply (xs.take i) k ++ xs.drop i) fo1 :: rs)) (xs.length - 0) ?_ ?_
  · exact ⟨0, k, fp, Nat.zero_le _, (by simp [cL]), rfl, rfl, rfl, rfl, (by simpa [mkL] using hst)⟩
  intro m2 f3 W4 hJ5
  obtain ⟨i, K, fo1, hi, hK, rfl, hs7_0, hs7_1, hs7_5, st6⟩ := hJ5
  have hlx : (mkL mkE_Reply neE_Reply (xs.take i) k ++ xs.drop i).length = xs.length := by rw [List.length_append, mkL_len, List.length_take, List.length_drop]; omega
  refine wp_seq ?_
  refine wp_seq ?_
  refine sx_region ?_
  refine sx rfl (stp_move (v := I (i : Int)) hs7_5 ?_)
  refine sx rfl (stp_move (v := v) hs7_0 ?_)
  refine sx rfl (stp_len sl_ReplyS rfl (own_Sl (st6.get 0 rfl)) ?_)
  refine sx rfl (stp_lss rfl rfl ?_)
  refine sx_nil ?_
  refine sx_if rfl (fun h8 => ?_) (fun h8 => ?_)
  · skip
    have h8p := of_decide_eq_true h8
    refine wp_skip ?_
    refine wp_seq ?_
    refine wp_block ?_
    refine wp_seq ?_
    refine sx_region ?_
    refine sx rfl (stp_move (v := v) hs7_0 ?_)
    refine sx rfl (stp_move (v := I (i : Int)) hs7_5 ?_)
    refine sx rfl (stp_move (v := I K) hs7_1 ?_)
    have hq_ := some_at (xs := xs) (i := i) (by omega)
    obtain ⟨y, hy⟩ := hq_
    have hcs := cL_takey neE_Reply hy
    have hcl := cL_take_le neE_Reply xs (i + 1)
    have hne : neE_Reply y = 4 := rfl
    have hb9 : Bd K (1 + (1 + (1 + (1 + (0))))) := ⟨by omega, by omega⟩
    have hq_ := St.lendx (α := Reply) (by decide) st6 (x := y) (mk_gety hy)
    obtain ⟨b10, e10, pre10, cs10, post10, fi10, fr10, hPA10, hC10, st11⟩ := hq_
    have st15 := st11.d1
    obtain ⟨he10, hf10, hok10⟩ := hC10; have he10 : _ = [I y.code, I y.run, I y.task, I y.try_] := he10; subst he10
    skip
    refine sx rfl (stp_indexAddr sl_ReplyS rfl hPA10 rfl rfl ?_)
    refine sx rfl (stp_fieldAddr fa_Reply_0 rfl ?_)
    refine sx rfl (stp_store_bp (i := 0) (v := I K) (C' := [I K, I y.run, I y.task, I y.try_]) (by kernel_rfl) rfl rfl rfl rfl st15 rfl (Nat.le_of_ble_eq_true rfl) rfl ?_); intro W16 st17
    refine sx_nil ?_
    refine wp_seq ?_
    refine sx_region ?_
    refine sx rfl (stp_move (v := I K) hs7_1 ?_)
    have hb18 := hb9.up
    refine sx rfl (stp_add rfl rfl hb18.i64 ?_)
    refine sx rfl (stp_assign (v := I (K + 1)) rfl ?_)
    refine sx_nil ?_
    refine wp_seq ?_
    refine sx_region ?_
    refine sx rfl (stp_move (v := v) hs7_0 ?_)
    refine sx rfl (stp_move (v := I (i : Int)) hs7_5 ?_)
    refine sx rfl (stp_move (v := I (K + 1)) rfl ?_)
    refine sx rfl (stp_indexAddr sl_ReplyS rfl hPA10 rfl rfl ?_)
    refine sx rfl (stp_fieldAddr fa_Reply_1 rfl ?_)
    refine sx rfl (stp_store_bp (i := 1) (v := I (K + 1)) (C' := [I K, I (K + 1), I y.task, I y.try_]) (by kernel_rfl) rfl rfl rfl rfl st17 rfl (Nat.le_of_ble_eq_true rfl) rfl ?_); intro W19 st20
    refine sx_nil ?_
    refine wp_seq ?_
    refine sx_region ?_
    refine sx rfl (stp_move (v := I (K + 1)) rfl ?_)
    have hb21 := hb18.up
    refine sx rfl (stp_add rfl rfl hb21.i64 ?_)
    refine sx rfl (stp_assign (v := I ((K + 1) + 1)) rfl ?_)
    refine sx_nil ?_
    refine wp_seq ?_
    refine sx_region ?_
    refine sx rfl (stp_move (v := v) hs7_0 ?_)
    refine sx rfl (stp_move (v := I (i : Int)) hs7_5 ?_)
    refine sx rfl (stp_move (v := I ((K + 1) + 1)) rfl ?_)
    refine sx rfl (stp_indexAddr sl_ReplyS rfl hPA10 rfl rfl ?_)
    refine sx rfl (stp_fieldAddr fa_Reply_2 rfl ?_)
    refine sx rfl (stp_store_bp (i := 2) (v := I ((K + 1) + 1)) (C' := [I K, I (K + 1), I ((K + 1) + 1), I y.try_]) (by kernel_rfl) rfl rfl rfl rfl st20 rfl (Nat.le_of_ble_eq_true rfl) rfl ?_); intro W22 st23
    refine sx_nil ?_
    refine wp_seq ?_
    refine sx_region ?_
    refine sx rfl (stp_move (v := I ((K + 1) + 1)) rfl ?_)
    have hb24 := hb21.up
    refine sx rfl (stp_add rfl rfl hb24.i64 ?_)
    refine sx rfl (stp_assign (v := I (((K + 1) + 1) + 1)) rfl ?_)
    refine sx_nil ?_
    refine wp_seq ?_
    refine sx_region ?_
    refine sx rfl (stp_move (v := v) hs7_0 ?_)
    refine sx rfl (stp_move (v := I (i : Int)) hs7_5 ?_)
    refine sx rfl (stp_move (v := I (((K + 1) + 1) + 1)) rfl ?_)
    refine sx rfl (stp_indexAddr sl_ReplyS rfl hPA10 rfl rfl ?_)
    refine sx rfl (stp_fieldAddr fa_Reply_3 rfl ?_)
    refine sx rfl (stp_store_bp (i := 3) (v := I (((K + 1) + 1) + 1)) (C' := [I K, I (K + 1), I ((K + 1) + 1), I (((K + 1) + 1) + 1)]) (by kernel_rfl) rfl rfl rfl rfl st23 rfl (Nat.le_of_ble_eq_true rfl) rfl ?_); intro W25 st26
    refine sx_nil ?_
    refine sx_region ?_
    refine sx rfl (stp_move (v := I (((K + 1) + 1) + 1)) rfl ?_)
    have hb27 := hb24.up
    refine sx rfl (stp_add rfl rfl hb27.i64 ?_)
    refine sx rfl (stp_assign (v := I ((((K + 1) + 1) + 1) + 1)) rfl ?_)
    refine sx_nil ?_
    refine sx_region ?_
    refine sx rfl (stp_move (v := I (i : Int)) hs7_5 ?_)
    refine sx rfl (stp_add rfl rfl (by (simp only [I64] at *; omega)) ?_)
    refine sx rfl (stp_assign (v := I ((i : Int) + 1)) rfl ?_)
    refine sx_nil ?_
    have st28 := st26.cs0 (cs := [I K, I (K + 1), I ((K + 1) + 1), I (((K + 1) + 1) + 1)]) (x := (⟨K, K + 1, (K + 1) + 1, ((K + 1) + 1) + 1⟩ : Reply)) ⟨rfl, rfl, (by first | exact True.intro | (simp only [Edge.ok, Plan.ok, Entry.ok, Task.ok, Run.ok, Yard.ok, Reply.ok, Deed.ok, Note.ok, Wait.ok, File.ok, Disk.ok, Engine.ok, WorldD.ok, ActD.ok, Hand.ok, Span.ok, Crew.ok, View.ok, I64] at *; omega))⟩
    have st30 := st28.f2
    have st31 := st30.f1
    have st32 := st31.f2
    have hq_ := St.give (α := Reply) st32
    obtain ⟨fp33, st34⟩ := hq_
    exact ⟨_, xs.length - (i + 1), (by omega), rfl, i + 1, (((K + 1) + 1) + 1) + 1, fp33, (by omega), (by omega), rfl, hs7_0, rfl, rfl, (by rw [← mk_stepy hy hK]; exact st34)⟩
  · skip
    have h8p := of_decide_eq_false h8
    refine wp_exit ?_
    refine wp_seq ?_
    refine sx_region ?_
    refine sx rfl (stp_move (v := I K) hs7_1 ?_)
    refine sx rfl (stp_assign (v := I K) rfl ?_)
    refine sx_nil ?_
    refine wp_ret ?_; repeat (first | refine then_ret ?_ | refine blk_ret ?_)
    refine ret1 Try.results14 rfl ?_
    obtain rfl : i = xs.length := by omega
    have hca := cL_all neE_Reply xs _ rfl
    rw [mk_all rfl] at st6
    exact ⟨_, congrArg (fun z => Ending.returned (I z)) (by omega), st6⟩
set_option maxHeartbeats 2000000 in
theorem markDeedS_n {w W0 : World} {rs : List Res} {v : Value} {xs : List Deed} {fp : List Nat} (hst : St w W0 (Res.own v xs fp :: rs)) (k : Int) (h0 : 0 ≤ k) (hk : k + (cL neE_Deed xs : Nat) ≤ 4611686018427387904) :
    Calls Try.prog 13 #[v, I k] W0 fun e w' => ∃ fp', e = .returned (I (k + (cL neE_Deed xs : Nat))) ∧ St w w' (Res.own v (mkL mkE_Deed neE_Deed xs k) fp' :: rs) := by
  have hcap := (own_Sl (hst.get 0 rfl)).len_le
  refine enter2 Try.func13 rfl Try.ntmps13 (by decide) ?_
  refine wp_seq ?_
  refine sx_region ?_
  refine sx rfl (stp_assign (v := I 0) rfl ?_)
  refine sx_nil ?_
  refine wp_seq ?_
  refine wp_seq ?_
  refine sx_region ?_
  refine sx rfl (stp_assign (v := I 0) rfl ?_)
  refine sx_nil ?_
  refine wp_block ?_
  refine sx_loop (fun (m : Nat) (f : Nat → Value) (W : World) => ∃ (i : Nat) (K : Int) (fo1 : List Nat), i ≤ xs.length ∧ K = k + (cL neE_Deed (xs.take i) : Nat) ∧ m = xs.length - i ∧ f 0 = v ∧ f 1 = I K ∧ f 5 = I (i : Int) ∧ St w W (Res.own (α := List Deed) v (mkL mkE_Deed neE_Deed (xs.take i) k ++ xs.drop i) fo1 :: rs)) (xs.length - 0) ?_ ?_
  · exact ⟨0, k, fp, Nat.zero_le _, (by simp [cL]), rfl, rfl, rfl, rfl, (by simpa [mkL] using hst)⟩
  intro m2 f3 W4 hJ5
  obtain ⟨i, K, fo1, hi, hK, rfl, hs7_0, hs7_1, hs7_5, st6⟩ := hJ5
  have hlx : (mkL mkE_Deed neE_Deed (xs.take i) k ++ xs.drop i).length = xs.length := by rw [List.length_append, mkL_len, List.length_take, List.length_drop]; omega
  refine wp_seq ?_
  refine wp_seq ?_
  refine sx_region ?_
  refine sx rfl (stp_move (v := I (i : Int)) hs7_5 ?_)
  refine sx rfl (stp_move (v := v) hs7_0 ?_)
  refine sx rfl (stp_len sl_DeedS rfl (own_Sl (st6.get 0 rfl)) ?_)
  refine sx rfl (stp_lss rfl rfl ?_)
  refine sx_nil ?_
  refine sx_if rfl (fun h8 => ?_) (fun h8 => ?_)
  · skip
    have h8p := of_decide_eq_true h8
    refine wp_skip ?_
    refine wp_seq ?_
    refine wp_block ?_
    refine wp_seq ?_
    refine sx_region ?_
    refine sx rfl (stp_move (v := v) hs7_0 ?_)
    refine sx rfl (stp_move (v := I (i : Int)) hs7_5 ?_)
    refine sx rfl (stp_move (v := I K) hs7_1 ?_)
    have hq_ := some_at (xs := xs) (i := i) (by omega)
    obtain ⟨y, hy⟩ := hq_
    have hcs := cL_takey neE_Deed hy
    have hcl := cL_take_le neE_Deed xs (i + 1)
    have hne : neE_Deed y = 10 + cL neE_Edge y.plan.edges := rfl
    have hb9 : Bd K (1 + (1 + (1 + (1 + (1 + (1 + ((cL neE_Edge y.plan.edges) + (1 + (1 + (1 + (1 + (0)))))))))))) := ⟨by omega, by omega⟩
    have hq_ := St.lendx (α := Deed) (by decide) st6 (x := y) (mk_gety hy)
    obtain ⟨b10, e10, pre10, cs10, post10, fi10, fr10, hPA10, hC10, st11⟩ := hq_
    have st15 := st11.f1
    have st16 := st15.uncs rfl
    have hq_ := open_Deed st16
    obtain ⟨v17_0, g17_0, he17, hok17, st18⟩ := hq_
    subst he17
    skip
    refine sx rfl (stp_indexAddr sl_DeedS rfl hPA10 rfl rfl ?_)
    refine sx rfl (stp_fieldAddr fa_Deed_0 rfl ?_)
    have st20 := st18.f1
    refine sx rfl (stp_store_bp (i := 0) (v := I K) (C' := [I K, I y.run, I y.plan.prio, I y.plan.most, I y.plan.wait, I y.plan.tasks, v17_0, I y.task, I y.try_, I y.worker, I y.draw]) (by kernel_rfl) rfl rfl rfl rfl st20 rfl (Nat.le_of_ble_eq_true rfl) rfl ?_); intro W21 st22
    refine sx_nil ?_
    refine wp_seq ?_
    refine sx_region ?_
    refine sx rfl (stp_move (v := I K) hs7_1 ?_)
    have hb23 := hb9.up
    refine sx rfl (stp_add rfl rfl hb23.i64 ?_)
    refine sx rfl (stp_assign (v := I (K + 1)) rfl ?_)
    refine sx_nil ?_
    refine wp_seq ?_
    refine sx_region ?_
    refine sx rfl (stp_move (v := v) hs7_0 ?_)
    refine sx rfl (stp_move (v := I (i : Int)) hs7_5 ?_)
    refine sx rfl (stp_move (v := I (K + 1)) rfl ?_)
    refine sx rfl (stp_indexAddr sl_DeedS rfl hPA10 rfl rfl ?_)
    refine sx rfl (stp_fieldAddr fa_Deed_1 rfl ?_)
    refine sx rfl (stp_store_bp (i := 1) (v := I (K + 1)) (C' := [I K, I (K + 1), I y.plan.prio, I y.plan.most, I y.plan.wait, I y.plan.tasks, v17_0, I y.task, I y.try_, I y.worker, I y.draw]) (by kernel_rfl) rfl rfl rfl rfl st22 rfl (Nat.le_of_ble_eq_true rfl) rfl ?_); intro W24 st25
    refine sx_nil ?_
    refine wp_seq ?_
    refine sx_region ?_
    refine sx rfl (stp_move (v := I (K + 1)) rfl ?_)
    have hb26 := hb23.up
    refine sx rfl (stp_add rfl rfl hb26.i64 ?_)
    refine sx rfl (stp_assign (v := I ((K + 1) + 1)) rfl ?_)
    refine sx_nil ?_
    refine wp_seq ?_
    refine sx_region ?_
    refine sx rfl (stp_move (v := v) hs7_0 ?_)
    refine sx rfl (stp_move (v := I (i : Int)) hs7_5 ?_)
    refine sx rfl (stp_move (v := I ((K + 1) + 1)) rfl ?_)
    refine sx rfl (stp_indexAddr sl_DeedS rfl hPA10 rfl rfl ?_)
    refine sx rfl (stp_fieldAddr fa_Deed_2 rfl ?_)
    refine sx rfl (stp_fieldAddr fa_Plan_0 rfl ?_)
    refine sx rfl (stp_store_bp (i := 2) (v := I ((K + 1) + 1)) (C' := [I K, I (K + 1), I ((K + 1) + 1), I y.plan.most, I y.plan.wait, I y.plan.tasks, v17_0, I y.task, I y.try_, I y.worker, I y.draw]) (by kernel_rfl) rfl rfl rfl rfl st25 rfl (Nat.le_of_ble_eq_true rfl) rfl ?_); intro W27 st28
    refine sx_nil ?_
    refine wp_seq ?_
    refine sx_region ?_
    refine sx rfl (stp_move (v := I ((K + 1) + 1)) rfl ?_)
    have hb29 := hb26.up
    refine sx rfl (stp_add rfl rfl hb29.i64 ?_)
    refine sx rfl (stp_assign (v := I (((K + 1) + 1) + 1)) rfl ?_)
    refine sx_nil ?_
    refine wp_seq ?_
    refine sx_region ?_
    refine sx rfl (stp_move (v := v) hs7_0 ?_)
    refine sx rfl (stp_move (v := I (i : Int)) hs7_5 ?_)
    refine sx rfl (stp_move (v := I (((K + 1) + 1) + 1)) rfl ?_)
    refine sx rfl (stp_indexAddr sl_DeedS rfl hPA10 rfl rfl ?_)
    refine sx rfl (stp_fieldAddr fa_Deed_2 rfl ?_)
    refine sx rfl (stp_fieldAddr fa_Plan_1 rfl ?_)
    refine sx rfl (stp_store_bp (i := 3) (v := I (((K + 1) + 1) + 1)) (C' := [I K, I (K + 1), I ((K + 1) + 1), I (((K + 1) + 1) + 1), I y.plan.wait, I y.plan.tasks, v17_0, I y.task, I y.try_, I y.worker, I y.draw]) (by kernel_rfl) rfl rfl rfl rfl st28 rfl (Nat.le_of_ble_eq_true rfl) rfl ?_); intro W30 st31
    refine sx_nil ?_
    refine wp_seq ?_
    refine sx_region ?_
    refine sx rfl (stp_move (v := I (((K + 1) + 1) + 1)) rfl ?_)
    have hb32 := hb29.up
    refine sx rfl (stp_add rfl rfl hb32.i64 ?_)
    refine sx rfl (stp_assign (v := I ((((K + 1) + 1) + 1) + 1)) rfl ?_)
    refine sx_nil ?_
    refine wp_seq ?_
    refine sx_region ?_
    refine sx rfl (stp_move (v := v) hs7_0 ?_)
    refine sx rfl (stp_move (v := I (i : Int)) hs7_5 ?_)
    refine sx rfl (stp_move (v := I ((((K + 1) + 1) + 1) + 1)) rfl ?_)
    refine sx rfl (stp_indexAddr sl_DeedS rfl hPA10 rfl rfl ?_)
    refine sx rfl (stp_fieldAddr fa_Deed_2 rfl ?_)
    refine sx rfl (stp_fieldAddr fa_Plan_2 rfl ?_)
    refine sx rfl (stp_store_bp (i := 4) (v := I ((((K + 1) + 1) + 1) + 1)) (C' := [I K, I (K + 1), I ((K + 1) + 1), I (((K + 1) + 1) + 1), I ((((K + 1) + 1) + 1) + 1), I y.plan.tasks, v17_0, I y.task, I y.try_, I y.worker, I y.draw]) (by kernel_rfl) rfl rfl rfl rfl st31 rfl (Nat.le_of_ble_eq_true rfl) rfl ?_); intro W33 st34
    refine sx_nil ?_
    refine wp_seq ?_
    refine sx_region ?_
    refine sx rfl (stp_move (v := I ((((K + 1) + 1) + 1) + 1)) rfl ?_)
    have hb35 := hb32.up
    refine sx rfl (stp_add rfl rfl hb35.i64 ?_)
    refine sx rfl (stp_assign (v := I (((((K + 1) + 1) + 1) + 1) + 1)) rfl ?_)
    refine sx_nil ?_
    refine wp_seq ?_
    refine sx_region ?_
    refine sx rfl (stp_move (v := v) hs7_0 ?_)
    refine sx rfl (stp_move (v := I (i : Int)) hs7_5 ?_)
    refine sx rfl (stp_move (v := I (((((K + 1) + 1) + 1) + 1) + 1)) rfl ?_)
    refine sx rfl (stp_indexAddr sl_DeedS rfl hPA10 rfl rfl ?_)
    refine sx rfl (stp_fieldAddr fa_Deed_2 rfl ?_)
    refine sx rfl (stp_fieldAddr fa_Plan_3 rfl ?_)
    refine sx rfl (stp_store_bp (i := 5) (v := I (((((K + 1) + 1) + 1) + 1) + 1)) (C' := [I K, I (K + 1), I ((K + 1) + 1), I (((K + 1) + 1) + 1), I ((((K + 1) + 1) + 1) + 1), I (((((K + 1) + 1) + 1) + 1) + 1), v17_0, I y.task, I y.try_, I y.worker, I y.draw]) (by kernel_rfl) rfl rfl rfl rfl st34 rfl (Nat.le_of_ble_eq_true rfl) rfl ?_); intro W36 st37
    refine sx_nil ?_
    refine wp_seq ?_
    refine sx_region ?_
    refine sx rfl (stp_move (v := I (((((K + 1) + 1) + 1) + 1) + 1)) rfl ?_)
    have hb38 := hb35.up
    refine sx rfl (stp_add rfl rfl hb38.i64 ?_)
    refine sx rfl (stp_assign (v := I ((((((K + 1) + 1) + 1) + 1) + 1) + 1)) rfl ?_)
    refine sx_nil ?_
    refine wp_seq ?_
    refine sx_region ?_
    refine sx rfl (stp_move (v := v) hs7_0 ?_)
    refine sx rfl (stp_move (v := I (i : Int)) hs7_5 ?_)
    refine sx rfl (stp_indexAddr sl_DeedS rfl hPA10 rfl rfl ?_)
    refine sx rfl (stp_fieldAddr fa_Deed_2 rfl ?_)
    refine sx rfl (stp_fieldAddr fa_Plan_4 rfl ?_)
    refine sx rfl (stp_load_bp ld_EdgeS rfl rfl (st37.get 0 rfl) (i := 6) rfl rfl ?_)
    refine sx rfl (stp_move (v := I ((((((K + 1) + 1) + 1) + 1) + 1) + 1)) rfl ?_)
    have st43 := st37.f1
    have hb44 := hb38.upc
    refine sx rfl (stp_call2 Try.func26 rfl rfl rfl ((markEdgeS_n st43 ((((((K + 1) + 1) + 1) + 1) + 1) + 1) hb38.lo hb38.hi).mono ?_)); rintro _ W39 ⟨fp42, rfl, st41⟩; refine ⟨_, rfl, ?_⟩
    refine sx rfl (stp_assign (v := I (((((((K + 1) + 1) + 1) + 1) + 1) + 1) + (cL neE_Edge y.plan.edges : Nat))) rfl ?_)
    refine sx_nil ?_
    refine wp_seq ?_
    refine sx_region ?_
    refine sx rfl (stp_move (v := v) hs7_0 ?_)
    refine sx rfl (stp_move (v := I (i : Int)) hs7_5 ?_)
    refine sx rfl (stp_move (v := I (((((((K + 1) + 1) + 1) + 1) + 1) + 1) + (cL neE_Edge y.plan.edges : Nat))) rfl ?_)
    refine sx rfl (stp_indexAddr sl_DeedS rfl hPA10 rfl rfl ?_)
    refine sx rfl (stp_fieldAddr fa_Deed_3 rfl ?_)
    have st45 := st41.f1
    refine sx rfl (stp_store_bp (i := 7) (v := I (((((((K + 1) + 1) + 1) + 1) + 1) + 1) + (cL neE_Edge y.plan.edges : Nat))) (C' := [I K, I (K + 1), I ((K + 1) + 1), I (((K + 1) + 1) + 1), I ((((K + 1) + 1) + 1) + 1), I (((((K + 1) + 1) + 1) + 1) + 1), v17_0, I (((((((K + 1) + 1) + 1) + 1) + 1) + 1) + (cL neE_Edge y.plan.edges : Nat)), I y.try_, I y.worker, I y.draw]) (by kernel_rfl) rfl rfl rfl rfl st45 rfl (Nat.le_of_ble_eq_true rfl) rfl ?_); intro W46 st47
    refine sx_nil ?_
    refine wp_seq ?_
    refine sx_region ?_
    refine sx rfl (stp_move (v := I (((((((K + 1) + 1) + 1) + 1) + 1) + 1) + (cL neE_Edge y.plan.edges : Nat))) rfl ?_)
    have hb48 := hb44.up
    refine sx rfl (stp_add rfl rfl hb48.i64 ?_)
    refine sx rfl (stp_assign (v := I ((((((((K + 1) + 1) + 1) + 1) + 1) + 1) + (cL neE_Edge y.plan.edges : Nat)) + 1)) rfl ?_)
    refine sx_nil ?_
    refine wp_seq ?_
    refine sx_region ?_
    refine sx rfl (stp_move (v := v) hs7_0 ?_)
    refine sx rfl (stp_move (v := I (i : Int)) hs7_5 ?_)
    refine sx rfl (stp_move (v := I ((((((((K + 1) + 1) + 1) + 1) + 1) + 1) + (cL neE_Edge y.plan.edges : Nat)) + 1)) rfl ?_)
    refine sx rfl (stp_indexAddr sl_DeedS rfl hPA10 rfl rfl ?_)
    refine sx rfl (stp_fieldAddr fa_Deed_4 rfl ?_)
    refine sx rfl (stp_store_bp (i := 8) (v := I ((((((((K + 1) + 1) + 1) + 1) + 1) + 1) + (cL neE_Edge y.plan.edges : Nat)) + 1)) (C' := [I K, I (K + 1), I ((K + 1) + 1), I (((K + 1) + 1) + 1), I ((((K + 1) + 1) + 1) + 1), I (((((K + 1) + 1) + 1) + 1) + 1), v17_0, I (((((((K + 1) + 1) + 1) + 1) + 1) + 1) + (cL neE_Edge y.plan.edges : Nat)), I ((((((((K + 1) + 1) + 1) + 1) + 1) + 1) + (cL neE_Edge y.plan.edges : Nat)) + 1), I y.worker, I y.draw]) (by kernel_rfl) rfl rfl rfl rfl st47 rfl (Nat.le_of_ble_eq_true rfl) rfl ?_); intro W49 st50
    refine sx_nil ?_
    refine wp_seq ?_
    refine sx_region ?_
    refine sx rfl (stp_move (v := I ((((((((K + 1) + 1) + 1) + 1) + 1) + 1) + (cL neE_Edge y.plan.edges : Nat)) + 1)) rfl ?_)
    have hb51 := hb48.up
    refine sx rfl (stp_add rfl rfl hb51.i64 ?_)
    refine sx rfl (stp_assign (v := I (((((((((K + 1) + 1) + 1) + 1) + 1) + 1) + (cL neE_Edge y.plan.edges : Nat)) + 1) + 1)) rfl ?_)
    refine sx_nil ?_
    refine wp_seq ?_
    refine sx_region ?_
    refine sx rfl (stp_move (v := v) hs7_0 ?_)
    refine sx rfl (stp_move (v := I (i : Int)) hs7_5 ?_)
    refine sx rfl (stp_move (v := I (((((((((K + 1) + 1) + 1) + 1) + 1) + 1) + (cL neE_Edge y.plan.edges : Nat)) + 1) + 1)) rfl ?_)
    refine sx rfl (stp_indexAddr sl_DeedS rfl hPA10 rfl rfl ?_)
    refine sx rfl (stp_fieldAddr fa_Deed_5 rfl ?_)
    refine sx rfl (stp_store_bp (i := 9) (v := I (((((((((K + 1) + 1) + 1) + 1) + 1) + 1) + (cL neE_Edge y.plan.edges : Nat)) + 1) + 1)) (C' := [I K, I (K + 1), I ((K + 1) + 1), I (((K + 1) + 1) + 1), I ((((K + 1) + 1) + 1) + 1), I (((((K + 1) + 1) + 1) + 1) + 1), v17_0, I (((((((K + 1) + 1) + 1) + 1) + 1) + 1) + (cL neE_Edge y.plan.edges : Nat)), I ((((((((K + 1) + 1) + 1) + 1) + 1) + 1) + (cL neE_Edge y.plan.edges : Nat)) + 1), I (((((((((K + 1) + 1) + 1) + 1) + 1) + 1) + (cL neE_Edge y.plan.edges : Nat)) + 1) + 1), I y.draw]) (by kernel_rfl) rfl rfl rfl rfl st50 rfl (Nat.le_of_ble_eq_true rfl) rfl ?_); intro W52 st53
    refine sx_nil ?_
    refine wp_seq ?_
    refine sx_region ?_
    refine sx rfl (stp_move (v := I (((((((((K + 1) + 1) + 1) + 1) + 1) + 1) + (cL neE_Edge y.plan.edges : Nat)) + 1) + 1)) rfl ?_)
    have hb54 := hb51.up
    refine sx rfl (stp_add rfl rfl hb54.i64 ?_)
    refine sx rfl (stp_assign (v := I ((((((((((K + 1) + 1) + 1) + 1) + 1) + 1) + (cL neE_Edge y.plan.edges : Nat)) + 1) + 1) + 1)) rfl ?_)
    refine sx_nil ?_
    refine wp_seq ?_
    refine sx_region ?_
    refine sx rfl (stp_move (v := v) hs7_0 ?_)
    refine sx rfl (stp_move (v := I (i : Int)) hs7_5 ?_)
    refine sx rfl (stp_move (v := I ((((((((((K + 1) + 1) + 1) + 1) + 1) + 1) + (cL neE_Edge y.plan.edges : Nat)) + 1) + 1) + 1)) rfl ?_)
    refine sx rfl (stp_indexAddr sl_DeedS rfl hPA10 rfl rfl ?_)
    refine sx rfl (stp_fieldAddr fa_Deed_6 rfl ?_)
    refine sx rfl (stp_store_bp (i := 10) (v := I ((((((((((K + 1) + 1) + 1) + 1) + 1) + 1) + (cL neE_Edge y.plan.edges : Nat)) + 1) + 1) + 1)) (C' := [I K, I (K + 1), I ((K + 1) + 1), I (((K + 1) + 1) + 1), I ((((K + 1) + 1) + 1) + 1), I (((((K + 1) + 1) + 1) + 1) + 1), v17_0, I (((((((K + 1) + 1) + 1) + 1) + 1) + 1) + (cL neE_Edge y.plan.edges : Nat)), I ((((((((K + 1) + 1) + 1) + 1) + 1) + 1) + (cL neE_Edge y.plan.edges : Nat)) + 1), I (((((((((K + 1) + 1) + 1) + 1) + 1) + 1) + (cL neE_Edge y.plan.edges : Nat)) + 1) + 1), I ((((((((((K + 1) + 1) + 1) + 1) + 1) + 1) + (cL neE_Edge y.plan.edges : Nat)) + 1) + 1) + 1)]) (by kernel_rfl) rfl rfl rfl rfl st53 rfl (Nat.le_of_ble_eq_true rfl) rfl ?_); intro W55 st56
    refine sx_nil ?_
    refine sx_region ?_
    refine sx rfl (stp_move (v := I ((((((((((K + 1) + 1) + 1) + 1) + 1) + 1) + (cL neE_Edge y.plan.edges : Nat)) + 1) + 1) + 1)) rfl ?_)
    have hb57 := hb54.up
    refine sx rfl (stp_add rfl rfl hb57.i64 ?_)
    refine sx rfl (stp_assign (v := I (((((((((((K + 1) + 1) + 1) + 1) + 1) + 1) + (cL neE_Edge y.plan.edges : Nat)) + 1) + 1) + 1) + 1)) rfl ?_)
    refine sx_nil ?_
    refine sx_region ?_
    refine sx rfl (stp_move (v := I (i : Int)) hs7_5 ?_)
    refine sx rfl (stp_add rfl rfl (by (simp only [I64] at *; omega)) ?_)
    refine sx rfl (stp_assign (v := I ((i : Int) + 1)) rfl ?_)
    refine sx_nil ?_
    have st58 := st56.f1
    have st59 := shut_Deed (x := (⟨K, K + 1, ⟨(K + 1) + 1, ((K + 1) + 1) + 1, (((K + 1) + 1) + 1) + 1, ((((K + 1) + 1) + 1) + 1) + 1, mkL mkE_Edge neE_Edge y.plan.edges ((((((K + 1) + 1) + 1) + 1) + 1) + 1)⟩, ((((((K + 1) + 1) + 1) + 1) + 1) + 1) + (cL neE_Edge y.plan.edges : Nat), (((((((K + 1) + 1) + 1) + 1) + 1) + 1) + (cL neE_Edge y.plan.edges : Nat)) + 1, ((((((((K + 1) + 1) + 1) + 1) + 1) + 1) + (cL neE_Edge y.plan.edges : Nat)) + 1) + 1, (((((((((K + 1) + 1) + 1) + 1) + 1) + 1) + (cL neE_Edge y.plan.edges : Nat)) + 1) + 1) + 1⟩ : Deed)) st58 (by first | exact True.intro | (simp only [Edge.ok, Plan.ok, Entry.ok, Task.ok, Run.ok, Yard.ok, Reply.ok, Deed.ok, Note.ok, Wait.ok, File.ok, Disk.ok, Engine.ok, WorldD.ok, ActD.ok, Hand.ok, Span.ok, Crew.ok, View.ok, I64] at *; omega))
    try dsimp only at st59
    have st61 := st59.cs rfl
    have st62 := st61.f2
    have st63 := st62.f1
    have st64 := st63.f2
    have hq_ := St.give (α := Deed) st64
    obtain ⟨fp65, st66⟩ := hq_
    exact ⟨_, xs.length - (i + 1), (by omega), rfl, i + 1, ((((((((((K + 1) + 1) + 1) + 1) + 1) + 1) + (cL neE_Edge y.plan.edges : Nat)) + 1) + 1) + 1) + 1, fp65, (by omega), (by omega), rfl, hs7_0, rfl, rfl, (by rw [← mk_stepy hy hK]; exact st66)⟩
  · skip
    have h8p := of_decide_eq_false h8
    refine wp_exit ?_
    refine wp_seq ?_
    refine sx_region ?_
    refine sx rfl (stp_move (v := I K) hs7_1 ?_)
    refine sx rfl (stp_assign (v := I K) rfl ?_)
    refine sx_nil ?_
    refine wp_ret ?_; repeat (first | refine then_ret ?_ | refine blk_ret ?_)
    refine ret1 Try.results13 rfl ?_
    obtain rfl : i = xs.length := by omega
    have hca := cL_all neE_Deed xs _ rfl
    rw [mk_all rfl] at st6
    exact ⟨_, congrArg (fun z => Ending.returned (I z)) (by omega), st6⟩
end Go.Proofs.Ytchnllpegfbleaa
