/-
  The laws' marks, walked. (Printed by a program of this project's.)
-/
import Derived.Test.YtpkfgalpjaoebaaMkA
namespace Go.Proofs.Ytpkfgalpjaoebaa
set_option linter.unusedSimpArgs false
set_option linter.unusedVariables false
set_option maxRecDepth 100000
open Go.RowKit

set_option maxHeartbeats 2000000 in
theorem markIntS_n {w W0 : World} {rs : List Res} {v : Value} {xs : List Int} {fp : List Nat} (hst : St w W0 (Res.own v xs fp :: rs)) (k : Int) (h0 : 0 ≤ k) (hk : k + (cL neI xs : Nat) ≤ 4611686018427387904) :
    Calls Try.prog 13 #[v, I k] W0 fun e w' => ∃ fp', e = .returned (I (k + (cL neI xs : Nat))) ∧ St w w' (Res.own v (mkL mkI neI xs k) fp' :: rs) := by
  have hcap := (own_Sl (hst.get 0 rfl)).len_le
  refine enter2 Try.func13 rfl Try.ntmps13 (by decide) ?_
  refine wp_seq ?_
  refine sx_region ?_
  refine sx rfl (stp_assign (v := I 0) rfl ?_)
  refine sx_nil ?_
  refine wp_seq ?_
  refine wp_seq ?_
  refine sx_region ?_
  refine sx rfl (stp_assign (v := I 0) rfl ?_)
  refine sx_nil ?_
  refine wp_block ?_
  refine sx_loop (fun (m : Nat) (f : Nat → Value) (W : World) => ∃ (i : Nat) (K : Int) (fo1 : List Nat), i ≤ xs.length ∧ K = k + (cL neI (xs.take i) : Nat) ∧ m = xs.length - i ∧ f 0 = v ∧ f 1 = I K ∧ f 5 = I (i : Int) ∧ St w W (Res.own (α := List Int) v (mkL mkI neI (xs.take i) k ++ xs.drop i) fo1 :: rs)) (xs.length - 0) ?_ ?_
  · exact ⟨0, k, fp, Nat.zero_le _, (by simp [cL]), rfl, rfl, rfl, rfl, (by simpa [mkL] using hst)⟩
  intro m2 f3 W4 hJ5
  obtain ⟨i, K, fo1, hi, hK, rfl, hs7_0, hs7_1, hs7_5, st6⟩ := hJ5
  have hlx : (mkL mkI neI (xs.take i) k ++ xs.drop i).length = xs.length := by rw [List.length_append, mkL_len, List.length_take, List.length_drop]; omega
  refine wp_seq ?_
  refine wp_seq ?_
  refine sx_region ?_
  refine sx rfl (stp_move (v := I (i : Int)) hs7_5 ?_)
  refine sx rfl (stp_move (v := v) hs7_0 ?_)
  refine sx rfl (stp_len sl_IntS rfl (own_Sl (st6.get 0 rfl)) ?_)
  refine sx rfl (stp_lss rfl rfl ?_)
  refine sx_nil ?_
  refine sx_if rfl (fun h8 => ?_) (fun h8 => ?_)
  · skip
    have h8p := of_decide_eq_true h8
    refine wp_skip ?_
    refine wp_seq ?_
    refine wp_block ?_
    refine wp_seq ?_
    refine sx_region ?_
    refine sx rfl (stp_move (v := v) hs7_0 ?_)
    refine sx rfl (stp_move (v := I (i : Int)) hs7_5 ?_)
    refine sx rfl (stp_move (v := I K) hs7_1 ?_)
    have hq_ := some_at (xs := xs) (i := i) (by omega)
    obtain ⟨y, hy⟩ := hq_
    have hcs := cL_takey neI hy
    have hcl := cL_take_le neI xs (i + 1)
    have hne : neI y = 1 := rfl
    have hb9 : Bd K (1 + (0)) := ⟨by omega, by omega⟩
    have hq_ := St.lendx (α := Int) (by decide) st6 (x := y) (mk_gety hy)
    obtain ⟨b10, e10, pre10, cs10, post10, fi10, fr10, hPA10, hC10, st11⟩ := hq_
    have st15 := st11.d1
    obtain ⟨he10, hf10, hok10⟩ := hC10; have he10 : _ = [I y] := he10; subst he10
    skip
    refine sx rfl (stp_indexAddr sl_IntS rfl hPA10 rfl rfl ?_)
    refine sx rfl (stp_store_bp (i := 0) (v := I K) (C' := [I K]) (by kernel_rfl) rfl rfl rfl rfl st15 rfl (Nat.le_of_ble_eq_true rfl) rfl ?_); intro W16 st17
    refine sx_nil ?_
    refine sx_region ?_
    refine sx rfl (stp_move (v := I K) hs7_1 ?_)
    have hb18 := hb9.up
    refine sx rfl (stp_add rfl rfl hb18.i64 ?_)
    refine sx rfl (stp_assign (v := I (K + 1)) rfl ?_)
    refine sx_nil ?_
    refine sx_region ?_
    refine sx rfl (stp_move (v := I (i : Int)) hs7_5 ?_)
    refine sx rfl (stp_add rfl rfl (by (simp only [I64] at *; omega)) ?_)
    refine sx rfl (stp_assign (v := I ((i : Int) + 1)) rfl ?_)
    refine sx_nil ?_
    have st19 := st17.cs0 (cs := [I K]) (x := K) ⟨rfl, rfl, (by (simp only [I64] at *; omega))⟩
    have st21 := st19.f2
    have st22 := st21.f1
    have st23 := st22.f2
    have hq_ := St.give (α := Int) st23
    obtain ⟨fp24, st25⟩ := hq_
    exact ⟨_, xs.length - (i + 1), (by omega), rfl, i + 1, K + 1, fp24, (by omega), (by omega), rfl, hs7_0, rfl, rfl, (by rw [← mk_stepy hy hK]; exact st25)⟩
  · skip
    have h8p := of_decide_eq_false h8
    refine wp_exit ?_
    refine wp_seq ?_
    refine sx_region ?_
    refine sx rfl (stp_move (v := I K) hs7_1 ?_)
    refine sx rfl (stp_assign (v := I K) rfl ?_)
    refine sx_nil ?_
    refine wp_ret ?_; repeat (first | refine then_ret ?_ | refine blk_ret ?_)
    refine ret1 Try.results13 rfl ?_
    obtain rfl : i = xs.length := by omega
    have hca := cL_all neI xs _ rfl
    rw [mk_all rfl] at st6
    exact ⟨_, congrArg (fun z => Ending.returned (I z)) (by omega), st6⟩
set_option maxHeartbeats 2000000 in
theorem heldIntS_n (w : World) {v : Value} {x : List Int} {fp : List Nat} {k : Int} (h : Sl w v (mkL mkI neI x k) fp) (h0 : 0 ≤ k) (hk : k + (cL neI x : Nat) ≤ 4611686018427387904) :
    Calls Try.prog 14 #[v, I k] w fun e w' => e = .returned (I (k + (cL neI x : Nat))) ∧ St w w' [] := by
  have hcap := h.len_le
  rw [mkL_len] at hcap
  have hml : (mkL mkI neI x k).length = x.length := mkL_len _ _
  refine enter2 Try.func14 rfl Try.ntmps14 (by decide) ?_
  refine wp_seq ?_
  refine sx_region ?_
  refine sx rfl (stp_assign (v := I 0) rfl ?_)
  refine sx_nil ?_
  refine wp_seq ?_
  refine wp_seq ?_
  refine sx_region ?_
  refine sx rfl (stp_assign (v := I 0) rfl ?_)
  refine sx_nil ?_
  refine wp_block ?_
  refine sx_loop (fun (m : Nat) (f : Nat → Value) (W : World) => ∃ (i : Nat) (K : Int), i ≤ x.length ∧ K = k + (cL neI (x.take i) : Nat) ∧ m = x.length - i ∧ f 0 = v ∧ f 1 = I K ∧ f 5 = I (i : Int) ∧ St w W ([])) (x.length - 0) ?_ ?_
  · exact ⟨0, k, Nat.zero_le _, (by simp [cL]), rfl, rfl, rfl, rfl, (St.start w)⟩
  intro m1 f2 W3 hJ4
  obtain ⟨i, K, hi, hK, rfl, hs6_0, hs6_1, hs6_5, st5⟩ := hJ4
  refine wp_seq ?_
  refine wp_seq ?_
  refine sx_region ?_
  refine sx rfl (stp_move (v := I (i : Int)) hs6_5 ?_)
  refine sx rfl (stp_move (v := v) hs6_0 ?_)
  refine sx rfl (stp_len sl_IntS rfl h ?_)
  refine sx rfl (stp_lss rfl rfl ?_)
  refine sx_nil ?_
  refine sx_if rfl (fun h7 => ?_) (fun h7 => ?_)
  · skip
    have h7p := of_decide_eq_true h7
    refine wp_skip ?_
    refine wp_seq ?_
    refine wp_block ?_
    refine wp_seq ?_
    refine wp_seq ?_
    refine sx_region ?_
    refine sx rfl (stp_move (v := v) hs6_0 ?_)
    refine sx rfl (stp_move (v := I (i : Int)) hs6_5 ?_)
    have hq_ := some_at (xs := x) (i := i) (by omega)
    obtain ⟨y, hy⟩ := hq_
    have hcs := cL_takey neI hy
    have hcl := cL_take_le neI x (i + 1)
    have hne : neI y = 1 := rfl
    have hb9 : Bd K (1 + (0)) := ⟨by omega, by omega⟩
    have hq_ := idxmy h hy hK
    obtain ⟨b8, o8, cs8, f8, hp8, hr8, hc8, hm8⟩ := hq_
    obtain ⟨he8, rfl, hok8⟩ := hc8; have he8 : _ = [I K] := he8; subst he8
    skip
    refine sx rfl (stp_indexAddr sl_IntS rfl hp8 rfl rfl ?_)
    refine sx rfl (stp_load_rg ld_int rfl rfl hr8 st5.below (i := 0) rfl rfl ?_)
    refine sx rfl (stp_move (v := I K) hs6_1 ?_)
    refine sx rfl (stp_neq rfl rfl ?_)
    refine sx_nil ?_
    refine sx_if rfl (fun h10 => ?_) (fun h10 => ?_)
    · skip
      have h10p := of_decide_eq_false (bnot_t h10)
      exact absurd rfl h10p
    · skip
      have h10p := of_decide_eq_true (bnot_f h10)
      refine wp_skip ?_
      refine sx_region ?_
      refine sx rfl (stp_move (v := I K) hs6_1 ?_)
      have hb11 := hb9.up
      refine sx rfl (stp_add rfl rfl hb11.i64 ?_)
      refine sx rfl (stp_assign (v := I (K + 1)) rfl ?_)
      refine sx_nil ?_
      refine sx_region ?_
      refine sx rfl (stp_move (v := I (i : Int)) hs6_5 ?_)
      refine sx rfl (stp_add rfl rfl (by (simp only [I64] at *; omega)) ?_)
      refine sx rfl (stp_assign (v := I ((i : Int) + 1)) rfl ?_)
      refine sx_nil ?_
      exact ⟨_, x.length - (i + 1), (by omega), rfl, i + 1, K + 1, (by omega), (by omega), rfl, hs6_0, rfl, rfl, st5⟩
  · skip
    have h7p := of_decide_eq_false h7
    refine wp_exit ?_
    refine wp_seq ?_
    refine sx_region ?_
    refine sx rfl (stp_move (v := I K) hs6_1 ?_)
    refine sx rfl (stp_assign (v := I K) rfl ?_)
    refine sx_nil ?_
    refine wp_ret ?_; repeat (first | refine then_ret ?_ | refine blk_ret ?_)
    refine ret1 Try.results14 rfl ?_
    obtain rfl : i = x.length := by omega
    have hca := cL_all neI x _ rfl
    exact ⟨congrArg (fun z => Ending.returned (I z)) (by omega), st5.bare⟩
set_option maxHeartbeats 2000000 in
theorem markEdgeS_n {w W0 : World} {rs : List Res} {v : Value} {xs : List Edge} {fp : List Nat} (hst : St w W0 (Res.own v xs fp :: rs)) (k : Int) (h0 : 0 ≤ k) (hk : k + (cL neE_Edge xs : Nat) ≤ 4611686018427387904) :
    Calls Try.prog 60 #[v, I k] W0 fun e w' => ∃ fp', e = .returned (I (k + (cL neE_Edge xs : Nat))) ∧ St w w' (Res.own v (mkL mkE_Edge neE_Edge xs k) fp' :: rs) := by
  have hcap := (own_Sl (hst.get 0 rfl)).len_le
  refine enter2 Try.func60 rfl Try.ntmps60 (by decide) ?_
  refine wp_seq ?_
  refine sx_region ?_
  refine sx rfl (stp_assign (v := I 0) rfl ?_)
  refine sx_nil ?_
  refine wp_seq ?_
  refine wp_seq ?_
  refine sx_region ?_
  refine sx rfl (stp_assign (v := I 0) rfl ?_)
  refine sx_nil ?_
  refine wp_block ?_
  refine sx_loop (fun (m : Nat) (f : Nat → Value) (W : World) => ∃ (i : Nat) (K : Int) (fo1 : List Nat), i ≤ xs.length ∧ K = k + (cL neE_Edge (xs.take i) : Nat) ∧ m = xs.length - i ∧ f 0 = v ∧ f 1 = I K ∧ f 5 = I (i : Int) ∧ St w W (Res.own (α := List Edge) v (mkL mkE_Edge neE_Edge (xs.take i) k ++ xs.drop i) fo1 :: rs)) (xs.length - 0) ?_ ?_
  · exact ⟨0, k, fp, Nat.zero_le _, (by simp [cL]), rfl, rfl, rfl, rfl, (by simpa [mkL] using hst)⟩
  intro m2 f3 W4 hJ5
  obtain ⟨i, K, fo1, hi, hK, rfl, hs7_0, hs7_1, hs7_5, st6⟩ := hJ5
  have hlx : (mkL mkE_Edge neE_Edge (xs.take i) k ++ xs.drop i).length = xs.length := by rw [List.length_append, mkL_len, List.length_take, List.length_drop]; omega
  refine wp_seq ?_
  refine wp_seq ?_
  refine sx_region ?_
  refine sx rfl (stp_move (v := I (i : Int)) hs7_5 ?_)
  refine sx rfl (stp_move (v := v) hs7_0 ?_)
  refine sx rfl (stp_len sl_EdgeS rfl (own_Sl (st6.get 0 rfl)) ?_)
  refine sx rfl (stp_lss rfl rfl ?_)
  refine sx_nil ?_
  refine sx_if rfl (fun h8 => ?_) (fun h8 => ?_)
  · skip
    have h8p := of_decide_eq_true h8
    refine wp_skip ?_
    refine wp_seq ?_
    refine wp_block ?_
    refine wp_seq ?_
    refine sx_region ?_
    refine sx rfl (stp_move (v := v) hs7_0 ?_)
    refine sx rfl (stp_move (v := I (i : Int)) hs7_5 ?_)
    refine sx rfl (stp_move (v := I K) hs7_1 ?_)
    have hq_ := some_at (xs := xs) (i := i) (by omega)
    obtain ⟨y, hy⟩ := hq_
    have hcs := cL_takey neE_Edge hy
    have hcl := cL_take_le neE_Edge xs (i + 1)
    have hne : neE_Edge y = 2 := rfl
    have hb9 : Bd K (1 + (1 + (0))) := ⟨by omega, by omega⟩
    have hq_ := St.lendx (α := Edge) (by decide) st6 (x := y) (mk_gety hy)
    obtain ⟨b10, e10, pre10, cs10, post10, fi10, fr10, hPA10, hC10, st11⟩ := hq_
    have st15 := st11.d1
    obtain ⟨he10, hf10, hok10⟩ := hC10; have he10 : _ = [I y.from_, I y.to_] := he10; subst he10
    skip
    refine sx rfl (stp_indexAddr sl_EdgeS rfl hPA10 rfl rfl ?_)
    refine sx rfl (stp_fieldAddr fa_Edge_0 rfl ?_)
    refine sx rfl (stp_store_bp (i := 0) (v := I K) (C' := [I K, I y.to_]) (by kernel_rfl) rfl rfl rfl rfl st15 rfl (Nat.le_of_ble_eq_true rfl) rfl ?_); intro W16 st17
    refine sx_nil ?_
    refine wp_seq ?_
    refine sx_region ?_
    refine sx rfl (stp_move (v := I K) hs7_1 ?_)
    have hb18 := hb9.up
    refine sx rfl (stp_add rfl rfl hb18.i64 ?_)
    refine sx rfl (stp_assign (v := I (K + 1)) rfl ?_)
    refine sx_nil ?_
    refine wp_seq ?_
    refine sx_region ?_
    refine sx rfl (stp_move (v := v) hs7_0 ?_)
    refine sx rfl (stp_move (v := I (i : Int)) hs7_5 ?_)
    refine sx rfl (stp_move (v := I (K + 1)) rfl ?_)
    refine sx rfl (stp_indexAddr sl_EdgeS rfl hPA10 rfl rfl ?_)
    refine sx rfl (stp_fieldAddr fa_Edge_1 rfl ?_)
    refine sx rfl (stp_store_bp (i := 1) (v := I (K + 1)) (C' := [I K, I (K + 1)]) (by kernel_rfl) rfl rfl rfl rfl st17 rfl (Nat.le_of_ble_eq_true rfl) rfl ?_); intro W19 st20
    refine sx_nil ?_
    refine sx_region ?_
    refine sx rfl (stp_move (v := I (K + 1)) rfl ?_)
    have hb21 := hb18.up
    refine sx rfl (stp_add rfl rfl hb21.i64 ?_)
    refine sx rfl (stp_assign (v := I ((K + 1) + 1)) rfl ?_)
    refine sx_nil ?_
    refine sx_region ?_
    refine sx rfl (stp_move (v := I (i : Int)) hs7_5 ?_)
    refine sx rfl (stp_add rfl rfl (by (simp only [I64] at *; omega)) ?_)
    refine sx rfl (stp_assign (v := I ((i : Int) + 1)) rfl ?_)
    refine sx_nil ?_
    have st22 := st20.cs0 (cs := [I K, I (K + 1)]) (x := (⟨K, K + 1⟩ : Edge)) ⟨rfl, rfl, (by first | exact True.intro | (simp only [Edge.ok, Plan.ok, Entry.ok, Task.ok, Run.ok, Yard.ok, Reply.ok, Deed.ok, Note.ok, Wait.ok, File.ok, Disk.ok, Engine.ok, WorldD.ok, ActD.ok, Hand.ok, Span.ok, Crew.ok, View.ok, I64] at *; omega))⟩
    have st24 := st22.f2
    have st25 := st24.f1
    have st26 := st25.f2
    have hq_ := St.give (α := Edge) st26
    obtain ⟨fp27, st28⟩ := hq_
    exact ⟨_, xs.length - (i + 1), (by omega), rfl, i + 1, (K + 1) + 1, fp27, (by omega), (by omega), rfl, hs7_0, rfl, rfl, (by rw [← mk_stepy hy hK]; exact st28)⟩
  · skip
    have h8p := of_decide_eq_false h8
    refine wp_exit ?_
    refine wp_seq ?_
    refine sx_region ?_
    refine sx rfl (stp_move (v := I K) hs7_1 ?_)
    refine sx rfl (stp_assign (v := I K) rfl ?_)
    refine sx_nil ?_
    refine wp_ret ?_; repeat (first | refine then_ret ?_ | refine blk_ret ?_)
    refine ret1 Try.results60 rfl ?_
    obtain rfl : i = xs.length := by omega
    have hca := cL_all neE_Edge xs _ rfl
    rw [mk_all rfl] at st6
    exact ⟨_, congrArg (fun z => Ending.returned (I z)) (by omega), st6⟩
set_option maxHeartbeats 2000000 in
theorem heldEdgeS_n (w : World) {v : Value} {x : List Edge} {fp : List Nat} {k : Int} (h : Sl w v (mkL mkE_Edge neE_Edge x k) fp) (h0 : 0 ≤ k) (hk : k + (cL neE_Edge x : Nat) ≤ 4611686018427387904) :
    Calls Try.prog 76 #[v, I k] w fun e w' => e = .returned (I (k + (cL neE_Edge x : Nat))) ∧ St w w' [] := by
  have hcap := h.len_le
  rw [mkL_len] at hcap
  have hml : (mkL mkE_Edge neE_Edge x k).length = x.length := mkL_len _ _
  refine enter2 Try.func76 rfl Try.ntmps76 (by decide) ?_
  refine wp_seq ?_
  refine sx_region ?_
  refine sx rfl (stp_assign (v := I 0) rfl ?_)
  refine sx_nil ?_
  refine wp_seq ?_
  refine wp_seq ?_
  refine sx_region ?_
  refine sx rfl (stp_assign (v := I 0) rfl ?_)
  refine sx_nil ?_
  refine wp_block ?_
  refine sx_loop (fun (m : Nat) (f : Nat → Value) (W : World) => ∃ (i : Nat) (K : Int), i ≤ x.length ∧ K = k + (cL neE_Edge (x.take i) : Nat) ∧ m = x.length - i ∧ f 0 = v ∧ f 1 = I K ∧ f 5 = I (i : Int) ∧ St w W ([])) (x.length - 0) ?_ ?_
  · exact ⟨0, k, Nat.zero_le _, (by simp [cL]), rfl, rfl, rfl, rfl, (St.start w)⟩
  intro m1 f2 W3 hJ4
  obtain ⟨i, K, hi, hK, rfl, hs6_0, hs6_1, hs6_5, st5⟩ := hJ4
  refine wp_seq ?_
  refine wp_seq ?_
  refine sx_region ?_
  refine sx rfl (stp_move (v := I (i : Int)) hs6_5 ?_)
  refine sx rfl (stp_move (v := v) hs6_0 ?_)
  refine sx rfl (stp_len sl_EdgeS rfl h ?_)
  refine sx rfl (stp_lss rfl rfl ?_)
  refine sx_nil ?_
  refine sx_if rfl (fun h7 => ?_) (fun h7 => ?_)
  · skip
    have h7p := of_decide_eq_true h7
    refine wp_skip ?_
    refine wp_seq ?_
    refine wp_block ?_
    refine wp_seq ?_
    refine wp_seq ?_
    refine sx_region ?_
    refine sx rfl (stp_move (v := v) hs6_0 ?_)
    refine sx rfl (stp_move (v := I (i : Int)) hs6_5 ?_)
    have hq_ := some_at (xs := x) (i := i) (by omega)
    obtain ⟨y, hy⟩ := hq_
    have hcs := cL_takey neE_Edge hy
    have hcl := cL_take_le neE_Edge x (i + 1)
    have hne : neE_Edge y = 2 := rfl
    have hb9 : Bd K (1 + (1 + (0))) := ⟨by omega, by omega⟩
    have hq_ := idxmy h hy hK
    obtain ⟨b8, o8, cs8, f8, hp8, hr8, hc8, hm8⟩ := hq_
    have hk10 := hc8
    obtain ⟨he10, rfl, hok10⟩ := hk10
    have he10 : _ = [I K, I (K + 1)] := he10; subst he10
    skip
    refine sx rfl (stp_indexAddr sl_EdgeS rfl hp8 rfl rfl ?_)
    refine sx rfl (stp_fieldAddr fa_Edge_0 rfl ?_)
    refine sx rfl (stp_load_rg ld_int rfl rfl hr8 st5.below (i := 0) rfl rfl ?_)
    refine sx rfl (stp_move (v := I K) hs6_1 ?_)
    refine sx rfl (stp_neq rfl rfl ?_)
    refine sx_nil ?_
    refine sx_if rfl (fun h11 => ?_) (fun h11 => ?_)
    · skip
      have h11p := of_decide_eq_false (bnot_t h11)
      exact absurd rfl h11p
    · skip
      have h11p := of_decide_eq_true (bnot_f h11)
      refine wp_skip ?_
      refine wp_seq ?_
      refine sx_region ?_
      refine sx rfl (stp_move (v := I K) hs6_1 ?_)
      have hb12 := hb9.up
      refine sx rfl (stp_add rfl rfl hb12.i64 ?_)
      refine sx rfl (stp_assign (v := I (K + 1)) rfl ?_)
      refine sx_nil ?_
      refine wp_seq ?_
      refine wp_seq ?_
      refine sx_region ?_
      refine sx rfl (stp_move (v := v) hs6_0 ?_)
      refine sx rfl (stp_move (v := I (i : Int)) hs6_5 ?_)
      skip
      refine sx rfl (stp_indexAddr sl_EdgeS rfl hp8 rfl rfl ?_)
      refine sx rfl (stp_fieldAddr fa_Edge_1 rfl ?_)
      refine sx rfl (stp_load_rg ld_int rfl rfl hr8 st5.below (i := 1) rfl rfl ?_)
      refine sx rfl (stp_move (v := I (K + 1)) rfl ?_)
      refine sx rfl (stp_neq rfl rfl ?_)
      refine sx_nil ?_
      refine sx_if rfl (fun h14 => ?_) (fun h14 => ?_)
      · skip
        have h14p := of_decide_eq_false (bnot_t h14)
        exact absurd rfl h14p
      · skip
        have h14p := of_decide_eq_true (bnot_f h14)
        refine wp_skip ?_
        refine sx_region ?_
        refine sx rfl (stp_move (v := I (K + 1)) rfl ?_)
        have hb15 := hb12.up
        refine sx rfl (stp_add rfl rfl hb15.i64 ?_)
        refine sx rfl (stp_assign (v := I ((K + 1) + 1)) rfl ?_)
        refine sx_nil ?_
        refine sx_region ?_
        refine sx rfl (stp_move (v := I (i : Int)) hs6_5 ?_)
        refine sx rfl (stp_add rfl rfl (by (simp only [I64] at *; omega)) ?_)
        refine sx rfl (stp_assign (v := I ((i : Int) + 1)) rfl ?_)
        refine sx_nil ?_
        exact ⟨_, x.length - (i + 1), (by omega), rfl, i + 1, (K + 1) + 1, (by omega), (by omega), rfl, hs6_0, rfl, rfl, st5⟩
  · skip
    have h7p := of_decide_eq_false h7
    refine wp_exit ?_
    refine wp_seq ?_
    refine sx_region ?_
    refine sx rfl (stp_move (v := I K) hs6_1 ?_)
    refine sx rfl (stp_assign (v := I K) rfl ?_)
    refine sx_nil ?_
    refine wp_ret ?_; repeat (first | refine then_ret ?_ | refine blk_ret ?_)
    refine ret1 Try.results76 rfl ?_
    obtain rfl : i = x.length := by omega
    have hca := cL_all neE_Edge x _ rfl
    exact ⟨congrArg (fun z => Ending.returned (I z)) (by omega), st5.bare⟩
set_option maxHeartbeats 2000000 in
theorem markEntryS_n {w W0 : World} {rs : List Res} {v : Value} {xs : List Entry} {fp : List Nat} (hst : St w W0 (Res.own v xs fp :: rs)) (k : Int) (h0 : 0 ≤ k) (hk : k + (cL neE_Entry xs : Nat) ≤ 4611686018427387904) :
    Calls Try.prog 59 #[v, I k] W0 fun e w' => ∃ fp', e = .returned (I (k + (cL neE_Entry xs : Nat))) ∧ St w w' (Res.own v (mkL mkE_Entry neE_Entry xs k) fp' :: rs) := by
  have hcap := (own_Sl (hst.get 0 rfl)).len_le
  refine enter2 Try.func59 rfl Try.ntmps59 (by decide) ?_
  refine wp_seq ?_
  refine sx_region ?_
  refine sx rfl (stp_assign (v := I 0) rfl ?_)
  refine sx_nil ?_
  refine wp_seq ?_
  refine wp_seq ?_
  refine sx_region ?_
  refine sx rfl (stp_assign (v := I 0) rfl ?_)
  refine sx_nil ?_
  refine wp_block ?_
  refine sx_loop (fun (m : Nat) (f : Nat → Value) (W : World) => ∃ (i : Nat) (K : Int) (fo1 : List Nat), i ≤ xs.length ∧ K = k + (cL neE_Entry (xs.take i) : Nat) ∧ m = xs.length - i ∧ f 0 = v ∧ f 1 = I K ∧ f 5 = I (i : Int) ∧ St w W (Res.own (α := List Entry) v (mkL mkE_Entry neE_Entry (xs.take i) k ++ xs.drop i) fo1 :: rs)) (xs.length - 0) ?_ ?_
  · exact ⟨0, k, fp, Nat.zero_le _, (by simp [cL]), rfl, rfl, rfl, rfl, (by simpa [mkL] using hst)⟩
  intro m2 f3 W4 hJ5
  obtain ⟨i, K, fo1, hi, hK, rfl, hs7_0, hs7_1, hs7_5, st6⟩ := hJ5
  have hlx : (mkL mkE_Entry neE_Entry (xs.take i) k ++ xs.drop i).length = xs.length := by rw [List.length_append, mkL_len, List.length_take, List.length_drop]; omega
  refine wp_seq ?_
  refine wp_seq ?_
  refine sx_region ?_
  refine sx rfl (stp_move (v := I (i : Int)) hs7_5 ?_)
  refine sx rfl (stp_move (v := v) hs7_0 ?_)
  refine sx rfl (stp_len sl_EntryS rfl (own_Sl (st6.get 0 rfl)) ?_)
  refine sx rfl (stp_lss rfl rfl ?_)
  refine sx_nil ?_
  refine sx_if rfl (fun h8 => ?_) (fun h8 => ?_)
  · skip
    have h8p := of_decide_eq_true h8
    refine wp_skip ?_
    refine wp_seq ?_
    refine wp_block ?_
    refine wp_seq ?_
    refine sx_region ?_
    refine sx rfl (stp_move (v := v) hs7_0 ?_)
    refine sx rfl (stp_move (v := I (i : Int)) hs7_5 ?_)
    refine sx rfl (stp_move (v := I K) hs7_1 ?_)
    have hq_ := some_at (xs := xs) (i := i) (by omega)
    obtain ⟨y, hy⟩ := hq_
    have hcs := cL_takey neE_Entry hy
    have hcl := cL_take_le neE_Entry xs (i + 1)
    have hne : neE_Entry y = 4 := rfl
    have hb9 : Bd K (1 + (1 + (1 + (1 + (0))))) := ⟨by omega, by omega⟩
    have hq_ := St.lendx (α := Entry) (by decide) st6 (x := y) (mk_gety hy)
    obtain ⟨b10, e10, pre10, cs10, post10, fi10, fr10, hPA10, hC10, st11⟩ := hq_
    have st15 := st11.d1
    obtain ⟨he10, hf10, hok10⟩ := hC10; have he10 : _ = [I y.prio, I y.seq, I y.run, I y.task] := he10; subst he10
    skip
    refine sx rfl (stp_indexAddr sl_EntryS rfl hPA10 rfl rfl ?_)
    refine sx rfl (stp_fieldAddr fa_Entry_0 rfl ?_)
    refine sx rfl (stp_store_bp (i := 0) (v := I K) (C' := [I K, I y.seq, I y.run, I y.task]) (by kernel_rfl) rfl rfl rfl rfl st15 rfl (Nat.le_of_ble_eq_true rfl) rfl ?_); intro W16 st17
    refine sx_nil ?_
    refine wp_seq ?_
    refine sx_region ?_
    refine sx rfl (stp_move (v := I K) hs7_1 ?_)
    have hb18 := hb9.up
    refine sx rfl (stp_add rfl rfl hb18.i64 ?_)
    refine sx rfl (stp_assign (v := I (K + 1)) rfl ?_)
    refine sx_nil ?_
    refine wp_seq ?_
    refine sx_region ?_
    refine sx rfl (stp_move (v := v) hs7_0 ?_)
    refine sx rfl (stp_move (v := I (i : Int)) hs7_5 ?_)
    refine sx rfl (stp_move (v := I (K + 1)) rfl ?_)
    refine sx rfl (stp_indexAddr sl_EntryS rfl hPA10 rfl rfl ?_)
    refine sx rfl (stp_fieldAddr fa_Entry_1 rfl ?_)
    refine sx rfl (stp_store_bp (i := 1) (v := I (K + 1)) (C' := [I K, I (K + 1), I y.run, I y.task]) (by kernel_rfl) rfl rfl rfl rfl st17 rfl (Nat.le_of_ble_eq_true rfl) rfl ?_); intro W19 st20
    refine sx_nil ?_
    refine wp_seq ?_
    refine sx_region ?_
    refine sx rfl (stp_move (v := I (K + 1)) rfl ?_)
    have hb21 := hb18.up
    refine sx rfl (stp_add rfl rfl hb21.i64 ?_)
    refine sx rfl (stp_assign (v := I ((K + 1) + 1)) rfl ?_)
    refine sx_nil ?_
    refine wp_seq ?_
    refine sx_region ?_
    refine sx rfl (stp_move (v := v) hs7_0 ?_)
    refine sx rfl (stp_move (v := I (i : Int)) hs7_5 ?_)
    refine sx rfl (stp_move (v := I ((K + 1) + 1)) rfl ?_)
    refine sx rfl (stp_indexAddr sl_EntryS rfl hPA10 rfl rfl ?_)
    refine sx rfl (stp_fieldAddr fa_Entry_2 rfl ?_)
    refine sx rfl (stp_store_bp (i := 2) (v := I ((K + 1) + 1)) (C' := [I K, I (K + 1), I ((K + 1) + 1), I y.task]) (by kernel_rfl) rfl rfl rfl rfl st20 rfl (Nat.le_of_ble_eq_true rfl) rfl ?_); intro W22 st23
    refine sx_nil ?_
    refine wp_seq ?_
    refine sx_region ?_
    refine sx rfl (stp_move (v := I ((K + 1) + 1)) rfl ?_)
    have hb24 := hb21.up
    refine sx rfl (stp_add rfl rfl hb24.i64 ?_)
    refine sx rfl (stp_assign (v := I (((K + 1) + 1) + 1)) rfl ?_)
    refine sx_nil ?_
    refine wp_seq ?_
    refine sx_region ?_
    refine sx rfl (stp_move (v := v) hs7_0 ?_)
    refine sx rfl (stp_move (v := I (i : Int)) hs7_5 ?_)
    refine sx rfl (stp_move (v := I (((K + 1) + 1) + 1)) rfl ?_)
    refine sx rfl (stp_indexAddr sl_EntryS rfl hPA10 rfl rfl ?_)
    refine sx rfl (stp_fieldAddr fa_Entry_3 rfl ?_)
    refine sx rfl (stp_store_bp (i := 3) (v := I (((K + 1) + 1) + 1)) (C' := [I K, I (K + 1), I ((K + 1) + 1), I (((K + 1) + 1) + 1)]) (by kernel_rfl) rfl rfl rfl rfl st23 rfl (Nat.le_of_ble_eq_true rfl) rfl ?_); intro W25 st26
    refine sx_nil ?_
    refine sx_region ?_
    refine sx rfl (stp_move (v := I (((K + 1) + 1) + 1)) rfl ?_)
    have hb27 := hb24.up
    refine sx rfl (stp_add rfl rfl hb27.i64 ?_)
    refine sx rfl (stp_assign (v := I ((((K + 1) + 1) + 1) + 1)) rfl ?_)
    refine sx_nil ?_
    refine sx_region ?_
    refine sx rfl (stp_move (v := I (i : Int)) hs7_5 ?_)
    refine sx rfl (stp_add rfl rfl (by (simp only [I64] at *; omega)) ?_)
    refine sx rfl (stp_assign (v := I ((i : Int) + 1)) rfl ?_)
    refine sx_nil ?_
    have st28 := st26.cs0 (cs := [I K, I (K + 1), I ((K + 1) + 1), I (((K + 1) + 1) + 1)]) (x := (⟨K, K + 1, (K + 1) + 1, ((K + 1) + 1) + 1⟩ : Entry)) ⟨rfl, rfl, (by first | exact True.intro | (simp only [Edge.ok, Plan.ok, Entry.ok, Task.ok, Run.ok, Yard.ok, Reply.ok, Deed.ok, Note.ok, Wait.ok, File.ok, Disk.ok, Engine.ok, WorldD.ok, ActD.ok, Hand.ok, Span.ok, Crew.ok, View.ok, I64] at *; omega))⟩
    have st30 := st28.f2
    have st31 := st30.f1
    have st32 := st31.f2
    have hq_ := St.give (α := Entry) st32
    obtain ⟨fp33, st34⟩ := hq_
    exact ⟨_, xs.length - (i + 1), (by omega), rfl, i + 1, (((K + 1) + 1) + 1) + 1, fp33, (by omega), (by omega), rfl, hs7_0, rfl, rfl, (by rw [← mk_stepy hy hK]; exact st34)⟩
  · skip
    have h8p := of_decide_eq_false h8
    refine wp_exit ?_
    refine wp_seq ?_
    refine sx_region ?_
    refine sx rfl (stp_move (v := I K) hs7_1 ?_)
    refine sx rfl (stp_assign (v := I K) rfl ?_)
    refine sx_nil ?_
    refine wp_ret ?_; repeat (first | refine then_ret ?_ | refine blk_ret ?_)
    refine ret1 Try.results59 rfl ?_
    obtain rfl : i = xs.length := by omega
    have hca := cL_all neE_Entry xs _ rfl
    rw [mk_all rfl] at st6
    exact ⟨_, congrArg (fun z => Ending.returned (I z)) (by omega), st6⟩
set_option maxHeartbeats 2000000 in
theorem heldEntryS_n (w : World) {v : Value} {x : List Entry} {fp : List Nat} {k : Int} (h : Sl w v (mkL mkE_Entry neE_Entry x k) fp) (h0 : 0 ≤ k) (hk : k + (cL neE_Entry x : Nat) ≤ 4611686018427387904) :
    Calls Try.prog 99 #[v, I k] w fun e w' => e = .returned (I (k + (cL neE_Entry x : Nat))) ∧ St w w' [] := by
  have hcap := h.len_le
  rw [mkL_len] at hcap
  have hml : (mkL mkE_Entry neE_Entry x k).length = x.length := mkL_len _ _
  refine enter2 Try.func99 rfl Try.ntmps99 (by decide) ?_
  refine wp_seq ?_
  refine sx_region ?_
  refine sx rfl (stp_assign (v := I 0) rfl ?_)
  refine sx_nil ?_
  refine wp_seq ?_
  refine wp_seq ?_
  refine sx_region ?_
  refine sx rfl (stp_assign (v := I 0) rfl ?_)
  refine sx_nil ?_
  refine wp_block ?_
  refine sx_loop (fun (m : Nat) (f : Nat → Value) (W : World) => ∃ (i : Nat) (K : Int), i ≤ x.length ∧ K = k + (cL neE_Entry (x.take i) : Nat) ∧ m = x.length - i ∧ f 0 = v ∧ f 1 = I K ∧ f 5 = I (i : Int) ∧ St w W ([])) (x.length - 0) ?_ ?_
  · exact ⟨0, k, Nat.zero_le _, (by simp [cL]), rfl, rfl, rfl, rfl, (St.start w)⟩
  intro m1 f2 W3 hJ4
  obtain ⟨i, K, hi, hK, rfl, hs6_0, hs6_1, hs6_5, st5⟩ := hJ4
  refine wp_seq ?_
  refine wp_seq ?_
  refine sx_region ?_
  refine sx rfl (stp_move (v := I (i : Int)) hs6_5 ?_)
  refine sx rfl (stp_move (v := v) hs6_0 ?_)
  refine sx rfl (stp_len sl_EntryS rfl h ?_)
  refine sx rfl (stp_lss rfl rfl ?_)
  refine sx_nil ?_
  refine sx_if rfl (fun h7 => ?_) (fun h7 => ?_)
  · skip
    have h7p := of_decide_eq_true h7
    refine wp_skip ?_
    refine wp_seq ?_
    refine wp_block ?_
    refine wp_seq ?_
    refine wp_seq ?_
    refine sx_region ?_
    refine sx rfl (stp_move (v := v) hs6_0 ?_)
    refine sx rfl (stp_move (v := I (i : Int)) hs6_5 ?_)
    have hq_ := some_at (xs := x) (i := i) (by omega)
    obtain ⟨y, hy⟩ := hq_
    have hcs := cL_takey neE_Entry hy
    have hcl := cL_take_le neE_Entry x (i + 1)
    have hne : neE_Entry y = 4 := rfl
    have hb9 : Bd K (1 + (1 + (1 + (1 + (0))))) := ⟨by omega, by omega⟩
    have hq_ := idxmy h hy hK
    obtain ⟨b8, o8, cs8, f8, hp8, hr8, hc8, hm8⟩ := hq_
    have hk10 := hc8
    obtain ⟨he10, rfl, hok10⟩ := hk10
    have he10 : _ = [I K, I (K + 1), I ((K + 1) + 1), I (((K + 1) + 1) + 1)] := he10; subst he10
    skip
    refine sx rfl (stp_indexAddr sl_EntryS rfl hp8 rfl rfl ?_)
    refine sx rfl (stp_fieldAddr fa_Entry_0 rfl ?_)
    refine sx rfl (stp_load_rg ld_int rfl rfl hr8 st5.below (i := 0) rfl rfl ?_)
    refine sx rfl (stp_move (v := I K) hs6_1 ?_)
    refine sx rfl (stp_neq rfl rfl ?_)
    refine sx_nil ?_
    refine sx_if rfl (fun h11 => ?_) (fun h11 => ?_)
    · skip
      have h11p := of_decide_eq_false (bnot_t h11)
      exact absurd rfl h11p
    · skip
      have h11p := of_decide_eq_true (bnot_f h11)
      refine wp_skip ?_
      refine wp_seq ?_
      refine sx_region ?_
      refine sx rfl (stp_move (v := I K) hs6_1 ?_)
      have hb12 := hb9.up
      refine sx rfl (stp_add rfl rfl hb12.i64 ?_)
      refine sx rfl (stp_assign (v := I (K + 1)) rfl ?_)
      refine sx_nil ?_
      refine wp_seq ?_
      refine wp_seq ?_
      refine sx_region ?_
      refine sx rfl (stp_move (v := v) hs6_0 ?_)
      refine sx rfl (stp_move (v := I (i : Int)) hs6_5 ?_)
      skip
      refine sx rfl (stp_indexAddr sl_EntryS rfl hp8 rfl rfl ?_)
      refine sx rfl (stp_fieldAddr fa_Entry_1 rfl ?_)
      refine sx rfl (stp_load_rg ld_int rfl rfl hr8 st5.below (i := 1) rfl rfl ?_)
      refine sx rfl (stp_move (v := I (K + 1)) rfl ?_)
      refine sx rfl (stp_neq rfl rfl ?_)
      refine sx_nil ?_
      refine sx_if rfl (fun h14 => ?_) (fun h14 => ?_)
      · skip
        have h14p := of_decide_eq_false (bnot_t h14)
        exact absurd rfl h14p
      · skip
        have h14p := of_decide_eq_true (bnot_f h14)
        refine wp_skip ?_
        refine wp_seq ?_
        refine sx_region ?_
        refine sx rfl (stp_move (v := I (K + 1)) rfl ?_)
        have hb15 := hb12.up
        refine sx rfl (stp_add rfl rfl hb15.i64 ?_)
        refine sx rfl (stp_assign (v := I ((K + 1) + 1)) rfl ?_)
        refine sx_nil ?_
        refine wp_seq ?_
        refine wp_seq ?_
        refine sx_region ?_
        refine sx rfl (stp_move (v := v) hs6_0 ?_)
        refine sx rfl (stp_move (v := I (i : Int)) hs6_5 ?_)
        skip
        refine sx rfl (stp_indexAddr sl_EntryS rfl hp8 rfl rfl ?_)
        refine sx rfl (stp_fieldAddr fa_Entry_2 rfl ?_)
        refine sx rfl (stp_load_rg ld_int rfl rfl hr8 st5.below (i := 2) rfl rfl ?_)
        refine sx rfl (stp_move (v := I ((K + 1) + 1)) rfl ?_)
        refine sx rfl (stp_neq rfl rfl ?_)
        refine sx_nil ?_
        refine sx_if rfl (fun h17 => ?_) (fun h17 => ?_)
        · skip
          have h17p := of_decide_eq_false (bnot_t h17)
          exact absurd rfl h17p
        · skip
          have h17p := of_decide_eq_true (bnot_f h17)
          refine wp_skip ?_
          refine wp_seq ?_
          refine sx_region ?_
          refine sx rfl (stp_move (v := I ((K + 1) + 1)) rfl ?_)
          have hb18 := hb15.up
          refine sx rfl (stp_add rfl rfl hb18.i64 ?_)
          refine sx rfl (stp_assign (v := I (((K + 1) + 1) + 1)) rfl ?_)
          refine sx_nil ?_
          refine wp_seq ?_
          refine wp_seq ?_
          refine sx_region ?_
          refine sx rfl (stp_move (v := v) hs6_0 ?_)
          refine sx rfl (stp_move (v := I (i : Int)) hs6_5 ?_)
          skip
          refine sx rfl (stp_indexAddr sl_EntryS rfl hp8 rfl rfl ?_)
          refine sx rfl (stp_fieldAddr fa_Entry_3 rfl ?_)
          refine sx rfl (stp_load_rg ld_int rfl rfl hr8 st5.below (i := 3) rfl rfl ?_)
          refine sx rfl (stp_move (v := I (((K + 1) + 1) + 1)) rfl ?_)
          refine sx rfl (stp_neq rfl rfl ?_)
          refine sx_nil ?_
          refine sx_if rfl (fun h20 => ?_) (fun h20 => ?_)
          · skip
            have h20p := of_decide_eq_false (bnot_t h20)
            exact absurd rfl h20p
          · skip
            have h20p := of_decide_eq_true (bnot_f h20)
            refine wp_skip ?_
            refine sx_region ?_
            refine sx rfl (stp_move (v := I (((K + 1) + 1) + 1)) rfl ?_)
            have hb21 := hb18.up
            refine sx rfl (stp_add rfl rfl hb21.i64 ?_)
            refine sx rfl (stp_assign (v := I ((((K + 1) + 1) + 1) + 1)) rfl ?_)
            refine sx_nil ?_
            refine sx_region ?_
            refine sx rfl (stp_move (v := I (i : Int)) hs6_5 ?_)
            refine sx rfl (stp_add rfl rfl (by (simp only [I64] at *; omega)) ?_)
            refine sx rfl (stp_assign (v := I ((i : Int) + 1)) rfl ?_)
            refine sx_nil ?_
            exact ⟨_, x.length - (i + 1), (by omega), rfl, i + 1, (((K + 1) + 1) + 1) + 1, (by omega), (by omega), rfl, hs6_0, rfl, rfl, st5⟩
  · skip
    have h7p := of_decide_eq_false h7
    refine wp_exit ?_
    refine wp_seq ?_
    refine sx_region ?_
    refine sx rfl (stp_move (v := I K) hs6_1 ?_)
    refine sx rfl (stp_assign (v := I K) rfl ?_)
    refine sx_nil ?_
    refine wp_ret ?_; repeat (first | refine then_ret ?_ | refine blk_ret ?_)
    refine ret1 Try.results99 rfl ?_
    obtain rfl : i = x.length := by omega
    have hca := cL_all neE_Entry x _ rfl
    exact ⟨congrArg (fun z => Ending.returned (I z)) (by omega), st5.bare⟩
set_option maxHeartbeats 2000000 in
theorem markTaskS_n {w W0 : World} {rs : List Res} {v : Value} {xs : List Task} {fp : List Nat} (hst : St w W0 (Res.own v xs fp :: rs)) (k : Int) (h0 : 0 ≤ k) (hk : k + (cL neE_Task xs : Nat) ≤ 4611686018427387904) :
    Calls Try.prog 61 #[v, I k] W0 fun e w' => ∃ fp', e = .returned (I (k + (cL neE_Task xs : Nat))) ∧ St w w' (Res.own v (mkL mkE_Task neE_Task xs k) fp' :: rs) := by
  have hcap := (own_Sl (hst.get 0 rfl)).len_le
  refine enter2 Try.func61 rfl Try.ntmps61 (by decide) ?_
  refine wp_seq ?_
  refine sx_region ?_
  refine sx rfl (stp_assign (v := I 0) rfl ?_)
  refine sx_nil ?_
  refine wp_seq ?_
  refine wp_seq ?_
  refine sx_region ?_
  refine sx rfl (stp_assign (v := I 0) rfl ?_)
  refine sx_nil ?_
  refine wp_block ?_
  refine sx_loop (fun (m : Nat) (f : Nat → Value) (W : World) => ∃ (i : Nat) (K : Int) (fo1 : List Nat), i ≤ xs.length ∧ K = k + (cL neE_Task (xs.take i) : Nat) ∧ m = xs.length - i ∧ f 0 = v ∧ f 1 = I K ∧ f 5 = I (i : Int) ∧ St w W (Res.own (α := List Task) v (mkL mkE_Task neE_Task (xs.take i) k ++ xs.drop i) fo1 :: rs)) (xs.length - 0) ?_ ?_
  · exact ⟨0, k, fp, Nat.zero_le _, (by simp [cL]), rfl, rfl, rfl, rfl, (by simpa [mkL] using hst)⟩
  intro m2 f3 W4 hJ5
  obtain ⟨i, K, fo1, hi, hK, rfl, hs7_0, hs7_1, hs7_5, st6⟩ := hJ5
  have hlx : (mkL mkE_Task neE_Task (xs.take i) k ++ xs.drop i).length = xs.length := by rw [List.length_append, mkL_len, List.length_take, List.length_drop]; omega
  refine wp_seq ?_
  refine wp_seq ?_
  refine sx_region ?_
  refine sx rfl (stp_move (v := I (i : Int)) hs7_5 ?_)
  refine sx rfl (stp_move (v := v) hs7_0 ?_)
  refine sx rfl (stp_len sl_TaskS rfl (own_Sl (st6.get 0 rfl)) ?_)
  refine sx rfl (stp_lss rfl rfl ?_)
  refine sx_nil ?_
  refine sx_if rfl (fun h8 => ?_) (fun h8 => ?_)
  · skip
    have h8p := of_decide_eq_true h8
    refine wp_skip ?_
    refine wp_seq ?_
    refine wp_block ?_
    refine wp_seq ?_
    refine sx_region ?_
    refine sx rfl (stp_move (v := v) hs7_0 ?_)
    refine sx rfl (stp_move (v := I (i : Int)) hs7_5 ?_)
    refine sx rfl (stp_move (v := I K) hs7_1 ?_)
    have hq_ := some_at (xs := xs) (i := i) (by omega)
    obtain ⟨y, hy⟩ := hq_
    have hcs := cL_takey neE_Task hy
    have hcl := cL_take_le neE_Task xs (i + 1)
    have hne : neE_Task y = 4 := rfl
    have hb9 : Bd K (1 + (1 + (1 + (1 + (0))))) := ⟨by omega, by omega⟩
    have hq_ := St.lendx (α := Task) (by decide) st6 (x := y) (mk_gety hy)
    obtain ⟨b10, e10, pre10, cs10, post10, fi10, fr10, hPA10, hC10, st11⟩ := hq_
    have st15 := st11.d1
    obtain ⟨he10, hf10, hok10⟩ := hC10; have he10 : _ = [I y.state, I y.need, I y.try_, I y.until_] := he10; subst he10
    skip
    refine sx rfl (stp_indexAddr sl_TaskS rfl hPA10 rfl rfl ?_)
    refine sx rfl (stp_fieldAddr fa_Task_0 rfl ?_)
    refine sx rfl (stp_store_bp (i := 0) (v := I K) (C' := [I K, I y.need, I y.try_, I y.until_]) (by kernel_rfl) rfl rfl rfl rfl st15 rfl (Nat.le_of_ble_eq_true rfl) rfl ?_); intro W16 st17
    refine sx_nil ?_
    refine wp_seq ?_
    refine sx_region ?_
    refine sx rfl (stp_move (v := I K) hs7_1 ?_)
    have hb18 := hb9.up
    refine sx rfl (stp_add rfl rfl hb18.i64 ?_)
    refine sx rfl (stp_assign (v := I (K + 1)) rfl ?_)
    refine sx_nil ?_
    refine wp_seq ?_
    refine sx_region ?_
    refine sx rfl (stp_move (v := v) hs7_0 ?_)
    refine sx rfl (stp_move (v := I (i : Int)) hs7_5 ?_)
    refine sx rfl (stp_move (v := I (K + 1)) rfl ?_)
    refine sx rfl (stp_indexAddr sl_TaskS rfl hPA10 rfl rfl ?_)
    refine sx rfl (stp_fieldAddr fa_Task_1 rfl ?_)
    refine sx rfl (stp_store_bp (i := 1) (v := I (K + 1)) (C' := [I K, I (K + 1), I y.try_, I y.until_]) (by kernel_rfl) rfl rfl rfl rfl st17 rfl (Nat.le_of_ble_eq_true rfl) rfl ?_); intro W19 st20
    refine sx_nil ?_
    refine wp_seq ?_
    refine sx_region ?_
    refine sx rfl (stp_move (v := I (K + 1)) rfl ?_)
    have hb21 := hb18.up
    refine sx rfl (stp_add rfl rfl hb21.i64 ?_)
    refine sx rfl (stp_assign (v := I ((K + 1) + 1)) rfl ?_)
    refine sx_nil ?_
    refine wp_seq ?_
    refine sx_region ?_
    refine sx rfl (stp_move (v := v) hs7_0 ?_)
    refine sx rfl (stp_move (v := I (i : Int)) hs7_5 ?_)
    refine sx rfl (stp_move (v := I ((K + 1) + 1)) rfl ?_)
    refine sx rfl (stp_indexAddr sl_TaskS rfl hPA10 rfl rfl ?_)
    refine sx rfl (stp_fieldAddr fa_Task_2 rfl ?_)
    refine sx rfl (stp_store_bp (i := 2) (v := I ((K + 1) + 1)) (C' := [I K, I (K + 1), I ((K + 1) + 1), I y.until_]) (by kernel_rfl) rfl rfl rfl rfl st20 rfl (Nat.le_of_ble_eq_true rfl) rfl ?_); intro W22 st23
    refine sx_nil ?_
    refine wp_seq ?_
    refine sx_region ?_
    refine sx rfl (stp_move (v := I ((K + 1) + 1)) rfl ?_)
    have hb24 := hb21.up
    refine sx rfl (stp_add rfl rfl hb24.i64 ?_)
    refine sx rfl (stp_assign (v := I (((K + 1) + 1) + 1)) rfl ?_)
    refine sx_nil ?_
    refine wp_seq ?_
    refine sx_region ?_
    refine sx rfl (stp_move (v := v) hs7_0 ?_)
    refine sx rfl (stp_move (v := I (i : Int)) hs7_5 ?_)
    refine sx rfl (stp_move (v := I (((K + 1) + 1) + 1)) rfl ?_)
    refine sx rfl (stp_indexAddr sl_TaskS rfl hPA10 rfl rfl ?_)
    refine sx rfl (stp_fieldAddr fa_Task_3 rfl ?_)
    refine sx rfl (stp_store_bp (i := 3) (v := I (((K + 1) + 1) + 1)) (C' := [I K, I (K + 1), I ((K + 1) + 1), I (((K + 1) + 1) + 1)]) (by kernel_rfl) rfl rfl rfl rfl st23 rfl (Nat.le_of_ble_eq_true rfl) rfl ?_); intro W25 st26
    refine sx_nil ?_
    refine sx_region ?_
    refine sx rfl (stp_move (v := I (((K + 1) + 1) + 1)) rfl ?_)
    have hb27 := hb24.up
    refine sx rfl (stp_add rfl rfl hb27.i64 ?_)
    refine sx rfl (stp_assign (v := I ((((K + 1) + 1) + 1) + 1)) rfl ?_)
    refine sx_nil ?_
    refine sx_region ?_
    refine sx rfl (stp_move (v := I (i : Int)) hs7_5 ?_)
    refine sx rfl (stp_add rfl rfl (by (simp only [I64] at *; omega)) ?_)
    refine sx rfl (stp_assign (v := I ((i : Int) + 1)) rfl ?_)
    refine sx_nil ?_
    have st28 := st26.cs0 (cs := [I K, I (K + 1), I ((K + 1) + 1), I (((K + 1) + 1) + 1)]) (x := (⟨K, K + 1, (K + 1) + 1, ((K + 1) + 1) + 1⟩ : Task)) ⟨rfl, rfl, (by first | exact True.intro | (simp only [Edge.ok, Plan.ok, Entry.ok, Task.ok, Run.ok, Yard.ok, Reply.ok, Deed.ok, Note.ok, Wait.ok, File.ok, Disk.ok, Engine.ok, WorldD.ok, ActD.ok, Hand.ok, Span.ok, Crew.ok, View.ok, I64] at *; omega))⟩
    have st30 := st28.f2
    have st31 := st30.f1
    have st32 := st31.f2
    have hq_ := St.give (α := Task) st32
    obtain ⟨fp33, st34⟩ := hq_
    exact ⟨_, xs.length - (i + 1), (by omega), rfl, i + 1, (((K + 1) + 1) + 1) + 1, fp33, (by omega), (by omega), rfl, hs7_0, rfl, rfl, (by rw [← mk_stepy hy hK]; exact st34)⟩
  · skip
    have h8p := of_decide_eq_false h8
    refine wp_exit ?_
    refine wp_seq ?_
    refine sx_region ?_
    refine sx rfl (stp_move (v := I K) hs7_1 ?_)
    refine sx rfl (stp_assign (v := I K) rfl ?_)
    refine sx_nil ?_
    refine wp_ret ?_; repeat (first | refine then_ret ?_ | refine blk_ret ?_)
    refine ret1 Try.results61 rfl ?_
    obtain rfl : i = xs.length := by omega
    have hca := cL_all neE_Task xs _ rfl
    rw [mk_all rfl] at st6
    exact ⟨_, congrArg (fun z => Ending.returned (I z)) (by omega), st6⟩
set_option maxHeartbeats 2000000 in
theorem heldTaskS_n (w : World) {v : Value} {x : List Task} {fp : List Nat} {k : Int} (h : Sl w v (mkL mkE_Task neE_Task x k) fp) (h0 : 0 ≤ k) (hk : k + (cL neE_Task x : Nat) ≤ 4611686018427387904) :
    Calls Try.prog 100 #[v, I k] w fun e w' => e = .returned (I (k + (cL neE_Task x : Nat))) ∧ St w w' [] := by
  have hcap := h.len_le
  rw [mkL_len] at hcap
  have hml : (mkL mkE_Task neE_Task x k).length = x.length := mkL_len _ _
  refine enter2 Try.func100 rfl Try.ntmps100 (by decide) ?_
  refine wp_seq ?_
  refine sx_region ?_
  refine sx rfl (stp_assign (v := I 0) rfl ?_)
  refine sx_nil ?_
  refine wp_seq ?_
  refine wp_seq ?_
  refine sx_region ?_
  refine sx rfl (stp_assign (v := I 0) rfl ?_)
  refine sx_nil ?_
  refine wp_block ?_
  refine sx_loop (fun (m : Nat) (f : Nat → Value) (W : World) => ∃ (i : Nat) (K : Int), i ≤ x.length ∧ K = k + (cL neE_Task (x.take i) : Nat) ∧ m = x.length - i ∧ f 0 = v ∧ f 1 = I K ∧ f 5 = I (i : Int) ∧ St w W ([])) (x.length - 0) ?_ ?_
  · exact ⟨0, k, Nat.zero_le _, (by simp [cL]), rfl, rfl, rfl, rfl, (St.start w)⟩
  intro m1 f2 W3 hJ4
  obtain ⟨i, K, hi, hK, rfl, hs6_0, hs6_1, hs6_5, st5⟩ := hJ4
  refine wp_seq ?_
  refine wp_seq ?_
  refine sx_region ?_
  refine sx rfl (stp_move (v := I (i : Int)) hs6_5 ?_)
  refine sx rfl (stp_move (v := v) hs6_0 ?_)
  refine sx rfl (stp_len sl_TaskS rfl h ?_)
  refine sx rfl (stp_lss rfl rfl ?_)
  refine sx_nil ?_
  refine sx_if rfl (fun h7 => ?_) (fun h7 => ?_)
  · skip
    have h7p := of_decide_eq_true h7
    refine wp_skip ?_
    refine wp_seq ?_
    refine wp_block ?_
    refine wp_seq ?_
    refine wp_seq ?_
    refine sx_region ?_
    refine sx rfl (stp_move (v := v) hs6_0 ?_)
    refine sx rfl (stp_move (v := I (i : Int)) hs6_5 ?_)
    have hq_ := some_at (xs := x) (i := i) (by omega)
    obtain ⟨y, hy⟩ := hq_
    have hcs := cL_takey neE_Task hy
    have hcl := cL_take_le neE_Task x (i + 1)
    have hne : neE_Task y = 4 := rfl
    have hb9 : Bd K (1 + (1 + (1 + (1 + (0))))) := ⟨by omega, by omega⟩
    have hq_ := idxmy h hy hK
    obtain ⟨b8, o8, cs8, f8, hp8, hr8, hc8, hm8⟩ := hq_
    have hk10 := hc8
    obtain ⟨he10, rfl, hok10⟩ := hk10
    have he10 : _ = [I K, I (K + 1), I ((K + 1) + 1), I (((K + 1) + 1) + 1)] := he10; subst he10
    skip
    refine sx rfl (stp_indexAddr sl_TaskS rfl hp8 rfl rfl ?_)
    refine sx rfl (stp_fieldAddr fa_Task_0 rfl ?_)
    refine sx rfl (stp_load_rg ld_int rfl rfl hr8 st5.below (i := 0) rfl rfl ?_)
    refine sx rfl (stp_move (v := I K) hs6_1 ?_)
    refine sx rfl (stp_neq rfl rfl ?_)
    refine sx_nil ?_
    refine sx_if rfl (fun h11 => ?_) (fun h11 => ?_)
    · skip
      have h11p := of_decide_eq_false (bnot_t h11)
      exact absurd rfl h11p
    · skip
      have h11p := of_decide_eq_true (bnot_f h11)
      refine wp_skip ?_
      refine wp_seq ?_
      refine sx_region ?_
      refine sx rfl (stp_move (v := I K) hs6_1 ?_)
      have hb12 := hb9.up
      refine sx rfl (stp_add rfl rfl hb12.i64 ?_)
      refine sx rfl (stp_assign (v := I (K + 1)) rfl ?_)
      refine sx_nil ?_
      refine wp_seq ?_
      refine wp_seq ?_
      refine sx_region ?_
      refine sx rfl (stp_move (v := v) hs6_0 ?_)
      refine sx rfl (stp_move (v := I (i : Int)) hs6_5 ?_)
      skip
      refine sx rfl (stp_indexAddr sl_TaskS rfl hp8 rfl rfl ?_)
      refine sx rfl (stp_fieldAddr fa_Task_1 rfl ?_)
      refine sx rfl (stp_load_rg ld_int rfl rfl hr8 st5.below (i := 1) rfl rfl ?_)
      refine sx rfl (stp_move (v := I (K + 1)) rfl ?_)
      refine sx rfl (stp_neq rfl rfl ?_)
      refine sx_nil ?_
      refine sx_if rfl (fun h14 => ?_) (fun h14 => ?_)
      · skip
        have h14p := of_decide_eq_false (bnot_t h14)
        exact absurd rfl h14p
      · skip
        have h14p := of_decide_eq_true (bnot_f h14)
        refine wp_skip ?_
        refine wp_seq ?_
        refine sx_region ?_
        refine sx rfl (stp_move (v := I (K + 1)) rfl ?_)
        have hb15 := hb12.up
        refine sx rfl (stp_add rfl rfl hb15.i64 ?_)
        refine sx rfl (stp_assign (v := I ((K + 1) + 1)) rfl ?_)
        refine sx_nil ?_
        refine wp_seq ?_
        refine wp_seq ?_
        refine sx_region ?_
        refine sx rfl (stp_move (v := v) hs6_0 ?_)
        refine sx rfl (stp_move (v := I (i : Int)) hs6_5 ?_)
        skip
        refine sx rfl (stp_indexAddr sl_TaskS rfl hp8 rfl rfl ?_)
        refine sx rfl (stp_fieldAddr fa_Task_2 rfl ?_)
        refine sx rfl (stp_load_rg ld_int rfl rfl hr8 st5.below (i := 2) rfl rfl ?_)
        refine sx rfl (stp_move (v := I ((K + 1) + 1)) rfl ?_)
        refine sx rfl (stp_neq rfl rfl ?_)
        refine sx_nil ?_
        refine sx_if rfl (fun h17 => ?_) (fun h17 => ?_)
        · skip
          have h17p := of_decide_eq_false (bnot_t h17)
          exact absurd rfl h17p
        · skip
          have h17p := of_decide_eq_true (bnot_f h17)
          refine wp_skip ?_
          refine wp_seq ?_
          refine sx_region ?_
          refine sx rfl (stp_move (v := I ((K + 1) + 1)) rfl ?_)
          have hb18 := hb15.up
          refine sx rfl (stp_add rfl rfl hb18.i64 ?_)
          refine sx rfl (stp_assign (v := I (((K + 1) + 1) + 1)) rfl ?_)
          refine sx_nil ?_
          refine wp_seq ?_
          refine wp_seq ?_
          refine sx_region ?_
          refine sx rfl (stp_move (v := v) hs6_0 ?_)
          refine sx rfl (stp_move (v := I (i : Int)) hs6_5 ?_)
          skip
          refine sx rfl (stp_indexAddr sl_TaskS rfl hp8 rfl rfl ?_)
          refine sx rfl (stp_fieldAddr fa_Task_3 rfl ?_)
          refine sx rfl (stp_load_rg ld_int rfl rfl hr8 st5.below (i := 3) rfl rfl ?_)
          refine sx rfl (stp_move (v := I (((K + 1) + 1) + 1)) rfl ?_)
          refine sx rfl (stp_neq rfl rfl ?_)
          refine sx_nil ?_
          refine sx_if rfl (fun h20 => ?_) (fun h20 => ?_)
          · skip
            have h20p := of_decide_eq_false (bnot_t h20)
            exact absurd rfl h20p
          · skip
            have h20p := of_decide_eq_true (bnot_f h20)
            refine wp_skip ?_
            refine sx_region ?_
            refine sx rfl (stp_move (v := I (((K + 1) + 1) + 1)) rfl ?_)
            have hb21 := hb18.up
            refine sx rfl (stp_add rfl rfl hb21.i64 ?_)
            refine sx rfl (stp_assign (v := I ((((K + 1) + 1) + 1) + 1)) rfl ?_)
            refine sx_nil ?_
            refine sx_region ?_
            refine sx rfl (stp_move (v := I (i : Int)) hs6_5 ?_)
            refine sx rfl (stp_add rfl rfl (by (simp only [I64] at *; omega)) ?_)
            refine sx rfl (stp_assign (v := I ((i : Int) + 1)) rfl ?_)
            refine sx_nil ?_
            exact ⟨_, x.length - (i + 1), (by omega), rfl, i + 1, (((K + 1) + 1) + 1) + 1, (by omega), (by omega), rfl, hs6_0, rfl, rfl, st5⟩
  · skip
    have h7p := of_decide_eq_false h7
    refine wp_exit ?_
    refine wp_seq ?_
    refine sx_region ?_
    refine sx rfl (stp_move (v := I K) hs6_1 ?_)
    refine sx rfl (stp_assign (v := I K) rfl ?_)
    refine sx_nil ?_
    refine wp_ret ?_; repeat (first | refine then_ret ?_ | refine blk_ret ?_)
    refine ret1 Try.results100 rfl ?_
    obtain rfl : i = x.length := by omega
    have hca := cL_all neE_Task x _ rfl
    exact ⟨congrArg (fun z => Ending.returned (I z)) (by omega), st5.bare⟩
set_option maxHeartbeats 2000000 in
theorem markRunS_n {w W0 : World} {rs : List Res} {v : Value} {xs : List Run} {fp : List Nat} (hst : St w W0 (Res.own v xs fp :: rs)) (k : Int) (h0 : 0 ≤ k) (hk : k + (cL neE_Run xs : Nat) ≤ 4611686018427387904) :
    Calls Try.prog 34 #[v, I k] W0 fun e w' => ∃ fp', e = .returned (I (k + (cL neE_Run xs : Nat))) ∧ St w w' (Res.own v (mkL mkE_Run neE_Run xs k) fp' :: rs) := by
  have hcap := (own_Sl (hst.get 0 rfl)).len_le
  refine enter2 Try.func34 rfl Try.ntmps34 (by decide) ?_
  refine wp_seq ?_
  refine sx_region ?_
  refine sx rfl (stp_assign (v := I 0) rfl ?_)
  refine sx_nil ?_
  refine wp_seq ?_
  refine wp_seq ?_
  refine sx_region ?_
  refine sx rfl (stp_assign (v := I 0) rfl ?_)
  refine sx_nil ?_
  refine wp_block ?_
  refine sx_loop (fun (m : Nat) (f : Nat → Value) (W : World) => ∃ (i : Nat) (K : Int) (fo1 : List Nat), i ≤ xs.length ∧ K = k + (cL neE_Run (xs.take i) : Nat) ∧ m = xs.length - i ∧ f 0 = v ∧ f 1 = I K ∧ f 5 = I (i : Int) ∧ St w W (Res.own (α := List Run) v (mkL mkE_Run neE_Run (xs.take i) k ++ xs.drop i) fo1 :: rs)) (xs.length - 0) ?_ ?_
  · exact ⟨0, k, fp, Nat.zero_le _, (by simp [cL]), rfl, rfl, rfl, rfl, (by simpa [mkL] using hst)⟩
  intro m2 f3 W4 hJ5
  obtain ⟨i, K, fo1, hi, hK, rfl, hs7_0, hs7_1, hs7_5, st6⟩ := hJ5
  have hlx : (mkL mkE_Run neE_Run (xs.take i) k ++ xs.drop i).length = xs.length := by rw [List.length_append, mkL_len, List.length_take, List.length_drop]; omega
  refine wp_seq ?_
  refine wp_seq ?_
  refine sx_region ?_
  refine sx rfl (stp_move (v := I (i : Int)) hs7_5 ?_)
  refine sx rfl (stp_move (v := v) hs7_0 ?_)
  refine sx rfl (stp_len sl_RunS rfl (own_Sl (st6.get 0 rfl)) ?_)
  refine sx rfl (stp_lss rfl rfl ?_)
  refine sx_nil ?_
  refine sx_if rfl (fun h8 => ?_) (fun h8 => ?_)
  · skip
    have h8p := of_decide_eq_true h8
    refine wp_skip ?_
    refine wp_seq ?_
    refine wp_block ?_
    refine wp_seq ?_
    refine sx_region ?_
    refine sx rfl (stp_move (v := v) hs7_0 ?_)
    refine sx rfl (stp_move (v := I (i : Int)) hs7_5 ?_)
    refine sx rfl (stp_move (v := I K) hs7_1 ?_)
    have hq_ := some_at (xs := xs) (i := i) (by omega)
    obtain ⟨y, hy⟩ := hq_
    have hcs := cL_takey neE_Run hy
    have hcl := cL_take_le neE_Run xs (i + 1)
    have hne : neE_Run y = 6 + cL neE_Edge y.plan.edges + cL neE_Task y.tasks := rfl
    have hb9 : Bd K (1 + (1 + (1 + (1 + (1 + ((cL neE_Edge y.plan.edges) + (1 + ((cL neE_Task y.tasks) + (0))))))))) := ⟨by omega, by omega⟩
    have hq_ := St.lendx (α := Run) (by decide) st6 (x := y) (mk_gety hy)
    obtain ⟨b10, e10, pre10, cs10, post10, fi10, fr10, hPA10, hC10, st11⟩ := hq_
    have st15 := st11.f1
    have st16 := st15.uncs rfl
    have hq_ := open_Run st16
    obtain ⟨v17_0, v17_1, g17_0, g17_1, he17, hok17, st18⟩ := hq_
    subst he17
    skip
    refine sx rfl (stp_indexAddr sl_RunS rfl hPA10 rfl rfl ?_)
    refine sx rfl (stp_fieldAddr fa_Run_0 rfl ?_)
    have st21 := st18.f2
    refine sx rfl (stp_store_bp (i := 0) (v := I K) (C' := [I K, I y.plan.prio, I y.plan.most, I y.plan.wait, I y.plan.tasks, v17_0, I y.state, v17_1]) (by kernel_rfl) rfl rfl rfl rfl st21 rfl (Nat.le_of_ble_eq_true rfl) rfl ?_); intro W22 st23
    refine sx_nil ?_
    refine wp_seq ?_
    refine sx_region ?_
    refine sx rfl (stp_move (v := I K) hs7_1 ?_)
    have hb24 := hb9.up
    refine sx rfl (stp_add rfl rfl hb24.i64 ?_)
    refine sx rfl (stp_assign (v := I (K + 1)) rfl ?_)
    refine sx_nil ?_
    refine wp_seq ?_
    refine sx_region ?_
    refine sx rfl (stp_move (v := v) hs7_0 ?_)
    refine sx rfl (stp_move (v := I (i : Int)) hs7_5 ?_)
    refine sx rfl (stp_move (v := I (K + 1)) rfl ?_)
    refine sx rfl (stp_indexAddr sl_RunS rfl hPA10 rfl rfl ?_)
    refine sx rfl (stp_fieldAddr fa_Run_1 rfl ?_)
    refine sx rfl (stp_fieldAddr fa_Plan_0 rfl ?_)
    refine sx rfl (stp_store_bp (i := 1) (v := I (K + 1)) (C' := [I K, I (K + 1), I y.plan.most, I y.plan.wait, I y.plan.tasks, v17_0, I y.state, v17_1]) (by kernel_rfl) rfl rfl rfl rfl st23 rfl (Nat.le_of_ble_eq_true rfl) rfl ?_); intro W25 st26
    refine sx_nil ?_
    refine wp_seq ?_
    refine sx_region ?_
    refine sx rfl (stp_move (v := I (K + 1)) rfl ?_)
    have hb27 := hb24.up
    refine sx rfl (stp_add rfl rfl hb27.i64 ?_)
    refine sx rfl (stp_assign (v := I ((K + 1) + 1)) rfl ?_)
    refine sx_nil ?_
    refine wp_seq ?_
    refine sx_region ?_
    refine sx rfl (stp_move (v := v) hs7_0 ?_)
    refine sx rfl (stp_move (v := I (i : Int)) hs7_5 ?_)
    refine sx rfl (stp_move (v := I ((K + 1) + 1)) rfl ?_)
    refine sx rfl (stp_indexAddr sl_RunS rfl hPA10 rfl rfl ?_)
    refine sx rfl (stp_fieldAddr fa_Run_1 rfl ?_)
    refine sx rfl (stp_fieldAddr fa_Plan_1 rfl ?_)
    refine sx rfl (stp_store_bp (i := 2) (v := I ((K + 1) + 1)) (C' := [I K, I (K + 1), I ((K + 1) + 1), I y.plan.wait, I y.plan.tasks, v17_0, I y.state, v17_1]) (by kernel_rfl) rfl rfl rfl rfl st26 rfl (Nat.le_of_ble_eq_true rfl) rfl ?_); intro W28 st29
    refine sx_nil ?_
    refine wp_seq ?_
    refine sx_region ?_
    refine sx rfl (stp_move (v := I ((K + 1) + 1)) rfl ?_)
    have hb30 := hb27.up
    refine sx rfl (stp_add rfl rfl hb30.i64 ?_)
    refine sx rfl (stp_assign (v := I (((K + 1) + 1) + 1)) rfl ?_)
    refine sx_nil ?_
    refine wp_seq ?_
    refine sx_region ?_
    refine sx rfl (stp_move (v := v) hs7_0 ?_)
    refine sx rfl (stp_move (v := I (i : Int)) hs7_5 ?_)
    refine sx rfl (stp_move (v := I (((K + 1) + 1) + 1)) rfl ?_)
    refine sx rfl (stp_indexAddr sl_RunS rfl hPA10 rfl rfl ?_)
    refine sx rfl (stp_fieldAddr fa_Run_1 rfl ?_)
    refine sx rfl (stp_fieldAddr fa_Plan_2 rfl ?_)
    refine sx rfl (stp_store_bp (i := 3) (v := I (((K + 1) + 1) + 1)) (C' := [I K, I (K + 1), I ((K + 1) + 1), I (((K + 1) + 1) + 1), I y.plan.tasks, v17_0, I y.state, v17_1]) (by kernel_rfl) rfl rfl rfl rfl st29 rfl (Nat.le_of_ble_eq_true rfl) rfl ?_); intro W31 st32
    refine sx_nil ?_
    refine wp_seq ?_
    refine sx_region ?_
    refine sx rfl (stp_move (v := I (((K + 1) + 1) + 1)) rfl ?_)
    have hb33 := hb30.up
    refine sx rfl (stp_add rfl rfl hb33.i64 ?_)
    refine sx rfl (stp_assign (v := I ((((K + 1) + 1) + 1) + 1)) rfl ?_)
    refine sx_nil ?_
    refine wp_seq ?_
    refine sx_region ?_
    refine sx rfl (stp_move (v := v) hs7_0 ?_)
    refine sx rfl (stp_move (v := I (i : Int)) hs7_5 ?_)
    refine sx rfl (stp_move (v := I ((((K + 1) + 1) + 1) + 1)) rfl ?_)
    refine sx rfl (stp_indexAddr sl_RunS rfl hPA10 rfl rfl ?_)
    refine sx rfl (stp_fieldAddr fa_Run_1 rfl ?_)
    refine sx rfl (stp_fieldAddr fa_Plan_3 rfl ?_)
    refine sx rfl (stp_store_bp (i := 4) (v := I ((((K + 1) + 1) + 1) + 1)) (C' := [I K, I (K + 1), I ((K + 1) + 1), I (((K + 1) + 1) + 1), I ((((K + 1) + 1) + 1) + 1), v17_0, I y.state, v17_1]) (by kernel_rfl) rfl rfl rfl rfl st32 rfl (Nat.le_of_ble_eq_true rfl) rfl ?_); intro W34 st35
    refine sx_nil ?_
    refine wp_seq ?_
    refine sx_region ?_
    refine sx rfl (stp_move (v := I ((((K + 1) + 1) + 1) + 1)) rfl ?_)
    have hb36 := hb33.up
    refine sx rfl (stp_add rfl rfl hb36.i64 ?_)
    refine sx rfl (stp_assign (v := I (((((K + 1) + 1) + 1) + 1) + 1)) rfl ?_)
    refine sx_nil ?_
    refine wp_seq ?_
    refine sx_region ?_
    refine sx rfl (stp_move (v := v) hs7_0 ?_)
    refine sx rfl (stp_move (v := I (i : Int)) hs7_5 ?_)
    refine sx rfl (stp_indexAddr sl_RunS rfl hPA10 rfl rfl ?_)
    refine sx rfl (stp_fieldAddr fa_Run_1 rfl ?_)
    refine sx rfl (stp_fieldAddr fa_Plan_4 rfl ?_)
    refine sx rfl (stp_load_bp ld_EdgeS rfl rfl (st35.get 0 rfl) (i := 5) rfl rfl ?_)
    refine sx rfl (stp_move (v := I (((((K + 1) + 1) + 1) + 1) + 1)) rfl ?_)
    have st41 := st35.f1
    have hb42 := hb36.upc
    refine sx rfl (stp_call2 Try.func60 rfl rfl rfl ((markEdgeS_n st41 (((((K + 1) + 1) + 1) + 1) + 1) hb36.lo hb36.hi).mono ?_)); rintro _ W37 ⟨fp40, rfl, st39⟩; refine ⟨_, rfl, ?_⟩
    refine sx rfl (stp_assign (v := I ((((((K + 1) + 1) + 1) + 1) + 1) + (cL neE_Edge y.plan.edges : Nat))) rfl ?_)
    refine sx_nil ?_
    refine wp_seq ?_
    refine sx_region ?_
    refine sx rfl (stp_move (v := v) hs7_0 ?_)
    refine sx rfl (stp_move (v := I (i : Int)) hs7_5 ?_)
    refine sx rfl (stp_move (v := I ((((((K + 1) + 1) + 1) + 1) + 1) + (cL neE_Edge y.plan.edges : Nat))) rfl ?_)
    refine sx rfl (stp_indexAddr sl_RunS rfl hPA10 rfl rfl ?_)
    refine sx rfl (stp_fieldAddr fa_Run_2 rfl ?_)
    have st43 := st39.f1
    refine sx rfl (stp_store_bp (i := 6) (v := I ((((((K + 1) + 1) + 1) + 1) + 1) + (cL neE_Edge y.plan.edges : Nat))) (C' := [I K, I (K + 1), I ((K + 1) + 1), I (((K + 1) + 1) + 1), I ((((K + 1) + 1) + 1) + 1), v17_0, I ((((((K + 1) + 1) + 1) + 1) + 1) + (cL neE_Edge y.plan.edges : Nat)), v17_1]) (by kernel_rfl) rfl rfl rfl rfl st43 rfl (Nat.le_of_ble_eq_true rfl) rfl ?_); intro W44 st45
    refine sx_nil ?_
    refine wp_seq ?_
    refine sx_region ?_
    refine sx rfl (stp_move (v := I ((((((K + 1) + 1) + 1) + 1) + 1) + (cL neE_Edge y.plan.edges : Nat))) rfl ?_)
    have hb46 := hb42.up
    refine sx rfl (stp_add rfl rfl hb46.i64 ?_)
    refine sx rfl (stp_assign (v := I (((((((K + 1) + 1) + 1) + 1) + 1) + (cL neE_Edge y.plan.edges : Nat)) + 1)) rfl ?_)
    refine sx_nil ?_
    refine sx_region ?_
    refine sx rfl (stp_move (v := v) hs7_0 ?_)
    refine sx rfl (stp_move (v := I (i : Int)) hs7_5 ?_)
    refine sx rfl (stp_indexAddr sl_RunS rfl hPA10 rfl rfl ?_)
    refine sx rfl (stp_fieldAddr fa_Run_3 rfl ?_)
    refine sx rfl (stp_load_bp ld_TaskS rfl rfl (st45.get 0 rfl) (i := 7) rfl rfl ?_)
    refine sx rfl (stp_move (v := I (((((((K + 1) + 1) + 1) + 1) + 1) + (cL neE_Edge y.plan.edges : Nat)) + 1)) rfl ?_)
    have st51 := st45.f2
    have hb52 := hb46.upc
    refine sx rfl (stp_call2 Try.func61 rfl rfl rfl ((markTaskS_n st51 (((((((K + 1) + 1) + 1) + 1) + 1) + (cL neE_Edge y.plan.edges : Nat)) + 1) hb46.lo hb46.hi).mono ?_)); rintro _ W47 ⟨fp50, rfl, st49⟩; refine ⟨_, rfl, ?_⟩
    refine sx rfl (stp_assign (v := I ((((((((K + 1) + 1) + 1) + 1) + 1) + (cL neE_Edge y.plan.edges : Nat)) + 1) + (cL neE_Task y.tasks : Nat))) rfl ?_)
    refine sx_nil ?_
    refine sx_region ?_
    refine sx rfl (stp_move (v := I (i : Int)) hs7_5 ?_)
    refine sx rfl (stp_add rfl rfl (by (simp only [I64] at *; omega)) ?_)
    refine sx rfl (stp_assign (v := I ((i : Int) + 1)) rfl ?_)
    refine sx_nil ?_
    have st53 := st49.f2
    have st54 := shut_Run (x := (⟨K, ⟨K + 1, (K + 1) + 1, ((K + 1) + 1) + 1, (((K + 1) + 1) + 1) + 1, mkL mkE_Edge neE_Edge y.plan.edges (((((K + 1) + 1) + 1) + 1) + 1)⟩, (((((K + 1) + 1) + 1) + 1) + 1) + (cL neE_Edge y.plan.edges : Nat), mkL mkE_Task neE_Task y.tasks (((((((K + 1) + 1) + 1) + 1) + 1) + (cL neE_Edge y.plan.edges : Nat)) + 1)⟩ : Run)) st53 (by first | exact True.intro | (simp only [Edge.ok, Plan.ok, Entry.ok, Task.ok, Run.ok, Yard.ok, Reply.ok, Deed.ok, Note.ok, Wait.ok, File.ok, Disk.ok, Engine.ok, WorldD.ok, ActD.ok, Hand.ok, Span.ok, Crew.ok, View.ok, I64] at *; omega))
    try dsimp only at st54
    have st56 := st54.cs rfl
    have st57 := st56.f2
    have st58 := st57.f1
    have st59 := st58.f2
    have hq_ := St.give (α := Run) st59
    obtain ⟨fp60, st61⟩ := hq_
    exact ⟨_, xs.length - (i + 1), (by omega), rfl, i + 1, (((((((K + 1) + 1) + 1) + 1) + 1) + (cL neE_Edge y.plan.edges : Nat)) + 1) + (cL neE_Task y.tasks : Nat), fp60, (by omega), (by omega), rfl, hs7_0, rfl, rfl, (by rw [← mk_stepy hy hK]; exact st61)⟩
  · skip
    have h8p := of_decide_eq_false h8
    refine wp_exit ?_
    refine wp_seq ?_
    refine sx_region ?_
    refine sx rfl (stp_move (v := I K) hs7_1 ?_)
    refine sx rfl (stp_assign (v := I K) rfl ?_)
    refine sx_nil ?_
    refine wp_ret ?_; repeat (first | refine then_ret ?_ | refine blk_ret ?_)
    refine ret1 Try.results34 rfl ?_
    obtain rfl : i = xs.length := by omega
    have hca := cL_all neE_Run xs _ rfl
    rw [mk_all rfl] at st6
    exact ⟨_, congrArg (fun z => Ending.returned (I z)) (by omega), st6⟩
set_option maxHeartbeats 2000000 in
theorem heldRunS_n (w : World) {v : Value} {x : List Run} {fp : List Nat} {k : Int} (h : Sl w v (mkL mkE_Run neE_Run x k) fp) (h0 : 0 ≤ k) (hk : k + (cL neE_Run x : Nat) ≤ 4611686018427387904) :
    Calls Try.prog 91 #[v, I k] w fun e w' => e = .returned (I (k + (cL neE_Run x : Nat))) ∧ St w w' [] := by
  have hcap := h.len_le
  rw [mkL_len] at hcap
  have hml : (mkL mkE_Run neE_Run x k).length = x.length := mkL_len _ _
  refine enter2 Try.func91 rfl Try.ntmps91 (by decide) ?_
  refine wp_seq ?_
  refine sx_region ?_
  refine sx rfl (stp_assign (v := I 0) rfl ?_)
  refine sx_nil ?_
  refine wp_seq ?_
  refine wp_seq ?_
  refine sx_region ?_
  refine sx rfl (stp_assign (v := I 0) rfl ?_)
  refine sx_nil ?_
  refine wp_block ?_
  refine sx_loop (fun (m : Nat) (f : Nat → Value) (W : World) => ∃ (i : Nat) (K : Int), i ≤ x.length ∧ K = k + (cL neE_Run (x.take i) : Nat) ∧ m = x.length - i ∧ f 0 = v ∧ f 1 = I K ∧ f 5 = I (i : Int) ∧ St w W ([])) (x.length - 0) ?_ ?_
  · exact ⟨0, k, Nat.zero_le _, (by simp [cL]), rfl, rfl, rfl, rfl, (St.start w)⟩
  intro m1 f2 W3 hJ4
  obtain ⟨i, K, hi, hK, rfl, hs6_0, hs6_1, hs6_5, st5⟩ := hJ4
  refine wp_seq ?_
  refine wp_seq ?_
  refine sx_region ?_
  refine sx rfl (stp_move (v := I (i : Int)) hs6_5 ?_)
  refine sx rfl (stp_move (v := v) hs6_0 ?_)
  refine sx rfl (stp_len sl_RunS rfl h ?_)
  refine sx rfl (stp_lss rfl rfl ?_)
  refine sx_nil ?_
  refine sx_if rfl (fun h7 => ?_) (fun h7 => ?_)
  · skip
    have h7p := of_decide_eq_true h7
    refine wp_skip ?_
    refine wp_seq ?_
    refine wp_block ?_
    refine wp_seq ?_
    refine wp_seq ?_
    refine sx_region ?_
    refine sx rfl (stp_move (v := v) hs6_0 ?_)
    refine sx rfl (stp_move (v := I (i : Int)) hs6_5 ?_)
    have hq_ := some_at (xs := x) (i := i) (by omega)
    obtain ⟨y, hy⟩ := hq_
    have hcs := cL_takey neE_Run hy
    have hcl := cL_take_le neE_Run x (i + 1)
    have hne : neE_Run y = 6 + cL neE_Edge y.plan.edges + cL neE_Task y.tasks := rfl
    have hb9 : Bd K (1 + (1 + (1 + (1 + (1 + ((cL neE_Edge y.plan.edges) + (1 + ((cL neE_Task y.tasks) + (0))))))))) := ⟨by omega, by omega⟩
    have hq_ := idxmy h hy hK
    obtain ⟨b8, o8, cs8, f8, hp8, hr8, hc8, hm8⟩ := hq_
    have hk10 := hc8
    obtain ⟨v10_0, v10_1, g10_0, g10_1, he10, hok10, h10_0, h10_1, rfl⟩ := hk10
    have he10 : _ = [I K, I (K + 1), I ((K + 1) + 1), I (((K + 1) + 1) + 1), I ((((K + 1) + 1) + 1) + 1), v10_0, I ((((((K + 1) + 1) + 1) + 1) + 1) + (cL neE_Edge y.plan.edges : Nat)), v10_1] := he10; subst he10
    have h10_0 : Sl _ v10_0 (mkL mkE_Edge neE_Edge y.plan.edges (((((K + 1) + 1) + 1) + 1) + 1)) _ := h10_0
    have h10_1 : Sl _ v10_1 (mkL mkE_Task neE_Task y.tasks (((((((K + 1) + 1) + 1) + 1) + 1) + (cL neE_Edge y.plan.edges : Nat)) + 1)) _ := h10_1
    skip
    refine sx rfl (stp_indexAddr sl_RunS rfl hp8 rfl rfl ?_)
    refine sx rfl (stp_fieldAddr fa_Run_0 rfl ?_)
    refine sx rfl (stp_load_rg ld_int rfl rfl hr8 st5.below (i := 0) rfl rfl ?_)
    refine sx rfl (stp_move (v := I K) hs6_1 ?_)
    refine sx rfl (stp_neq rfl rfl ?_)
    refine sx_nil ?_
    refine sx_if rfl (fun h11 => ?_) (fun h11 => ?_)
    · skip
      have h11p := of_decide_eq_false (bnot_t h11)
      exact absurd rfl h11p
    · skip
      have h11p := of_decide_eq_true (bnot_f h11)
      refine wp_skip ?_
      refine wp_seq ?_
      refine sx_region ?_
      refine sx rfl (stp_move (v := I K) hs6_1 ?_)
      have hb12 := hb9.up
      refine sx rfl (stp_add rfl rfl hb12.i64 ?_)
      refine sx rfl (stp_assign (v := I (K + 1)) rfl ?_)
      refine sx_nil ?_
      refine wp_seq ?_
      refine wp_seq ?_
      refine sx_region ?_
      refine sx rfl (stp_move (v := v) hs6_0 ?_)
      refine sx rfl (stp_move (v := I (i : Int)) hs6_5 ?_)
      skip
      refine sx rfl (stp_indexAddr sl_RunS rfl hp8 rfl rfl ?_)
      refine sx rfl (stp_fieldAddr fa_Run_1 rfl ?_)
      refine sx rfl (stp_fieldAddr fa_Plan_0 rfl ?_)
      refine sx rfl (stp_load_rg ld_int rfl rfl hr8 st5.below (i := 1) rfl rfl ?_)
      refine sx rfl (stp_move (v := I (K + 1)) rfl ?_)
      refine sx rfl (stp_neq rfl rfl ?_)
      refine sx_nil ?_
      refine sx_if rfl (fun h14 => ?_) (fun h14 => ?_)
      · skip
        have h14p := of_decide_eq_false (bnot_t h14)
        exact absurd rfl h14p
      · skip
        have h14p := of_decide_eq_true (bnot_f h14)
        refine wp_skip ?_
        refine wp_seq ?_
        refine sx_region ?_
        refine sx rfl (stp_move (v := I (K + 1)) rfl ?_)
        have hb15 := hb12.up
        refine sx rfl (stp_add rfl rfl hb15.i64 ?_)
        refine sx rfl (stp_assign (v := I ((K + 1) + 1)) rfl ?_)
        refine sx_nil ?_
        refine wp_seq ?_
        refine wp_seq ?_
        refine sx_region ?_
        refine sx rfl (stp_move (v := v) hs6_0 ?_)
        refine sx rfl (stp_move (v := I (i : Int)) hs6_5 ?_)
        skip
        refine sx rfl (stp_indexAddr sl_RunS rfl hp8 rfl rfl ?_)
        refine sx rfl (stp_fieldAddr fa_Run_1 rfl ?_)
        refine sx rfl (stp_fieldAddr fa_Plan_1 rfl ?_)
        refine sx rfl (stp_load_rg ld_int rfl rfl hr8 st5.below (i := 2) rfl rfl ?_)
        refine sx rfl (stp_move (v := I ((K + 1) + 1)) rfl ?_)
        refine sx rfl (stp_neq rfl rfl ?_)
        refine sx_nil ?_
        refine sx_if rfl (fun h17 => ?_) (fun h17 => ?_)
        · skip
          have h17p := of_decide_eq_false (bnot_t h17)
          exact absurd rfl h17p
        · skip
          have h17p := of_decide_eq_true (bnot_f h17)
          refine wp_skip ?_
          refine wp_seq ?_
          refine sx_region ?_
          refine sx rfl (stp_move (v := I ((K + 1) + 1)) rfl ?_)
          have hb18 := hb15.up
          refine sx rfl (stp_add rfl rfl hb18.i64 ?_)
          refine sx rfl (stp_assign (v := I (((K + 1) + 1) + 1)) rfl ?_)
          refine sx_nil ?_
          refine wp_seq ?_
          refine wp_seq ?_
          refine sx_region ?_
          refine sx rfl (stp_move (v := v) hs6_0 ?_)
          refine sx rfl (stp_move (v := I (i : Int)) hs6_5 ?_)
          skip
          refine sx rfl (stp_indexAddr sl_RunS rfl hp8 rfl rfl ?_)
          refine sx rfl (stp_fieldAddr fa_Run_1 rfl ?_)
          refine sx rfl (stp_fieldAddr fa_Plan_2 rfl ?_)
          refine sx rfl (stp_load_rg ld_int rfl rfl hr8 st5.below (i := 3) rfl rfl ?_)
          refine sx rfl (stp_move (v := I (((K + 1) + 1) + 1)) rfl ?_)
          refine sx rfl (stp_neq rfl rfl ?_)
          refine sx_nil ?_
          refine sx_if rfl (fun h20 => ?_) (fun h20 => ?_)
          · skip
            have h20p := of_decide_eq_false (bnot_t h20)
            exact absurd rfl h20p
          · skip
            have h20p := of_decide_eq_true (bnot_f h20)
            refine wp_skip ?_
            refine wp_seq ?_
            refine sx_region ?_
            refine sx rfl (stp_move (v := I (((K + 1) + 1) + 1)) rfl ?_)
            have hb21 := hb18.up
            refine sx rfl (stp_add rfl rfl hb21.i64 ?_)
            refine sx rfl (stp_assign (v := I ((((K + 1) + 1) + 1) + 1)) rfl ?_)
            refine sx_nil ?_
            refine wp_seq ?_
            refine wp_seq ?_
            refine sx_region ?_
            refine sx rfl (stp_move (v := v) hs6_0 ?_)
            refine sx rfl (stp_move (v := I (i : Int)) hs6_5 ?_)
            skip
            refine sx rfl (stp_indexAddr sl_RunS rfl hp8 rfl rfl ?_)
            refine sx rfl (stp_fieldAddr fa_Run_1 rfl ?_)
            refine sx rfl (stp_fieldAddr fa_Plan_3 rfl ?_)
            refine sx rfl (stp_load_rg ld_int rfl rfl hr8 st5.below (i := 4) rfl rfl ?_)
            refine sx rfl (stp_move (v := I ((((K + 1) + 1) + 1) + 1)) rfl ?_)
            refine sx rfl (stp_neq rfl rfl ?_)
            refine sx_nil ?_
            refine sx_if rfl (fun h23 => ?_) (fun h23 => ?_)
            · skip
              have h23p := of_decide_eq_false (bnot_t h23)
              exact absurd rfl h23p
            · skip
              have h23p := of_decide_eq_true (bnot_f h23)
              refine wp_skip ?_
              refine wp_seq ?_
              refine sx_region ?_
              refine sx rfl (stp_move (v := I ((((K + 1) + 1) + 1) + 1)) rfl ?_)
              have hb24 := hb21.up
              refine sx rfl (stp_add rfl rfl hb24.i64 ?_)
              refine sx rfl (stp_assign (v := I (((((K + 1) + 1) + 1) + 1) + 1)) rfl ?_)
              refine sx_nil ?_
              refine wp_seq ?_
              refine sx_region ?_
              refine sx rfl (stp_move (v := v) hs6_0 ?_)
              refine sx rfl (stp_move (v := I (i : Int)) hs6_5 ?_)
              skip
              refine sx rfl (stp_indexAddr sl_RunS rfl hp8 rfl rfl ?_)
              refine sx rfl (stp_fieldAddr fa_Run_1 rfl ?_)
              refine sx rfl (stp_fieldAddr fa_Plan_4 rfl ?_)
              refine sx rfl (stp_load_rg ld_EdgeS rfl rfl hr8 st5.below (i := 5) rfl rfl ?_)
              refine sx rfl (stp_move (v := I (((((K + 1) + 1) + 1) + 1) + 1)) rfl ?_)
              have hb30 := hb24.upc
              refine sx rfl (stp_call2 Try.func76 rfl rfl rfl ((heldEdgeS_n W3 (x := y.plan.edges) (h10_0.below st5.below) hb24.lo hb24.hi).mono ?_)); rintro _ W26 ⟨rfl, hk27⟩; refine ⟨_, rfl, ?_⟩
              have st28 := St.call st5 hk27
              refine sx rfl (stp_assign (v := I ((((((K + 1) + 1) + 1) + 1) + 1) + (cL neE_Edge y.plan.edges : Nat))) rfl ?_)
              refine sx_nil ?_
              refine wp_seq ?_
              refine wp_seq ?_
              refine sx_region ?_
              refine sx rfl (stp_move (v := I ((((((K + 1) + 1) + 1) + 1) + 1) + (cL neE_Edge y.plan.edges : Nat))) rfl ?_)
              refine sx rfl (stp_lss rfl rfl ?_)
              refine sx_nil ?_
              refine sx_if rfl (fun h31 => ?_) (fun h31 => ?_)
              · skip
                have h31p := of_decide_eq_true h31
                exact absurd h31p (Int.not_lt.2 hb30.1)
              · skip
                have h31p := of_decide_eq_false h31
                refine wp_skip ?_
                refine wp_seq ?_
                refine wp_seq ?_
                refine sx_region ?_
                refine sx rfl (stp_move (v := v) hs6_0 ?_)
                refine sx rfl (stp_move (v := I (i : Int)) hs6_5 ?_)
                skip
                refine sx rfl (stp_indexAddr sl_RunS rfl hp8 rfl rfl ?_)
                refine sx rfl (stp_fieldAddr fa_Run_2 rfl ?_)
                refine sx rfl (stp_load_rg ld_int rfl rfl hr8 st28.below (i := 6) rfl rfl ?_)
                refine sx rfl (stp_move (v := I ((((((K + 1) + 1) + 1) + 1) + 1) + (cL neE_Edge y.plan.edges : Nat))) rfl ?_)
                refine sx rfl (stp_neq rfl rfl ?_)
                refine sx_nil ?_
                refine sx_if rfl (fun h33 => ?_) (fun h33 => ?_)
                · skip
                  have h33p := of_decide_eq_false (bnot_t h33)
                  exact absurd rfl h33p
                · skip
                  have h33p := of_decide_eq_true (bnot_f h33)
                  refine wp_skip ?_
                  refine wp_seq ?_
                  refine sx_region ?_
                  refine sx rfl (stp_move (v := I ((((((K + 1) + 1) + 1) + 1) + 1) + (cL neE_Edge y.plan.edges : Nat))) rfl ?_)
                  have hb34 := hb30.up
                  refine sx rfl (stp_add rfl rfl hb34.i64 ?_)
                  refine sx rfl (stp_assign (v := I (((((((K + 1) + 1) + 1) + 1) + 1) + (cL neE_Edge y.plan.edges : Nat)) + 1)) rfl ?_)
                  refine sx_nil ?_
                  refine wp_seq ?_
                  refine sx_region ?_
                  refine sx rfl (stp_move (v := v) hs6_0 ?_)
                  refine sx rfl (stp_move (v := I (i : Int)) hs6_5 ?_)
                  skip
                  refine sx rfl (stp_indexAddr sl_RunS rfl hp8 rfl rfl ?_)
                  refine sx rfl (stp_fieldAddr fa_Run_3 rfl ?_)
                  refine sx rfl (stp_load_rg ld_TaskS rfl rfl hr8 st28.below (i := 7) rfl rfl ?_)
                  refine sx rfl (stp_move (v := I (((((((K + 1) + 1) + 1) + 1) + 1) + (cL neE_Edge y.plan.edges : Nat)) + 1)) rfl ?_)
                  have hb40 := hb34.upc
                  refine sx rfl (stp_call2 Try.func100 rfl rfl rfl ((heldTaskS_n W26 (x := y.tasks) (h10_1.below st28.below) hb34.lo hb34.hi).mono ?_)); rintro _ W36 ⟨rfl, hk37⟩; refine ⟨_, rfl, ?_⟩
                  have st38 := St.call st28 hk37
                  refine sx rfl (stp_assign (v := I ((((((((K + 1) + 1) + 1) + 1) + 1) + (cL neE_Edge y.plan.edges : Nat)) + 1) + (cL neE_Task y.tasks : Nat))) rfl ?_)
                  refine sx_nil ?_
                  refine wp_seq ?_
                  refine sx_region ?_
                  refine sx rfl (stp_move (v := I ((((((((K + 1) + 1) + 1) + 1) + 1) + (cL neE_Edge y.plan.edges : Nat)) + 1) + (cL neE_Task y.tasks : Nat))) rfl ?_)
                  refine sx rfl (stp_lss rfl rfl ?_)
                  refine sx_nil ?_
                  refine sx_if rfl (fun h41 => ?_) (fun h41 => ?_)
                  · skip
                    have h41p := of_decide_eq_true h41
                    exact absurd h41p (Int.not_lt.2 hb40.1)
                  · skip
                    have h41p := of_decide_eq_false h41
                    refine wp_skip ?_
                    refine sx_region ?_
                    refine sx rfl (stp_move (v := I (i : Int)) hs6_5 ?_)
                    refine sx rfl (stp_add rfl rfl (by (simp only [I64] at *; omega)) ?_)
                    refine sx rfl (stp_assign (v := I ((i : Int) + 1)) rfl ?_)
                    refine sx_nil ?_
                    exact ⟨_, x.length - (i + 1), (by omega), rfl, i + 1, (((((((K + 1) + 1) + 1) + 1) + 1) + (cL neE_Edge y.plan.edges : Nat)) + 1) + (cL neE_Task y.tasks : Nat), (by omega), (by omega), rfl, hs6_0, rfl, rfl, st38⟩
  · skip
    have h7p := of_decide_eq_false h7
    refine wp_exit ?_
    refine wp_seq ?_
    refine sx_region ?_
    refine sx rfl (stp_move (v := I K) hs6_1 ?_)
    refine sx rfl (stp_assign (v := I K) rfl ?_)
    refine sx_nil ?_
    refine wp_ret ?_; repeat (first | refine then_ret ?_ | refine blk_ret ?_)
    refine ret1 Try.results91 rfl ?_
    obtain rfl : i = x.length := by omega
    have hca := cL_all neE_Run x _ rfl
    exact ⟨congrArg (fun z => Ending.returned (I z)) (by omega), st5.bare⟩
set_option maxHeartbeats 2000000 in
theorem markEntrySS_n {w W0 : World} {rs : List Res} {v : Value} {xs : List (List Entry)} {fp : List Nat} (hst : St w W0 (Res.own v xs fp :: rs)) (k : Int) (h0 : 0 ≤ k) (hk : k + (cL (cL neE_Entry) xs : Nat) ≤ 4611686018427387904) :
    Calls Try.prog 33 #[v, I k] W0 fun e w' => ∃ fp', e = .returned (I (k + (cL (cL neE_Entry) xs : Nat))) ∧ St w w' (Res.own v (mkL (mkL mkE_Entry neE_Entry) (cL neE_Entry) xs k) fp' :: rs) := by
  have hcap := (own_Sl (hst.get 0 rfl)).len_le
  refine enter2 Try.func33 rfl Try.ntmps33 (by decide) ?_
  refine wp_seq ?_
  refine sx_region ?_
  refine sx rfl (stp_assign (v := I 0) rfl ?_)
  refine sx_nil ?_
  refine wp_seq ?_
  refine wp_seq ?_
  refine sx_region ?_
  refine sx rfl (stp_assign (v := I 0) rfl ?_)
  refine sx_nil ?_
  refine wp_block ?_
  refine sx_loop (fun (m : Nat) (f : Nat → Value) (W : World) => ∃ (i : Nat) (K : Int) (fo1 : List Nat), i ≤ xs.length ∧ K = k + (cL (cL neE_Entry) (xs.take i) : Nat) ∧ m = xs.length - i ∧ f 0 = v ∧ f 1 = I K ∧ f 5 = I (i : Int) ∧ St w W (Res.own (α := List (List Entry)) v (mkL (mkL mkE_Entry neE_Entry) (cL neE_Entry) (xs.take i) k ++ xs.drop i) fo1 :: rs)) (xs.length - 0) ?_ ?_
  · exact ⟨0, k, fp, Nat.zero_le _, (by simp [cL]), rfl, rfl, rfl, rfl, (by simpa [mkL] using hst)⟩
  intro m2 f3 W4 hJ5
  obtain ⟨i, K, fo1, hi, hK, rfl, hs7_0, hs7_1, hs7_5, st6⟩ := hJ5
  have hlx : (mkL (mkL mkE_Entry neE_Entry) (cL neE_Entry) (xs.take i) k ++ xs.drop i).length = xs.length := by rw [List.length_append, mkL_len, List.length_take, List.length_drop]; omega
  refine wp_seq ?_
  refine wp_seq ?_
  refine sx_region ?_
  refine sx rfl (stp_move (v := I (i : Int)) hs7_5 ?_)
  refine sx rfl (stp_move (v := v) hs7_0 ?_)
  refine sx rfl (stp_len sl_EntrySS rfl (own_Sl (st6.get 0 rfl)) ?_)
  refine sx rfl (stp_lss rfl rfl ?_)
  refine sx_nil ?_
  refine sx_if rfl (fun h8 => ?_) (fun h8 => ?_)
  · skip
    have h8p := of_decide_eq_true h8
    refine wp_skip ?_
    refine wp_seq ?_
    refine wp_block ?_
    refine sx_region ?_
    refine sx rfl (stp_move (v := v) hs7_0 ?_)
    refine sx rfl (stp_move (v := I (i : Int)) hs7_5 ?_)
    have hq_ := some_at (xs := xs) (i := i) (by omega)
    obtain ⟨y, hy⟩ := hq_
    have hcs := cL_takey (cL neE_Entry) hy
    have hcl := cL_take_le (cL neE_Entry) xs (i + 1)
    have hne : cL neE_Entry y = cL neE_Entry y := rfl
    have hb9 : Bd K ((cL neE_Entry y) + (0)) := ⟨by omega, by omega⟩
    have hq_ := St.lendx (α := List Entry) (by decide) st6 (x := y) (mk_gety hy)
    obtain ⟨b10, e10, pre10, cs10, post10, fi10, fr10, hPA10, hC10, st11⟩ := hq_
    have st15 := st11.f1
    have hq_ := st15.uncs1
    obtain ⟨v10, he10, st16⟩ := hq_; subst he10
    skip
    refine sx rfl (stp_indexAddr sl_EntrySS rfl hPA10 rfl rfl ?_)
    refine sx rfl (stp_load_bp ld_EntryS rfl rfl (st16.get 1 rfl) (i := 0) rfl rfl ?_)
    refine sx rfl (stp_move (v := I K) hs7_1 ?_)
    have hb21 := hb9.upc
    refine sx rfl (stp_call2 Try.func59 rfl rfl rfl ((markEntryS_n st16 K hb9.lo hb9.hi).mono ?_)); rintro _ W17 ⟨fp20, rfl, st19⟩; refine ⟨_, rfl, ?_⟩
    refine sx rfl (stp_assign (v := I (K + (cL neE_Entry y : Nat))) rfl ?_)
    refine sx_nil ?_
    refine sx_region ?_
    refine sx rfl (stp_move (v := I (i : Int)) hs7_5 ?_)
    refine sx rfl (stp_add rfl rfl (by (simp only [I64] at *; omega)) ?_)
    refine sx rfl (stp_assign (v := I ((i : Int) + 1)) rfl ?_)
    refine sx_nil ?_
    have st22 := st19.cs1
    have st23 := st22.f2
    have st24 := st23.f1
    have st25 := st24.f2
    have hq_ := St.give (α := List Entry) st25
    obtain ⟨fp26, st27⟩ := hq_
    exact ⟨_, xs.length - (i + 1), (by omega), rfl, i + 1, K + (cL neE_Entry y : Nat), fp26, (by omega), (by omega), rfl, hs7_0, rfl, rfl, (by rw [← mk_stepy hy hK]; exact st27)⟩
  · skip
    have h8p := of_decide_eq_false h8
    refine wp_exit ?_
    refine wp_seq ?_
    refine sx_region ?_
    refine sx rfl (stp_move (v := I K) hs7_1 ?_)
    refine sx rfl (stp_assign (v := I K) rfl ?_)
    refine sx_nil ?_
    refine wp_ret ?_; repeat (first | refine then_ret ?_ | refine blk_ret ?_)
    refine ret1 Try.results33 rfl ?_
    obtain rfl : i = xs.length := by omega
    have hca := cL_all (cL neE_Entry) xs _ rfl
    rw [mk_all rfl] at st6
    exact ⟨_, congrArg (fun z => Ending.returned (I z)) (by omega), st6⟩
set_option maxHeartbeats 2000000 in
theorem heldEntrySS_n (w : World) {v : Value} {x : List (List Entry)} {fp : List Nat} {k : Int} (h : Sl w v (mkL (mkL mkE_Entry neE_Entry) (cL neE_Entry) x k) fp) (h0 : 0 ≤ k) (hk : k + (cL (cL neE_Entry) x : Nat) ≤ 4611686018427387904) :
    Calls Try.prog 90 #[v, I k] w fun e w' => e = .returned (I (k + (cL (cL neE_Entry) x : Nat))) ∧ St w w' [] := by
  have hcap := h.len_le
  rw [mkL_len] at hcap
  have hml : (mkL (mkL mkE_Entry neE_Entry) (cL neE_Entry) x k).length = x.length := mkL_len _ _
  refine enter2 Try.func90 rfl Try.ntmps90 (by decide) ?_
  refine wp_seq ?_
  refine sx_region ?_
  refine sx rfl (stp_assign (v := I 0) rfl ?_)
  refine sx_nil ?_
  refine wp_seq ?_
  refine wp_seq ?_
  refine sx_region ?_
  refine sx rfl (stp_assign (v := I 0) rfl ?_)
  refine sx_nil ?_
  refine wp_block ?_
  refine sx_loop (fun (m : Nat) (f : Nat → Value) (W : World) => ∃ (i : Nat) (K : Int), i ≤ x.length ∧ K = k + (cL (cL neE_Entry) (x.take i) : Nat) ∧ m = x.length - i ∧ f 0 = v ∧ f 1 = I K ∧ f 5 = I (i : Int) ∧ St w W ([])) (x.length - 0) ?_ ?_
  · exact ⟨0, k, Nat.zero_le _, (by simp [cL]), rfl, rfl, rfl, rfl, (St.start w)⟩
  intro m1 f2 W3 hJ4
  obtain ⟨i, K, hi, hK, rfl, hs6_0, hs6_1, hs6_5, st5⟩ := hJ4
  refine wp_seq ?_
  refine wp_seq ?_
  refine sx_region ?_
  refine sx rfl (stp_move (v := I (i : Int)) hs6_5 ?_)
  refine sx rfl (stp_move (v := v) hs6_0 ?_)
  refine sx rfl (stp_len sl_EntrySS rfl h ?_)
  refine sx rfl (stp_lss rfl rfl ?_)
  refine sx_nil ?_
  refine sx_if rfl (fun h7 => ?_) (fun h7 => ?_)
  · skip
    have h7p := of_decide_eq_true h7
    refine wp_skip ?_
    refine wp_seq ?_
    refine wp_block ?_
    refine wp_seq ?_
    refine sx_region ?_
    refine sx rfl (stp_move (v := v) hs6_0 ?_)
    refine sx rfl (stp_move (v := I (i : Int)) hs6_5 ?_)
    have hq_ := some_at (xs := x) (i := i) (by omega)
    obtain ⟨y, hy⟩ := hq_
    have hcs := cL_takey (cL neE_Entry) hy
    have hcl := cL_take_le (cL neE_Entry) x (i + 1)
    have hne : cL neE_Entry y = cL neE_Entry y := rfl
    have hb9 : Bd K ((cL neE_Entry y) + (0)) := ⟨by omega, by omega⟩
    have hq_ := idxmy h hy hK
    obtain ⟨b8, o8, cs8, f8, hp8, hr8, hc8, hm8⟩ := hq_
    obtain ⟨v10, rfl, h11⟩ := hc8
    have h11 : Sl _ v10 (mkL mkE_Entry neE_Entry y K) f8 := h11
    skip
    refine sx rfl (stp_indexAddr sl_EntrySS rfl hp8 rfl rfl ?_)
    refine sx rfl (stp_load_rg ld_EntryS rfl rfl hr8 st5.below (i := 0) rfl rfl ?_)
    refine sx rfl (stp_move (v := I K) hs6_1 ?_)
    have hb16 := hb9.upc
    refine sx rfl (stp_call2 Try.func99 rfl rfl rfl ((heldEntryS_n W3 (x := y) (h11.below st5.below) hb9.lo hb9.hi).mono ?_)); rintro _ W12 ⟨rfl, hk13⟩; refine ⟨_, rfl, ?_⟩
    have st14 := St.call st5 hk13
    refine sx rfl (stp_assign (v := I (K + (cL neE_Entry y : Nat))) rfl ?_)
    refine sx_nil ?_
    refine wp_seq ?_
    refine sx_region ?_
    refine sx rfl (stp_move (v := I (K + (cL neE_Entry y : Nat))) rfl ?_)
    refine sx rfl (stp_lss rfl rfl ?_)
    refine sx_nil ?_
    refine sx_if rfl (fun h17 => ?_) (fun h17 => ?_)
    · skip
      have h17p := of_decide_eq_true h17
      exact absurd h17p (Int.not_lt.2 hb16.1)
    · skip
      have h17p := of_decide_eq_false h17
      refine wp_skip ?_
      refine sx_region ?_
      refine sx rfl (stp_move (v := I (i : Int)) hs6_5 ?_)
      refine sx rfl (stp_add rfl rfl (by (simp only [I64] at *; omega)) ?_)
      refine sx rfl (stp_assign (v := I ((i : Int) + 1)) rfl ?_)
      refine sx_nil ?_
      exact ⟨_, x.length - (i + 1), (by omega), rfl, i + 1, K + (cL neE_Entry y : Nat), (by omega), (by omega), rfl, hs6_0, rfl, rfl, st14⟩
  · skip
    have h7p := of_decide_eq_false h7
    refine wp_exit ?_
    refine wp_seq ?_
    refine sx_region ?_
    refine sx rfl (stp_move (v := I K) hs6_1 ?_)
    refine sx rfl (stp_assign (v := I K) rfl ?_)
    refine sx_nil ?_
    refine wp_ret ?_; repeat (first | refine then_ret ?_ | refine blk_ret ?_)
    refine ret1 Try.results90 rfl ?_
    obtain rfl : i = x.length := by omega
    have hca := cL_all (cL neE_Entry) x _ rfl
    exact ⟨congrArg (fun z => Ending.returned (I z)) (by omega), st5.bare⟩
set_option maxHeartbeats 2000000 in
theorem markYard_n {w W0 : World} {rs : List Res} {x : Yard} {cs : List Value} {fp : List Nat} (hst : St w W0 (Res.own (.agg cs.toArray) x fp :: rs)) (k : Int) (h0 : 0 ≤ k) (hk : k + (ntT_Yard x : Nat) ≤ 4611686018427387904) :
    Calls Try.prog 12 #[.agg cs.toArray, I k] W0 fun e w' => ∃ fp', e = .returned (I (k + (ntT_Yard x : Nat))) ∧ St w w' (Res.own (.agg cs.toArray) (mkT_Yard x k) fp' :: rs) := by
  have hk2 := hk
  unfold ntT_Yard at hk2
  refine enter2 Try.func12 rfl Try.ntmps12 (by decide) ?_
  have hb1 : Bd k ((cL (cL neE_Entry) x.shelf) + ((cL neE_Run x.runs) + (0))) := ⟨by omega, by omega⟩
  refine wp_seq ?_
  refine sx_region ?_
  refine sx rfl (stp_box_agg (cs := cs) rfl hst ?_); intro b2 W3 hb4 st5
  refine sx rfl (stp_assign (v := I 0) rfl ?_)
  refine sx_nil ?_
  refine wp_seq ?_
  refine sx_region ?_
  refine sx rfl (stp_fieldAddr fa_Yard_2 rfl ?_)
  have st7 := st5.f1
  have hq_ := open_Yard st7
  obtain ⟨v8_0, v8_1, g8_0, g8_1, he8, hok8, st9⟩ := hq_
  subst he8
  refine sx rfl (stp_load_bx ld_EntrySS rfl rfl (st9.get 2 rfl) (i := 2) rfl rfl ?_)
  refine sx rfl (stp_move (v := I k) rfl ?_)
  have hb16 := hb1.upc
  refine sx rfl (stp_call2 Try.func33 rfl rfl rfl ((markEntrySS_n st9 k hb1.lo hb1.hi).mono ?_)); rintro _ W12 ⟨fp15, rfl, st14⟩; refine ⟨_, rfl, ?_⟩
  refine sx rfl (stp_assign (v := I (k + (cL (cL neE_Entry) x.shelf : Nat))) rfl ?_)
  refine sx_nil ?_
  refine wp_seq ?_
  refine sx_region ?_
  refine sx rfl (stp_fieldAddr fa_Yard_3 rfl ?_)
  refine sx rfl (stp_load_bx ld_RunS rfl rfl (st14.get 2 rfl) (i := 3) rfl rfl ?_)
  refine sx rfl (stp_move (v := I (k + (cL (cL neE_Entry) x.shelf : Nat))) rfl ?_)
  have st21 := st14.f1
  have hb22 := hb16.upc
  refine sx rfl (stp_call2 Try.func34 rfl rfl rfl ((markRunS_n st21 (k + (cL (cL neE_Entry) x.shelf : Nat)) hb16.lo hb16.hi).mono ?_)); rintro _ W17 ⟨fp20, rfl, st19⟩; refine ⟨_, rfl, ?_⟩
  refine sx rfl (stp_assign (v := I ((k + (cL (cL neE_Entry) x.shelf : Nat)) + (cL neE_Run x.runs : Nat))) rfl ?_)
  refine sx_nil ?_
  refine wp_seq ?_
  refine sx_region ?_
  refine sx rfl (stp_move (v := I ((k + (cL (cL neE_Entry) x.shelf : Nat)) + (cL neE_Run x.runs : Nat))) rfl ?_)
  refine sx rfl (stp_assign (v := I ((k + (cL (cL neE_Entry) x.shelf : Nat)) + (cL neE_Run x.runs : Nat))) rfl ?_)
  refine sx_nil ?_
  refine wp_ret ?_; repeat (first | refine then_ret ?_ | refine blk_ret ?_)
  refine ret1 Try.results12 rfl ?_
  have st23 := st19.f1
  have st24 := shut_Yard (x := (mkT_Yard x k)) st23 hok8
  have st26 := st24.d1
  exact ⟨_, congrArg (fun z => Ending.returned (I z)) (by unfold ntT_Yard; push_cast; omega), st26⟩
set_option maxHeartbeats 2000000 in
theorem heldYard_n (w : World) {x : Yard} {cs : List Value} {fp : List Nat} {k : Int} (hc : Shape.C w cs (mkT_Yard x k) fp) (h0 : 0 ≤ k) (hk : k + (ntT_Yard x : Nat) ≤ 4611686018427387904) :
    Calls Try.prog 73 #[.agg cs.toArray, I k] w fun e w' => e = .returned (I (k + (ntT_Yard x : Nat))) ∧ St w w' [] := by
  have hk2 := hk
  have hnt : ntT_Yard x = cL (cL neE_Entry) x.shelf + cL neE_Run x.runs := rfl
  refine enter2 Try.func73 rfl Try.ntmps73 (by decide) ?_
  have hb1 : Bd k ((cL (cL neE_Entry) x.shelf) + ((cL neE_Run x.runs) + (0))) := ⟨by omega, by omega⟩
  refine wp_seq ?_
  refine sx_region ?_
  refine sx rfl (stp_box_agg (cs := cs) rfl (St.start w) ?_); intro b2 W3 hb4 st5
  refine sx rfl (stp_assign (v := I 0) rfl ?_)
  refine sx_nil ?_
  refine wp_seq ?_
  refine sx_region ?_
  refine sx rfl (stp_fieldAddr fa_Yard_2 rfl ?_)
  have hk7 := hc
  obtain ⟨v7_0, v7_1, g7_0, g7_1, he7, hok7, h7_0, h7_1, rfl⟩ := hk7
  have he7 : _ = [I x.now, I x.seq, v7_0, v7_1] := he7; subst he7
  have h7_0 : Sl _ v7_0 (mkL (mkL mkE_Entry neE_Entry) (cL neE_Entry) x.shelf k) _ := h7_0
  have h7_1 : Sl _ v7_1 (mkL mkE_Run neE_Run x.runs (k + (cL (cL neE_Entry) x.shelf : Nat))) _ := h7_1
  refine sx rfl (stp_load_bx ld_EntrySS rfl rfl (st5.get 0 rfl) (i := 2) rfl rfl ?_)
  refine sx rfl (stp_move (v := I k) rfl ?_)
  have hb12 := hb1.upc
  refine sx rfl (stp_call2 Try.func90 rfl rfl rfl ((heldEntrySS_n W3 (x := x.shelf) (h7_0.below st5.below) hb1.lo hb1.hi).mono ?_)); rintro _ W8 ⟨rfl, hk9⟩; refine ⟨_, rfl, ?_⟩
  have st10 := St.call st5 hk9
  refine sx rfl (stp_assign (v := I (k + (cL (cL neE_Entry) x.shelf : Nat))) rfl ?_)
  refine sx_nil ?_
  refine wp_seq ?_
  refine wp_seq ?_
  refine sx_region ?_
  refine sx rfl (stp_move (v := I (k + (cL (cL neE_Entry) x.shelf : Nat))) rfl ?_)
  refine sx rfl (stp_lss rfl rfl ?_)
  refine sx_nil ?_
  refine sx_if rfl (fun h13 => ?_) (fun h13 => ?_)
  · skip
    have h13p := of_decide_eq_true h13
    exact absurd h13p (Int.not_lt.2 hb12.1)
  · skip
    have h13p := of_decide_eq_false h13
    refine wp_skip ?_
    refine wp_seq ?_
    refine sx_region ?_
    refine sx rfl (stp_fieldAddr fa_Yard_3 rfl ?_)
    refine sx rfl (stp_load_bx ld_RunS rfl rfl (st10.get 0 rfl) (i := 3) rfl rfl ?_)
    refine sx rfl (stp_move (v := I (k + (cL (cL neE_Entry) x.shelf : Nat))) rfl ?_)
    have hb18 := hb12.upc
    refine sx rfl (stp_call2 Try.func91 rfl rfl rfl ((heldRunS_n W8 (x := x.runs) (h7_1.below st10.below) hb12.lo hb12.hi).mono ?_)); rintro _ W14 ⟨rfl, hk15⟩; refine ⟨_, rfl, ?_⟩
    have st16 := St.call st10 hk15
    refine sx rfl (stp_assign (v := I ((k + (cL (cL neE_Entry) x.shelf : Nat)) + (cL neE_Run x.runs : Nat))) rfl ?_)
    refine sx_nil ?_
    refine wp_seq ?_
    refine wp_seq ?_
    refine sx_region ?_
    refine sx rfl (stp_move (v := I ((k + (cL (cL neE_Entry) x.shelf : Nat)) + (cL neE_Run x.runs : Nat))) rfl ?_)
    refine sx rfl (stp_lss rfl rfl ?_)
    refine sx_nil ?_
    refine sx_if rfl (fun h19 => ?_) (fun h19 => ?_)
    · skip
      have h19p := of_decide_eq_true h19
      exact absurd h19p (Int.not_lt.2 hb18.1)
    · skip
      have h19p := of_decide_eq_false h19
      refine wp_skip ?_
      refine wp_seq ?_
      refine sx_region ?_
      refine sx rfl (stp_move (v := I ((k + (cL (cL neE_Entry) x.shelf : Nat)) + (cL neE_Run x.runs : Nat))) rfl ?_)
      refine sx rfl (stp_assign (v := I ((k + (cL (cL neE_Entry) x.shelf : Nat)) + (cL neE_Run x.runs : Nat))) rfl ?_)
      refine sx_nil ?_
      refine wp_ret ?_; repeat (first | refine then_ret ?_ | refine blk_ret ?_)
      refine ret1 Try.results73 rfl ?_
      exact ⟨congrArg (fun z => Ending.returned (I z)) (by omega), st16.bare⟩
set_option maxHeartbeats 2000000 in
theorem markReplyS_n {w W0 : World} {rs : List Res} {v : Value} {xs : List Reply} {fp : List Nat} (hst : St w W0 (Res.own v xs fp :: rs)) (k : Int) (h0 : 0 ≤ k) (hk : k + (cL neE_Reply xs : Nat) ≤ 4611686018427387904) :
    Calls Try.prog 49 #[v, I k] W0 fun e w' => ∃ fp', e = .returned (I (k + (cL neE_Reply xs : Nat))) ∧ St w w' (Res.own v (mkL mkE_Reply neE_Reply xs k) fp' :: rs) := by
  have hcap := (own_Sl (hst.get 0 rfl)).len_le
  refine enter2 Try.func49 rfl Try.ntmps49 (by decide) ?_
  refine wp_seq ?_
  refine sx_region ?_
  refine sx rfl (stp_assign (v := I 0) rfl ?_)
  refine sx_nil ?_
  refine wp_seq ?_
  refine wp_seq ?_
  refine sx_region ?_
  refine sx rfl (stp_assign (v := I 0) rfl ?_)
  refine sx_nil ?_
  refine wp_block ?_
  refine sx_loop (fun (m : Nat) (f : Nat → Value) (W : World) => ∃ (i : Nat) (K : Int) (fo1 : List Nat), i ≤ xs.length ∧ K = k + (cL neE_Reply (xs.take i) : Nat) ∧ m = xs.length - i ∧ f 0 = v ∧ f 1 = I K ∧ f 5 = I (i : Int) ∧ St w W (Res.own (α := List Reply) v (mkL mkE_Reply neE_Reply (xs.take i) k ++ xs.drop i) fo1 :: rs)) (xs.length - 0) ?_ ?_
  · exact ⟨0, k, fp, Nat.zero_le _, (by simp [cL]), rfl, rfl, rfl, rfl, (by simpa [mkL] using hst)⟩
  intro m2 f3 W4 hJ5
  obtain ⟨i, K, fo1, hi, hK, rfl, hs7_0, hs7_1, hs7_5, st6⟩ := hJ5
  have hlx : (mkL mkE_Reply neE_Reply (xs.take i) k ++ xs.drop i).length = xs.length := by rw [List.length_append, mkL_len, List.length_take, List.length_drop]; omega
  refine wp_seq ?_
  refine wp_seq ?_
  refine sx_region ?_
  refine sx rfl (stp_move (v := I (i : Int)) hs7_5 ?_)
  refine sx rfl (stp_move (v := v) hs7_0 ?_)
  refine sx rfl (stp_len sl_ReplyS rfl (own_Sl (st6.get 0 rfl)) ?_)
  refine sx rfl (stp_lss rfl rfl ?_)
  refine sx_nil ?_
  refine sx_if rfl (fun h8 => ?_) (fun h8 => ?_)
  · skip
    have h8p := of_decide_eq_true h8
    refine wp_skip ?_
    refine wp_seq ?_
    refine wp_block ?_
    refine wp_seq ?_
    refine sx_region ?_
    refine sx rfl (stp_move (v := v) hs7_0 ?_)
    refine sx rfl (stp_move (v := I (i : Int)) hs7_5 ?_)
    refine sx rfl (stp_move (v := I K) hs7_1 ?_)
    have hq_ := some_at (xs := xs) (i := i) (by omega)
    obtain ⟨y, hy⟩ := hq_
    have hcs := cL_takey neE_Reply hy
    have hcl := cL_take_le neE_Reply xs (i + 1)
    have hne : neE_Reply y = 4 := rfl
    have hb9 : Bd K (1 + (1 + (1 + (1 + (0))))) := ⟨by omega, by omega⟩
    have hq_ := St.lendx (α := Reply) (by decide) st6 (x := y) (mk_gety hy)
    obtain ⟨b10, e10, pre10, cs10, post10, fi10, fr10, hPA10, hC10, st11⟩ := hq_
    have st15 := st11.d1
    obtain ⟨he10, hf10, hok10⟩ := hC10; have he10 : _ = [I y.code, I y.run, I y.task, I y.try_] := he10; subst he10
    skip
    refine sx rfl (stp_indexAddr sl_ReplyS rfl hPA10 rfl rfl ?_)
    refine sx rfl (stp_fieldAddr fa_Reply_0 rfl ?_)
    refine sx rfl (stp_store_bp (i := 0) (v := I K) (C' := [I K, I y.run, I y.task, I y.try_]) (by kernel_rfl) rfl rfl rfl rfl st15 rfl (Nat.le_of_ble_eq_true rfl) rfl ?_); intro W16 st17
    refine sx_nil ?_
    refine wp_seq ?_
    refine sx_region ?_
    refine sx rfl (stp_move (v := I K) hs7_1 ?_)
    have hb18 := hb9.up
    refine sx rfl (stp_add rfl rfl hb18.i64 ?_)
    refine sx rfl (stp_assign (v := I (K + 1)) rfl ?_)
    refine sx_nil ?_
    refine wp_seq ?_
    refine sx_region ?_
    refine sx rfl (stp_move (v := v) hs7_0 ?_)
    refine sx rfl (stp_move (v := I (i : Int)) hs7_5 ?_)
    refine sx rfl (stp_move (v := I (K + 1)) rfl ?_)
    refine sx rfl (stp_indexAddr sl_ReplyS rfl hPA10 rfl rfl ?_)
    refine sx rfl (stp_fieldAddr fa_Reply_1 rfl ?_)
    refine sx rfl (stp_store_bp (i := 1) (v := I (K + 1)) (C' := [I K, I (K + 1), I y.task, I y.try_]) (by kernel_rfl) rfl rfl rfl rfl st17 rfl (Nat.le_of_ble_eq_true rfl) rfl ?_); intro W19 st20
    refine sx_nil ?_
    refine wp_seq ?_
    refine sx_region ?_
    refine sx rfl (stp_move (v := I (K + 1)) rfl ?_)
    have hb21 := hb18.up
    refine sx rfl (stp_add rfl rfl hb21.i64 ?_)
    refine sx rfl (stp_assign (v := I ((K + 1) + 1)) rfl ?_)
    refine sx_nil ?_
    refine wp_seq ?_
    refine sx_region ?_
    refine sx rfl (stp_move (v := v) hs7_0 ?_)
    refine sx rfl (stp_move (v := I (i : Int)) hs7_5 ?_)
    refine sx rfl (stp_move (v := I ((K + 1) + 1)) rfl ?_)
    refine sx rfl (stp_indexAddr sl_ReplyS rfl hPA10 rfl rfl ?_)
    refine sx rfl (stp_fieldAddr fa_Reply_2 rfl ?_)
    refine sx rfl (stp_store_bp (i := 2) (v := I ((K + 1) + 1)) (C' := [I K, I (K + 1), I ((K + 1) + 1), I y.try_]) (by kernel_rfl) rfl rfl rfl rfl st20 rfl (Nat.le_of_ble_eq_true rfl) rfl ?_); intro W22 st23
    refine sx_nil ?_
    refine wp_seq ?_
    refine sx_region ?_
    refine sx rfl (stp_move (v := I ((K + 1) + 1)) rfl ?_)
    have hb24 := hb21.up
    refine sx rfl (stp_add rfl rfl hb24.i64 ?_)
    refine sx rfl (stp_assign (v := I (((K + 1) + 1) + 1)) rfl ?_)
    refine sx_nil ?_
    refine wp_seq ?_
    refine sx_region ?_
    refine sx rfl (stp_move (v := v) hs7_0 ?_)
    refine sx rfl (stp_move (v := I (i : Int)) hs7_5 ?_)
    refine sx rfl (stp_move (v := I (((K + 1) + 1) + 1)) rfl ?_)
    refine sx rfl (stp_indexAddr sl_ReplyS rfl hPA10 rfl rfl ?_)
    refine sx rfl (stp_fieldAddr fa_Reply_3 rfl ?_)
    refine sx rfl (stp_store_bp (i := 3) (v := I (((K + 1) + 1) + 1)) (C' := [I K, I (K + 1), I ((K + 1) + 1), I (((K + 1) + 1) + 1)]) (by kernel_rfl) rfl rfl rfl rfl st23 rfl (Nat.le_of_ble_eq_true rfl) rfl ?_); intro W25 st26
    refine sx_nil ?_
    refine sx_region ?_
    refine sx rfl (stp_move (v := I (((K + 1) + 1) + 1)) rfl ?_)
    have hb27 := hb24.up
    refine sx rfl (stp_add rfl rfl hb27.i64 ?_)
    refine sx rfl (stp_assign (v := I ((((K + 1) + 1) + 1) + 1)) rfl ?_)
    refine sx_nil ?_
    refine sx_region ?_
    refine sx rfl (stp_move (v := I (i : Int)) hs7_5 ?_)
    refine sx rfl (stp_add rfl rfl (by (simp only [I64] at *; omega)) ?_)
    refine sx rfl (stp_assign (v := I ((i : Int) + 1)) rfl ?_)
    refine sx_nil ?_
    have st28 := st26.cs0 (cs := [I K, I (K + 1), I ((K + 1) + 1), I (((K + 1) + 1) + 1)]) (x := (⟨K, K + 1, (K + 1) + 1, ((K + 1) + 1) + 1⟩ : Reply)) ⟨rfl, rfl, (by first | exact True.intro | (simp only [Edge.ok, Plan.ok, Entry.ok, Task.ok, Run.ok, Yard.ok, Reply.ok, Deed.ok, Note.ok, Wait.ok, File.ok, Disk.ok, Engine.ok, WorldD.ok, ActD.ok, Hand.ok, Span.ok, Crew.ok, View.ok, I64] at *; omega))⟩
    have st30 := st28.f2
    have st31 := st30.f1
    have st32 := st31.f2
    have hq_ := St.give (α := Reply) st32
    obtain ⟨fp33, st34⟩ := hq_
    exact ⟨_, xs.length - (i + 1), (by omega), rfl, i + 1, (((K + 1) + 1) + 1) + 1, fp33, (by omega), (by omega), rfl, hs7_0, rfl, rfl, (by rw [← mk_stepy hy hK]; exact st34)⟩
  · skip
    have h8p := of_decide_eq_false h8
    refine wp_exit ?_
    refine wp_seq ?_
    refine sx_region ?_
    refine sx rfl (stp_move (v := I K) hs7_1 ?_)
    refine sx rfl (stp_assign (v := I K) rfl ?_)
    refine sx_nil ?_
    refine wp_ret ?_; repeat (first | refine then_ret ?_ | refine blk_ret ?_)
    refine ret1 Try.results49 rfl ?_
    obtain rfl : i = xs.length := by omega
    have hca := cL_all neE_Reply xs _ rfl
    rw [mk_all rfl] at st6
    exact ⟨_, congrArg (fun z => Ending.returned (I z)) (by omega), st6⟩
set_option maxHeartbeats 2000000 in
theorem heldReplyS_n (w : World) {v : Value} {x : List Reply} {fp : List Nat} {k : Int} (h : Sl w v (mkL mkE_Reply neE_Reply x k) fp) (h0 : 0 ≤ k) (hk : k + (cL neE_Reply x : Nat) ≤ 4611686018427387904) :
    Calls Try.prog 52 #[v, I k] w fun e w' => e = .returned (I (k + (cL neE_Reply x : Nat))) ∧ St w w' [] := by
  have hcap := h.len_le
  rw [mkL_len] at hcap
  have hml : (mkL mkE_Reply neE_Reply x k).length = x.length := mkL_len _ _
  refine enter2 Try.func52 rfl Try.ntmps52 (by decide) ?_
  refine wp_seq ?_
  refine sx_region ?_
  refine sx rfl (stp_assign (v := I 0) rfl ?_)
  refine sx_nil ?_
  refine wp_seq ?_
  refine wp_seq ?_
  refine sx_region ?_
  refine sx rfl (stp_assign (v := I 0) rfl ?_)
  refine sx_nil ?_
  refine wp_block ?_
  refine sx_loop (fun (m : Nat) (f : Nat → Value) (W : World) => ∃ (i : Nat) (K : Int), i ≤ x.length ∧ K = k + (cL neE_Reply (x.take i) : Nat) ∧ m = x.length - i ∧ f 0 = v ∧ f 1 = I K ∧ f 5 = I (i : Int) ∧ St w W ([])) (x.length - 0) ?_ ?_
  · exact ⟨0, k, Nat.zero_le _, (by simp [cL]), rfl, rfl, rfl, rfl, (St.start w)⟩
  intro m1 f2 W3 hJ4
  obtain ⟨i, K, hi, hK, rfl, hs6_0, hs6_1, hs6_5, st5⟩ := hJ4
  refine wp_seq ?_
  refine wp_seq ?_
  refine sx_region ?_
  refine sx rfl (stp_move (v := I (i : Int)) hs6_5 ?_)
  refine sx rfl (stp_move (v := v) hs6_0 ?_)
  refine sx rfl (stp_len sl_ReplyS rfl h ?_)
  refine sx rfl (stp_lss rfl rfl ?_)
  refine sx_nil ?_
  refine sx_if rfl (fun h7 => ?_) (fun h7 => ?_)
  · skip
    have h7p := of_decide_eq_true h7
    refine wp_skip ?_
    refine wp_seq ?_
    refine wp_block ?_
    refine wp_seq ?_
    refine wp_seq ?_
    refine sx_region ?_
    refine sx rfl (stp_move (v := v) hs6_0 ?_)
    refine sx rfl (stp_move (v := I (i : Int)) hs6_5 ?_)
    have hq_ := some_at (xs := x) (i := i) (by omega)
    obtain ⟨y, hy⟩ := hq_
    have hcs := cL_takey neE_Reply hy
    have hcl := cL_take_le neE_Reply x (i + 1)
    have hne : neE_Reply y = 4 := rfl
    have hb9 : Bd K (1 + (1 + (1 + (1 + (0))))) := ⟨by omega, by omega⟩
    have hq_ := idxmy h hy hK
    obtain ⟨b8, o8, cs8, f8, hp8, hr8, hc8, hm8⟩ := hq_
    have hk10 := hc8
    obtain ⟨he10, rfl, hok10⟩ := hk10
    have he10 : _ = [I K, I (K + 1), I ((K + 1) + 1), I (((K + 1) + 1) + 1)] := he10; subst he10
    skip
    refine sx rfl (stp_indexAddr sl_ReplyS rfl hp8 rfl rfl ?_)
    refine sx rfl (stp_fieldAddr fa_Reply_0 rfl ?_)
    refine sx rfl (stp_load_rg ld_int rfl rfl hr8 st5.below (i := 0) rfl rfl ?_)
    refine sx rfl (stp_move (v := I K) hs6_1 ?_)
    refine sx rfl (stp_neq rfl rfl ?_)
    refine sx_nil ?_
    refine sx_if rfl (fun h11 => ?_) (fun h11 => ?_)
    · skip
      have h11p := of_decide_eq_false (bnot_t h11)
      exact absurd rfl h11p
    · skip
      have h11p := of_decide_eq_true (bnot_f h11)
      refine wp_skip ?_
      refine wp_seq ?_
      refine sx_region ?_
      refine sx rfl (stp_move (v := I K) hs6_1 ?_)
      have hb12 := hb9.up
      refine sx rfl (stp_add rfl rfl hb12.i64 ?_)
      refine sx rfl (stp_assign (v := I (K + 1)) rfl ?_)
      refine sx_nil ?_
      refine wp_seq ?_
      refine wp_seq ?_
      refine sx_region ?_
      refine sx rfl (stp_move (v := v) hs6_0 ?_)
      refine sx rfl (stp_move (v := I (i : Int)) hs6_5 ?_)
      skip
      refine sx rfl (stp_indexAddr sl_ReplyS rfl hp8 rfl rfl ?_)
      refine sx rfl (stp_fieldAddr fa_Reply_1 rfl ?_)
      refine sx rfl (stp_load_rg ld_int rfl rfl hr8 st5.below (i := 1) rfl rfl ?_)
      refine sx rfl (stp_move (v := I (K + 1)) rfl ?_)
      refine sx rfl (stp_neq rfl rfl ?_)
      refine sx_nil ?_
      refine sx_if rfl (fun h14 => ?_) (fun h14 => ?_)
      · skip
        have h14p := of_decide_eq_false (bnot_t h14)
        exact absurd rfl h14p
      · skip
        have h14p := of_decide_eq_true (bnot_f h14)
        refine wp_skip ?_
        refine wp_seq ?_
        refine sx_region ?_
        refine sx rfl (stp_move (v := I (K + 1)) rfl ?_)
        have hb15 := hb12.up
        refine sx rfl (stp_add rfl rfl hb15.i64 ?_)
        refine sx rfl (stp_assign (v := I ((K + 1) + 1)) rfl ?_)
        refine sx_nil ?_
        refine wp_seq ?_
        refine wp_seq ?_
        refine sx_region ?_
        refine sx rfl (stp_move (v := v) hs6_0 ?_)
        refine sx rfl (stp_move (v := I (i : Int)) hs6_5 ?_)
        skip
        refine sx rfl (stp_indexAddr sl_ReplyS rfl hp8 rfl rfl ?_)
        refine sx rfl (stp_fieldAddr fa_Reply_2 rfl ?_)
        refine sx rfl (stp_load_rg ld_int rfl rfl hr8 st5.below (i := 2) rfl rfl ?_)
        refine sx rfl (stp_move (v := I ((K + 1) + 1)) rfl ?_)
        refine sx rfl (stp_neq rfl rfl ?_)
        refine sx_nil ?_
        refine sx_if rfl (fun h17 => ?_) (fun h17 => ?_)
        · skip
          have h17p := of_decide_eq_false (bnot_t h17)
          exact absurd rfl h17p
        · skip
          have h17p := of_decide_eq_true (bnot_f h17)
          refine wp_skip ?_
          refine wp_seq ?_
          refine sx_region ?_
          refine sx rfl (stp_move (v := I ((K + 1) + 1)) rfl ?_)
          have hb18 := hb15.up
          refine sx rfl (stp_add rfl rfl hb18.i64 ?_)
          refine sx rfl (stp_assign (v := I (((K + 1) + 1) + 1)) rfl ?_)
          refine sx_nil ?_
          refine wp_seq ?_
          refine wp_seq ?_
          refine sx_region ?_
          refine sx rfl (stp_move (v := v) hs6_0 ?_)
          refine sx rfl (stp_move (v := I (i : Int)) hs6_5 ?_)
          skip
          refine sx rfl (stp_indexAddr sl_ReplyS rfl hp8 rfl rfl ?_)
          refine sx rfl (stp_fieldAddr fa_Reply_3 rfl ?_)
          refine sx rfl (stp_load_rg ld_int rfl rfl hr8 st5.below (i := 3) rfl rfl ?_)
          refine sx rfl (stp_move (v := I (((K + 1) + 1) + 1)) rfl ?_)
          refine sx rfl (stp_neq rfl rfl ?_)
          refine sx_nil ?_
          refine sx_if rfl (fun h20 => ?_) (fun h20 => ?_)
          · skip
            have h20p := of_decide_eq_false (bnot_t h20)
            exact absurd rfl h20p
          · skip
            have h20p := of_decide_eq_true (bnot_f h20)
            refine wp_skip ?_
            refine sx_region ?_
            refine sx rfl (stp_move (v := I (((K + 1) + 1) + 1)) rfl ?_)
            have hb21 := hb18.up
            refine sx rfl (stp_add rfl rfl hb21.i64 ?_)
            refine sx rfl (stp_assign (v := I ((((K + 1) + 1) + 1) + 1)) rfl ?_)
            refine sx_nil ?_
            refine sx_region ?_
            refine sx rfl (stp_move (v := I (i : Int)) hs6_5 ?_)
            refine sx rfl (stp_add rfl rfl (by (simp only [I64] at *; omega)) ?_)
            refine sx rfl (stp_assign (v := I ((i : Int) + 1)) rfl ?_)
            refine sx_nil ?_
            exact ⟨_, x.length - (i + 1), (by omega), rfl, i + 1, (((K + 1) + 1) + 1) + 1, (by omega), (by omega), rfl, hs6_0, rfl, rfl, st5⟩
  · skip
    have h7p := of_decide_eq_false h7
    refine wp_exit ?_
    refine wp_seq ?_
    refine sx_region ?_
    refine sx rfl (stp_move (v := I K) hs6_1 ?_)
    refine sx rfl (stp_assign (v := I K) rfl ?_)
    refine sx_nil ?_
    refine wp_ret ?_; repeat (first | refine then_ret ?_ | refine blk_ret ?_)
    refine ret1 Try.results52 rfl ?_
    obtain rfl : i = x.length := by omega
    have hca := cL_all neE_Reply x _ rfl
    exact ⟨congrArg (fun z => Ending.returned (I z)) (by omega), st5.bare⟩
set_option maxHeartbeats 2000000 in
theorem markDeedS_n {w W0 : World} {rs : List Res} {v : Value} {xs : List Deed} {fp : List Nat} (hst : St w W0 (Res.own v xs fp :: rs)) (k : Int) (h0 : 0 ≤ k) (hk : k + (cL neE_Deed xs : Nat) ≤ 4611686018427387904) :
    Calls Try.prog 48 #[v, I k] W0 fun e w' => ∃ fp', e = .returned (I (k + (cL neE_Deed xs : Nat))) ∧ St w w' (Res.own v (mkL mkE_Deed neE_Deed xs k) fp' :: rs) := by
  have hcap := (own_Sl (hst.get 0 rfl)).len_le
  refine enter2 Try.func48 rfl Try.ntmps48 (by decide) ?_
  refine wp_seq ?_
  refine sx_region ?_
  refine sx rfl (stp_assign (v := I 0) rfl ?_)
  refine sx_nil ?_
  refine wp_seq ?_
  refine wp_seq ?_
  refine sx_region ?_
  refine sx rfl (stp_assign (v := I 0) rfl ?_)
  refine sx_nil ?_
  refine wp_block ?_
  refine sx_loop (fun (m : Nat) (f : Nat → Value) (W : World) => ∃ (i : Nat) (K : Int) (fo1 : List Nat), i ≤ xs.length ∧ K = k + (cL neE_Deed (xs.take i) : Nat) ∧ m = xs.length - i ∧ f 0 = v ∧ f 1 = I K ∧ f 5 = I (i : Int) ∧ St w W (Res.own (α := List Deed) v (mkL mkE_Deed neE_Deed (xs.take i) k ++ xs.drop i) fo1 :: rs)) (xs.length - 0) ?_ ?_
  · exact ⟨0, k, fp, Nat.zero_le _, (by simp [cL]), rfl, rfl, rfl, rfl, (by simpa [mkL] using hst)⟩
  intro m2 f3 W4 hJ5
  obtain ⟨i, K, fo1, hi, hK, rfl, hs7_0, hs7_1, hs7_5, st6⟩ := hJ5
  have hlx : (mkL mkE_Deed neE_Deed (xs.take i) k ++ xs.drop i).length = xs.length := by rw [List.length_append, mkL_len, List.length_take, List.length_drop]; omega
  refine wp_seq ?_
  refine wp_seq ?_
  refine sx_region ?_
  refine sx rfl (stp_move (v := I (i : Int)) hs7_5 ?_)
  refine sx rfl (stp_move (v := v) hs7_0 ?_)
  refine sx rfl (stp_len sl_DeedS rfl (own_Sl (st6.get 0 rfl)) ?_)
  refine sx rfl (stp_lss rfl rfl ?_)
  refine sx_nil ?_
  refine sx_if rfl (fun h8 => ?_) (fun h8 => ?_)
  · skip
    have h8p := of_decide_eq_true h8
    refine wp_skip ?_
    refine wp_seq ?_
    refine wp_block ?_
    refine wp_seq ?_
    refine sx_region ?_
    refine sx rfl (stp_move (v := v) hs7_0 ?_)
    refine sx rfl (stp_move (v := I (i : Int)) hs7_5 ?_)
    refine sx rfl (stp_move (v := I K) hs7_1 ?_)
    have hq_ := some_at (xs := xs) (i := i) (by omega)
    obtain ⟨y, hy⟩ := hq_
    have hcs := cL_takey neE_Deed hy
    have hcl := cL_take_le neE_Deed xs (i + 1)
    have hne : neE_Deed y = 10 + cL neE_Edge y.plan.edges := rfl
    have hb9 : Bd K (1 + (1 + (1 + (1 + (1 + (1 + ((cL neE_Edge y.plan.edges) + (1 + (1 + (1 + (1 + (0)))))))))))) := ⟨by omega, by omega⟩
    have hq_ := St.lendx (α := Deed) (by decide) st6 (x := y) (mk_gety hy)
    obtain ⟨b10, e10, pre10, cs10, post10, fi10, fr10, hPA10, hC10, st11⟩ := hq_
    have st15 := st11.f1
    have st16 := st15.uncs rfl
    have hq_ := open_Deed st16
    obtain ⟨v17_0, g17_0, he17, hok17, st18⟩ := hq_
    subst he17
    skip
    refine sx rfl (stp_indexAddr sl_DeedS rfl hPA10 rfl rfl ?_)
    refine sx rfl (stp_fieldAddr fa_Deed_0 rfl ?_)
    have st20 := st18.f1
    refine sx rfl (stp_store_bp (i := 0) (v := I K) (C' := [I K, I y.run, I y.plan.prio, I y.plan.most, I y.plan.wait, I y.plan.tasks, v17_0, I y.task, I y.try_, I y.worker, I y.draw]) (by kernel_rfl) rfl rfl rfl rfl st20 rfl (Nat.le_of_ble_eq_true rfl) rfl ?_); intro W21 st22
    refine sx_nil ?_
    refine wp_seq ?_
    refine sx_region ?_
    refine sx rfl (stp_move (v := I K) hs7_1 ?_)
    have hb23 := hb9.up
    refine sx rfl (stp_add rfl rfl hb23.i64 ?_)
    refine sx rfl (stp_assign (v := I (K + 1)) rfl ?_)
    refine sx_nil ?_
    refine wp_seq ?_
    refine sx_region ?_
    refine sx rfl (stp_move (v := v) hs7_0 ?_)
    refine sx rfl (stp_move (v := I (i : Int)) hs7_5 ?_)
    refine sx rfl (stp_move (v := I (K + 1)) rfl ?_)
    refine sx rfl (stp_indexAddr sl_DeedS rfl hPA10 rfl rfl ?_)
    refine sx rfl (stp_fieldAddr fa_Deed_1 rfl ?_)
    refine sx rfl (stp_store_bp (i := 1) (v := I (K + 1)) (C' := [I K, I (K + 1), I y.plan.prio, I y.plan.most, I y.plan.wait, I y.plan.tasks, v17_0, I y.task, I y.try_, I y.worker, I y.draw]) (by kernel_rfl) rfl rfl rfl rfl st22 rfl (Nat.le_of_ble_eq_true rfl) rfl ?_); intro W24 st25
    refine sx_nil ?_
    refine wp_seq ?_
    refine sx_region ?_
    refine sx rfl (stp_move (v := I (K + 1)) rfl ?_)
    have hb26 := hb23.up
    refine sx rfl (stp_add rfl rfl hb26.i64 ?_)
    refine sx rfl (stp_assign (v := I ((K + 1) + 1)) rfl ?_)
    refine sx_nil ?_
    refine wp_seq ?_
    refine sx_region ?_
    refine sx rfl (stp_move (v := v) hs7_0 ?_)
    refine sx rfl (stp_move (v := I (i : Int)) hs7_5 ?_)
    refine sx rfl (stp_move (v := I ((K + 1) + 1)) rfl ?_)
    refine sx rfl (stp_indexAddr sl_DeedS rfl hPA10 rfl rfl ?_)
    refine sx rfl (stp_fieldAddr fa_Deed_2 rfl ?_)
    refine sx rfl (stp_fieldAddr fa_Plan_0 rfl ?_)
    refine sx rfl (stp_store_bp (i := 2) (v := I ((K + 1) + 1)) (C' := [I K, I (K + 1), I ((K + 1) + 1), I y.plan.most, I y.plan.wait, I y.plan.tasks, v17_0, I y.task, I y.try_, I y.worker, I y.draw]) (by kernel_rfl) rfl rfl rfl rfl st25 rfl (Nat.le_of_ble_eq_true rfl) rfl ?_); intro W27 st28
    refine sx_nil ?_
    refine wp_seq ?_
    refine sx_region ?_
    refine sx rfl (stp_move (v := I ((K + 1) + 1)) rfl ?_)
    have hb29 := hb26.up
    refine sx rfl (stp_add rfl rfl hb29.i64 ?_)
    refine sx rfl (stp_assign (v := I (((K + 1) + 1) + 1)) rfl ?_)
    refine sx_nil ?_
    refine wp_seq ?_
    refine sx_region ?_
    refine sx rfl (stp_move (v := v) hs7_0 ?_)
    refine sx rfl (stp_move (v := I (i : Int)) hs7_5 ?_)
    refine sx rfl (stp_move (v := I (((K + 1) + 1) + 1)) rfl ?_)
    refine sx rfl (stp_indexAddr sl_DeedS rfl hPA10 rfl rfl ?_)
    refine sx rfl (stp_fieldAddr fa_Deed_2 rfl ?_)
    refine sx rfl (stp_fieldAddr fa_Plan_1 rfl ?_)
    refine sx rfl (stp_store_bp (i := 3) (v := I (((K + 1) + 1) + 1)) (C' := [I K, I (K + 1), I ((K + 1) + 1), I (((K + 1) + 1) + 1), I y.plan.wait, I y.plan.tasks, v17_0, I y.task, I y.try_, I y.worker, I y.draw]) (by kernel_rfl) rfl rfl rfl rfl st28 rfl (Nat.le_of_ble_eq_true rfl) rfl ?_); intro W30 st31
    refine sx_nil ?_
    refine wp_seq ?_
    refine sx_region ?_
    refine sx rfl (stp_move (v := I (((K + 1) + 1) + 1)) rfl ?_)
    have hb32 := hb29.up
    refine sx rfl (stp_add rfl rfl hb32.i64 ?_)
    refine sx rfl (stp_assign (v := I ((((K + 1) + 1) + 1) + 1)) rfl ?_)
    refine sx_nil ?_
    refine wp_seq ?_
    refine sx_region ?_
    refine sx rfl (stp_move (v := v) hs7_0 ?_)
    refine sx rfl (stp_move (v := I (i : Int)) hs7_5 ?_)
    refine sx rfl (stp_move (v := I ((((K + 1) + 1) + 1) + 1)) rfl ?_)
    refine sx rfl (stp_indexAddr sl_DeedS rfl hPA10 rfl rfl ?_)
    refine sx rfl (stp_fieldAddr fa_Deed_2 rfl ?_)
    refine sx rfl (stp_fieldAddr fa_Plan_2 rfl ?_)
    refine sx rfl (stp_store_bp (i := 4) (v := I ((((K + 1) + 1) + 1) + 1)) (C' := [I K, I (K + 1), I ((K + 1) + 1), I (((K + 1) + 1) + 1), I ((((K + 1) + 1) + 1) + 1), I y.plan.tasks, v17_0, I y.task, I y.try_, I y.worker, I y.draw]) (by kernel_rfl) rfl rfl rfl rfl st31 rfl (Nat.le_of_ble_eq_true rfl) rfl ?_); intro W33 st34
    refine sx_nil ?_
    refine wp_seq ?_
    refine sx_region ?_
    refine sx rfl (stp_move (v := I ((((K + 1) + 1) + 1) + 1)) rfl ?_)
    have hb35 := hb32.up
    refine sx rfl (stp_add rfl rfl hb35.i64 ?_)
    refine sx rfl (stp_assign (v := I (((((K + 1) + 1) + 1) + 1) + 1)) rfl ?_)
    refine sx_nil ?_
    refine wp_seq ?_
    refine sx_region ?_
    refine sx rfl (stp_move (v := v) hs7_0 ?_)
    refine sx rfl (stp_move (v := I (i : Int)) hs7_5 ?_)
    refine sx rfl (stp_move (v := I (((((K + 1) + 1) + 1) + 1) + 1)) rfl ?_)
    refine sx rfl (stp_indexAddr sl_DeedS rfl hPA10 rfl rfl ?_)
    refine sx rfl (stp_fieldAddr fa_Deed_2 rfl ?_)
    refine sx rfl (stp_fieldAddr fa_Plan_3 rfl ?_)
    refine sx rfl (stp_store_bp (i := 5) (v := I (((((K + 1) + 1) + 1) + 1) + 1)) (C' := [I K, I (K + 1), I ((K + 1) + 1), I (((K + 1) + 1) + 1), I ((((K + 1) + 1) + 1) + 1), I (((((K + 1) + 1) + 1) + 1) + 1), v17_0, I y.task, I y.try_, I y.worker, I y.draw]) (by kernel_rfl) rfl rfl rfl rfl st34 rfl (Nat.le_of_ble_eq_true rfl) rfl ?_); intro W36 st37
    refine sx_nil ?_
    refine wp_seq ?_
    refine sx_region ?_
    refine sx rfl (stp_move (v := I (((((K + 1) + 1) + 1) + 1) + 1)) rfl ?_)
    have hb38 := hb35.up
    refine sx rfl (stp_add rfl rfl hb38.i64 ?_)
    refine sx rfl (stp_assign (v := I ((((((K + 1) + 1) + 1) + 1) + 1) + 1)) rfl ?_)
    refine sx_nil ?_
    refine wp_seq ?_
    refine sx_region ?_
    refine sx rfl (stp_move (v := v) hs7_0 ?_)
    refine sx rfl (stp_move (v := I (i : Int)) hs7_5 ?_)
    refine sx rfl (stp_indexAddr sl_DeedS rfl hPA10 rfl rfl ?_)
    refine sx rfl (stp_fieldAddr fa_Deed_2 rfl ?_)
    refine sx rfl (stp_fieldAddr fa_Plan_4 rfl ?_)
    refine sx rfl (stp_load_bp ld_EdgeS rfl rfl (st37.get 0 rfl) (i := 6) rfl rfl ?_)
    refine sx rfl (stp_move (v := I ((((((K + 1) + 1) + 1) + 1) + 1) + 1)) rfl ?_)
    have st43 := st37.f1
    have hb44 := hb38.upc
    refine sx rfl (stp_call2 Try.func60 rfl rfl rfl ((markEdgeS_n st43 ((((((K + 1) + 1) + 1) + 1) + 1) + 1) hb38.lo hb38.hi).mono ?_)); rintro _ W39 ⟨fp42, rfl, st41⟩; refine ⟨_, rfl, ?_⟩
    refine sx rfl (stp_assign (v := I (((((((K + 1) + 1) + 1) + 1) + 1) + 1) + (cL neE_Edge y.plan.edges : Nat))) rfl ?_)
    refine sx_nil ?_
    refine wp_seq ?_
    refine sx_region ?_
    refine sx rfl (stp_move (v := v) hs7_0 ?_)
    refine sx rfl (stp_move (v := I (i : Int)) hs7_5 ?_)
    refine sx rfl (stp_move (v := I (((((((K + 1) + 1) + 1) + 1) + 1) + 1) + (cL neE_Edge y.plan.edges : Nat))) rfl ?_)
    refine sx rfl (stp_indexAddr sl_DeedS rfl hPA10 rfl rfl ?_)
    refine sx rfl (stp_fieldAddr fa_Deed_3 rfl ?_)
    have st45 := st41.f1
    refine sx rfl (stp_store_bp (i := 7) (v := I (((((((K + 1) + 1) + 1) + 1) + 1) + 1) + (cL neE_Edge y.plan.edges : Nat))) (C' := [I K, I (K + 1), I ((K + 1) + 1), I (((K + 1) + 1) + 1), I ((((K + 1) + 1) + 1) + 1), I (((((K + 1) + 1) + 1) + 1) + 1), v17_0, I (((((((K + 1) + 1) + 1) + 1) + 1) + 1) + (cL neE_Edge y.plan.edges : Nat)), I y.try_, I y.worker, I y.draw]) (by kernel_rfl) rfl rfl rfl rfl st45 rfl (Nat.le_of_ble_eq_true rfl) rfl ?_); intro W46 st47
    refine sx_nil ?_
    refine wp_seq ?_
    refine sx_region ?_
    refine sx rfl (stp_move (v := I (((((((K + 1) + 1) + 1) + 1) + 1) + 1) + (cL neE_Edge y.plan.edges : Nat))) rfl ?_)
    have hb48 := hb44.up
    refine sx rfl (stp_add rfl rfl hb48.i64 ?_)
    refine sx rfl (stp_assign (v := I ((((((((K + 1) + 1) + 1) + 1) + 1) + 1) + (cL neE_Edge y.plan.edges : Nat)) + 1)) rfl ?_)
    refine sx_nil ?_
    refine wp_seq ?_
    refine sx_region ?_
    refine sx rfl (stp_move (v := v) hs7_0 ?_)
    refine sx rfl (stp_move (v := I (i : Int)) hs7_5 ?_)
    refine sx rfl (stp_move (v := I ((((((((K + 1) + 1) + 1) + 1) + 1) + 1) + (cL neE_Edge y.plan.edges : Nat)) + 1)) rfl ?_)
    refine sx rfl (stp_indexAddr sl_DeedS rfl hPA10 rfl rfl ?_)
    refine sx rfl (stp_fieldAddr fa_Deed_4 rfl ?_)
    refine sx rfl (stp_store_bp (i := 8) (v := I ((((((((K + 1) + 1) + 1) + 1) + 1) + 1) + (cL neE_Edge y.plan.edges : Nat)) + 1)) (C' := [I K, I (K + 1), I ((K + 1) + 1), I (((K + 1) + 1) + 1), I ((((K + 1) + 1) + 1) + 1), I (((((K + 1) + 1) + 1) + 1) + 1), v17_0, I (((((((K + 1) + 1) + 1) + 1) + 1) + 1) + (cL neE_Edge y.plan.edges : Nat)), I ((((((((K + 1) + 1) + 1) + 1) + 1) + 1) + (cL neE_Edge y.plan.edges : Nat)) + 1), I y.worker, I y.draw]) (by kernel_rfl) rfl rfl rfl rfl st47 rfl (Nat.le_of_ble_eq_true rfl) rfl ?_); intro W49 st50
    refine sx_nil ?_
    refine wp_seq ?_
    refine sx_region ?_
    refine sx rfl (stp_move (v := I ((((((((K + 1) + 1) + 1) + 1) + 1) + 1) + (cL neE_Edge y.plan.edges : Nat)) + 1)) rfl ?_)
    have hb51 := hb48.up
    refine sx rfl (stp_add rfl rfl hb51.i64 ?_)
    refine sx rfl (stp_assign (v := I (((((((((K + 1) + 1) + 1) + 1) + 1) + 1) + (cL neE_Edge y.plan.edges : Nat)) + 1) + 1)) rfl ?_)
    refine sx_nil ?_
    refine wp_seq ?_
    refine sx_region ?_
    refine sx rfl (stp_move (v := v) hs7_0 ?_)
    refine sx rfl (stp_move (v := I (i : Int)) hs7_5 ?_)
    refine sx rfl (stp_move (v := I (((((((((K + 1) + 1) + 1) + 1) + 1) + 1) + (cL neE_Edge y.plan.edges : Nat)) + 1) + 1)) rfl ?_)
    refine sx rfl (stp_indexAddr sl_DeedS rfl hPA10 rfl rfl ?_)
    refine sx rfl (stp_fieldAddr fa_Deed_5 rfl ?_)
    refine sx rfl (stp_store_bp (i := 9) (v := I (((((((((K + 1) + 1) + 1) + 1) + 1) + 1) + (cL neE_Edge y.plan.edges : Nat)) + 1) + 1)) (C' := [I K, I (K + 1), I ((K + 1) + 1), I (((K + 1) + 1) + 1), I ((((K + 1) + 1) + 1) + 1), I (((((K + 1) + 1) + 1) + 1) + 1), v17_0, I (((((((K + 1) + 1) + 1) + 1) + 1) + 1) + (cL neE_Edge y.plan.edges : Nat)), I ((((((((K + 1) + 1) + 1) + 1) + 1) + 1) + (cL neE_Edge y.plan.edges : Nat)) + 1), I (((((((((K + 1) + 1) + 1) + 1) + 1) + 1) + (cL neE_Edge y.plan.edges : Nat)) + 1) + 1), I y.draw]) (by kernel_rfl) rfl rfl rfl rfl st50 rfl (Nat.le_of_ble_eq_true rfl) rfl ?_); intro W52 st53
    refine sx_nil ?_
    refine wp_seq ?_
    refine sx_region ?_
    refine sx rfl (stp_move (v := I (((((((((K + 1) + 1) + 1) + 1) + 1) + 1) + (cL neE_Edge y.plan.edges : Nat)) + 1) + 1)) rfl ?_)
    have hb54 := hb51.up
    refine sx rfl (stp_add rfl rfl hb54.i64 ?_)
    refine sx rfl (stp_assign (v := I ((((((((((K + 1) + 1) + 1) + 1) + 1) + 1) + (cL neE_Edge y.plan.edges : Nat)) + 1) + 1) + 1)) rfl ?_)
    refine sx_nil ?_
    refine wp_seq ?_
    refine sx_region ?_
    refine sx rfl (stp_move (v := v) hs7_0 ?_)
    refine sx rfl (stp_move (v := I (i : Int)) hs7_5 ?_)
    refine sx rfl (stp_move (v := I ((((((((((K + 1) + 1) + 1) + 1) + 1) + 1) + (cL neE_Edge y.plan.edges : Nat)) + 1) + 1) + 1)) rfl ?_)
    refine sx rfl (stp_indexAddr sl_DeedS rfl hPA10 rfl rfl ?_)
    refine sx rfl (stp_fieldAddr fa_Deed_6 rfl ?_)
    refine sx rfl (stp_store_bp (i := 10) (v := I ((((((((((K + 1) + 1) + 1) + 1) + 1) + 1) + (cL neE_Edge y.plan.edges : Nat)) + 1) + 1) + 1)) (C' := [I K, I (K + 1), I ((K + 1) + 1), I (((K + 1) + 1) + 1), I ((((K + 1) + 1) + 1) + 1), I (((((K + 1) + 1) + 1) + 1) + 1), v17_0, I (((((((K + 1) + 1) + 1) + 1) + 1) + 1) + (cL neE_Edge y.plan.edges : Nat)), I ((((((((K + 1) + 1) + 1) + 1) + 1) + 1) + (cL neE_Edge y.plan.edges : Nat)) + 1), I (((((((((K + 1) + 1) + 1) + 1) + 1) + 1) + (cL neE_Edge y.plan.edges : Nat)) + 1) + 1), I ((((((((((K + 1) + 1) + 1) + 1) + 1) + 1) + (cL neE_Edge y.plan.edges : Nat)) + 1) + 1) + 1)]) (by kernel_rfl) rfl rfl rfl rfl st53 rfl (Nat.le_of_ble_eq_true rfl) rfl ?_); intro W55 st56
    refine sx_nil ?_
    refine sx_region ?_
    refine sx rfl (stp_move (v := I ((((((((((K + 1) + 1) + 1) + 1) + 1) + 1) + (cL neE_Edge y.plan.edges : Nat)) + 1) + 1) + 1)) rfl ?_)
    have hb57 := hb54.up
    refine sx rfl (stp_add rfl rfl hb57.i64 ?_)
    refine sx rfl (stp_assign (v := I (((((((((((K + 1) + 1) + 1) + 1) + 1) + 1) + (cL neE_Edge y.plan.edges : Nat)) + 1) + 1) + 1) + 1)) rfl ?_)
    refine sx_nil ?_
    refine sx_region ?_
    refine sx rfl (stp_move (v := I (i : Int)) hs7_5 ?_)
    refine sx rfl (stp_add rfl rfl (by (simp only [I64] at *; omega)) ?_)
    refine sx rfl (stp_assign (v := I ((i : Int) + 1)) rfl ?_)
    refine sx_nil ?_
    have st58 := st56.f1
    have st59 := shut_Deed (x := (⟨K, K + 1, ⟨(K + 1) + 1, ((K + 1) + 1) + 1, (((K + 1) + 1) + 1) + 1, ((((K + 1) + 1) + 1) + 1) + 1, mkL mkE_Edge neE_Edge y.plan.edges ((((((K + 1) + 1) + 1) + 1) + 1) + 1)⟩, ((((((K + 1) + 1) + 1) + 1) + 1) + 1) + (cL neE_Edge y.plan.edges : Nat), (((((((K + 1) + 1) + 1) + 1) + 1) + 1) + (cL neE_Edge y.plan.edges : Nat)) + 1, ((((((((K + 1) + 1) + 1) + 1) + 1) + 1) + (cL neE_Edge y.plan.edges : Nat)) + 1) + 1, (((((((((K + 1) + 1) + 1) + 1) + 1) + 1) + (cL neE_Edge y.plan.edges : Nat)) + 1) + 1) + 1⟩ : Deed)) st58 (by first | exact True.intro | (simp only [Edge.ok, Plan.ok, Entry.ok, Task.ok, Run.ok, Yard.ok, Reply.ok, Deed.ok, Note.ok, Wait.ok, File.ok, Disk.ok, Engine.ok, WorldD.ok, ActD.ok, Hand.ok, Span.ok, Crew.ok, View.ok, I64] at *; omega))
    try dsimp only at st59
    have st61 := st59.cs rfl
    have st62 := st61.f2
    have st63 := st62.f1
    have st64 := st63.f2
    have hq_ := St.give (α := Deed) st64
    obtain ⟨fp65, st66⟩ := hq_
    exact ⟨_, xs.length - (i + 1), (by omega), rfl, i + 1, ((((((((((K + 1) + 1) + 1) + 1) + 1) + 1) + (cL neE_Edge y.plan.edges : Nat)) + 1) + 1) + 1) + 1, fp65, (by omega), (by omega), rfl, hs7_0, rfl, rfl, (by rw [← mk_stepy hy hK]; exact st66)⟩
  · skip
    have h8p := of_decide_eq_false h8
    refine wp_exit ?_
    refine wp_seq ?_
    refine sx_region ?_
    refine sx rfl (stp_move (v := I K) hs7_1 ?_)
    refine sx rfl (stp_assign (v := I K) rfl ?_)
    refine sx_nil ?_
    refine wp_ret ?_; repeat (first | refine then_ret ?_ | refine blk_ret ?_)
    refine ret1 Try.results48 rfl ?_
    obtain rfl : i = xs.length := by omega
    have hca := cL_all neE_Deed xs _ rfl
    rw [mk_all rfl] at st6
    exact ⟨_, congrArg (fun z => Ending.returned (I z)) (by omega), st6⟩
set_option maxHeartbeats 2000000 in
theorem heldDeedS_n (w : World) {v : Value} {x : List Deed} {fp : List Nat} {k : Int} (h : Sl w v (mkL mkE_Deed neE_Deed x k) fp) (h0 : 0 ≤ k) (hk : k + (cL neE_Deed x : Nat) ≤ 4611686018427387904) :
    Calls Try.prog 51 #[v, I k] w fun e w' => e = .returned (I (k + (cL neE_Deed x : Nat))) ∧ St w w' [] := by
  have hcap := h.len_le
  rw [mkL_len] at hcap
  have hml : (mkL mkE_Deed neE_Deed x k).length = x.length := mkL_len _ _
  refine enter2 Try.func51 rfl Try.ntmps51 (by decide) ?_
  refine wp_seq ?_
  refine sx_region ?_
  refine sx rfl (stp_assign (v := I 0) rfl ?_)
  refine sx_nil ?_
  refine wp_seq ?_
  refine wp_seq ?_
  refine sx_region ?_
  refine sx rfl (stp_assign (v := I 0) rfl ?_)
  refine sx_nil ?_
  refine wp_block ?_
  refine sx_loop (fun (m : Nat) (f : Nat → Value) (W : World) => ∃ (i : Nat) (K : Int), i ≤ x.length ∧ K = k + (cL neE_Deed (x.take i) : Nat) ∧ m = x.length - i ∧ f 0 = v ∧ f 1 = I K ∧ f 5 = I (i : Int) ∧ St w W ([])) (x.length - 0) ?_ ?_
  · exact ⟨0, k, Nat.zero_le _, (by simp [cL]), rfl, rfl, rfl, rfl, (St.start w)⟩
  intro m1 f2 W3 hJ4
  obtain ⟨i, K, hi, hK, rfl, hs6_0, hs6_1, hs6_5, st5⟩ := hJ4
  refine wp_seq ?_
  refine wp_seq ?_
  refine sx_region ?_
  refine sx rfl (stp_move (v := I (i : Int)) hs6_5 ?_)
  refine sx rfl (stp_move (v := v) hs6_0 ?_)
  refine sx rfl (stp_len sl_DeedS rfl h ?_)
  refine sx rfl (stp_lss rfl rfl ?_)
  refine sx_nil ?_
  refine sx_if rfl (fun h7 => ?_) (fun h7 => ?_)
  · skip
    have h7p := of_decide_eq_true h7
    refine wp_skip ?_
    refine wp_seq ?_
    refine wp_block ?_
    refine wp_seq ?_
    refine wp_seq ?_
    refine sx_region ?_
    refine sx rfl (stp_move (v := v) hs6_0 ?_)
    refine sx rfl (stp_move (v := I (i : Int)) hs6_5 ?_)
    have hq_ := some_at (xs := x) (i := i) (by omega)
    obtain ⟨y, hy⟩ := hq_
    have hcs := cL_takey neE_Deed hy
    have hcl := cL_take_le neE_Deed x (i + 1)
    have hne : neE_Deed y = 10 + cL neE_Edge y.plan.edges := rfl
    have hb9 : Bd K (1 + (1 + (1 + (1 + (1 + (1 + ((cL neE_Edge y.plan.edges) + (1 + (1 + (1 + (1 + (0)))))))))))) := ⟨by omega, by omega⟩
    have hq_ := idxmy h hy hK
    obtain ⟨b8, o8, cs8, f8, hp8, hr8, hc8, hm8⟩ := hq_
    have hk10 := hc8
    obtain ⟨v10_0, g10_0, he10, hok10, h10_0, rfl⟩ := hk10
    have he10 : _ = [I K, I (K + 1), I ((K + 1) + 1), I (((K + 1) + 1) + 1), I ((((K + 1) + 1) + 1) + 1), I (((((K + 1) + 1) + 1) + 1) + 1), v10_0, I (((((((K + 1) + 1) + 1) + 1) + 1) + 1) + (cL neE_Edge y.plan.edges : Nat)), I ((((((((K + 1) + 1) + 1) + 1) + 1) + 1) + (cL neE_Edge y.plan.edges : Nat)) + 1), I (((((((((K + 1) + 1) + 1) + 1) + 1) + 1) + (cL neE_Edge y.plan.edges : Nat)) + 1) + 1), I ((((((((((K + 1) + 1) + 1) + 1) + 1) + 1) + (cL neE_Edge y.plan.edges : Nat)) + 1) + 1) + 1)] := he10; subst he10
    have h10_0 : Sl _ v10_0 (mkL mkE_Edge neE_Edge y.plan.edges ((((((K + 1) + 1) + 1) + 1) + 1) + 1)) _ := h10_0
    skip
    refine sx rfl (stp_indexAddr sl_DeedS rfl hp8 rfl rfl ?_)
    refine sx rfl (stp_fieldAddr fa_Deed_0 rfl ?_)
    refine sx rfl (stp_load_rg ld_int rfl rfl hr8 st5.below (i := 0) rfl rfl ?_)
    refine sx rfl (stp_move (v := I K) hs6_1 ?_)
    refine sx rfl (stp_neq rfl rfl ?_)
    refine sx_nil ?_
    refine sx_if rfl (fun h11 => ?_) (fun h11 => ?_)
    · skip
      have h11p := of_decide_eq_false (bnot_t h11)
      exact absurd rfl h11p
    · skip
      have h11p := of_decide_eq_true (bnot_f h11)
      refine wp_skip ?_
      refine wp_seq ?_
      refine sx_region ?_
      refine sx rfl (stp_move (v := I K) hs6_1 ?_)
      have hb12 := hb9.up
      refine sx rfl (stp_add rfl rfl hb12.i64 ?_)
      refine sx rfl (stp_assign (v := I (K + 1)) rfl ?_)
      refine sx_nil ?_
      refine wp_seq ?_
      refine wp_seq ?_
      refine sx_region ?_
      refine sx rfl (stp_move (v := v) hs6_0 ?_)
      refine sx rfl (stp_move (v := I (i : Int)) hs6_5 ?_)
      skip
      refine sx rfl (stp_indexAddr sl_DeedS rfl hp8 rfl rfl ?_)
      refine sx rfl (stp_fieldAddr fa_Deed_1 rfl ?_)
      refine sx rfl (stp_load_rg ld_int rfl rfl hr8 st5.below (i := 1) rfl rfl ?_)
      refine sx rfl (stp_move (v := I (K + 1)) rfl ?_)
      refine sx rfl (stp_neq rfl rfl ?_)
      refine sx_nil ?_
      refine sx_if rfl (fun h14 => ?_) (fun h14 => ?_)
      · skip
        have h14p := of_decide_eq_false (bnot_t h14)
        exact absurd rfl h14p
      · skip
        have h14p := of_decide_eq_true (bnot_f h14)
        refine wp_skip ?_
        refine wp_seq ?_
        refine sx_region ?_
        refine sx rfl (stp_move (v := I (K + 1)) rfl ?_)
        have hb15 := hb12.up
        refine sx rfl (stp_add rfl rfl hb15.i64 ?_)
        refine sx rfl (stp_assign (v := I ((K + 1) + 1)) rfl ?_)
        refine sx_nil ?_
        refine wp_seq ?_
        refine wp_seq ?_
        refine sx_region ?_
        refine sx rfl (stp_move (v := v) hs6_0 ?_)
        refine sx rfl (stp_move (v := I (i : Int)) hs6_5 ?_)
        skip
        refine sx rfl (stp_indexAddr sl_DeedS rfl hp8 rfl rfl ?_)
        refine sx rfl (stp_fieldAddr fa_Deed_2 rfl ?_)
        refine sx rfl (stp_fieldAddr fa_Plan_0 rfl ?_)
        refine sx rfl (stp_load_rg ld_int rfl rfl hr8 st5.below (i := 2) rfl rfl ?_)
        refine sx rfl (stp_move (v := I ((K + 1) + 1)) rfl ?_)
        refine sx rfl (stp_neq rfl rfl ?_)
        refine sx_nil ?_
        refine sx_if rfl (fun h17 => ?_) (fun h17 => ?_)
        · skip
          have h17p := of_decide_eq_false (bnot_t h17)
          exact absurd rfl h17p
        · skip
          have h17p := of_decide_eq_true (bnot_f h17)
          refine wp_skip ?_
          refine wp_seq ?_
          refine sx_region ?_
          refine sx rfl (stp_move (v := I ((K + 1) + 1)) rfl ?_)
          have hb18 := hb15.up
          refine sx rfl (stp_add rfl rfl hb18.i64 ?_)
          refine sx rfl (stp_assign (v := I (((K + 1) + 1) + 1)) rfl ?_)
          refine sx_nil ?_
          refine wp_seq ?_
          refine wp_seq ?_
          refine sx_region ?_
          refine sx rfl (stp_move (v := v) hs6_0 ?_)
          refine sx rfl (stp_move (v := I (i : Int)) hs6_5 ?_)
          skip
          refine sx rfl (stp_indexAddr sl_DeedS rfl hp8 rfl rfl ?_)
          refine sx rfl (stp_fieldAddr fa_Deed_2 rfl ?_)
          refine sx rfl (stp_fieldAddr fa_Plan_1 rfl ?_)
          refine sx rfl (stp_load_rg ld_int rfl rfl hr8 st5.below (i := 3) rfl rfl ?_)
          refine sx rfl (stp_move (v := I (((K + 1) + 1) + 1)) rfl ?_)
          refine sx rfl (stp_neq rfl rfl ?_)
          refine sx_nil ?_
          refine sx_if rfl (fun h20 => ?_) (fun h20 => ?_)
          · skip
            have h20p := of_decide_eq_false (bnot_t h20)
            exact absurd rfl h20p
          · skip
            have h20p := of_decide_eq_true (bnot_f h20)
            refine wp_skip ?_
            refine wp_seq ?_
            refine sx_region ?_
            refine sx rfl (stp_move (v := I (((K + 1) + 1) + 1)) rfl ?_)
            have hb21 := hb18.up
            refine sx rfl (stp_add rfl rfl hb21.i64 ?_)
            refine sx rfl (stp_assign (v := I ((((K + 1) + 1) + 1) + 1)) rfl ?_)
            refine sx_nil ?_
            refine wp_seq ?_
            refine wp_seq ?_
            refine sx_region ?_
            refine sx rfl (stp_move (v := v) hs6_0 ?_)
            refine sx rfl (stp_move (v := I (i : Int)) hs6_5 ?_)
            skip
            refine sx rfl (stp_indexAddr sl_DeedS rfl hp8 rfl rfl ?_)
            refine sx rfl (stp_fieldAddr fa_Deed_2 rfl ?_)
            refine sx rfl (stp_fieldAddr fa_Plan_2 rfl ?_)
            refine sx rfl (stp_load_rg ld_int rfl rfl hr8 st5.below (i := 4) rfl rfl ?_)
            refine sx rfl (stp_move (v := I ((((K + 1) + 1) + 1) + 1)) rfl ?_)
            refine sx rfl (stp_neq rfl rfl ?_)
            refine sx_nil ?_
            refine sx_if rfl (fun h23 => ?_) (fun h23 => ?_)
            · skip
              have h23p := of_decide_eq_false (bnot_t h23)
              exact absurd rfl h23p
            · skip
              have h23p := of_decide_eq_true (bnot_f h23)
              refine wp_skip ?_
              refine wp_seq ?_
              refine sx_region ?_
              refine sx rfl (stp_move (v := I ((((K + 1) + 1) + 1) + 1)) rfl ?_)
              have hb24 := hb21.up
              refine sx rfl (stp_add rfl rfl hb24.i64 ?_)
              refine sx rfl (stp_assign (v := I (((((K + 1) + 1) + 1) + 1) + 1)) rfl ?_)
              refine sx_nil ?_
              refine wp_seq ?_
              refine wp_seq ?_
              refine sx_region ?_
              refine sx rfl (stp_move (v := v) hs6_0 ?_)
              refine sx rfl (stp_move (v := I (i : Int)) hs6_5 ?_)
              skip
              refine sx rfl (stp_indexAddr sl_DeedS rfl hp8 rfl rfl ?_)
              refine sx rfl (stp_fieldAddr fa_Deed_2 rfl ?_)
              refine sx rfl (stp_fieldAddr fa_Plan_3 rfl ?_)
              refine sx rfl (stp_load_rg ld_int rfl rfl hr8 st5.below (i := 5) rfl rfl ?_)
              refine sx rfl (stp_move (v := I (((((K + 1) + 1) + 1) + 1) + 1)) rfl ?_)
              refine sx rfl (stp_neq rfl rfl ?_)
              refine sx_nil ?_
              refine sx_if rfl (fun h26 => ?_) (fun h26 => ?_)
              · skip
                have h26p := of_decide_eq_false (bnot_t h26)
                exact absurd rfl h26p
              · skip
                have h26p := of_decide_eq_true (bnot_f h26)
                refine wp_skip ?_
                refine wp_seq ?_
                refine sx_region ?_
                refine sx rfl (stp_move (v := I (((((K + 1) + 1) + 1) + 1) + 1)) rfl ?_)
                have hb27 := hb24.up
                refine sx rfl (stp_add rfl rfl hb27.i64 ?_)
                refine sx rfl (stp_assign (v := I ((((((K + 1) + 1) + 1) + 1) + 1) + 1)) rfl ?_)
                refine sx_nil ?_
                refine wp_seq ?_
                refine sx_region ?_
                refine sx rfl (stp_move (v := v) hs6_0 ?_)
                refine sx rfl (stp_move (v := I (i : Int)) hs6_5 ?_)
                skip
                refine sx rfl (stp_indexAddr sl_DeedS rfl hp8 rfl rfl ?_)
                refine sx rfl (stp_fieldAddr fa_Deed_2 rfl ?_)
                refine sx rfl (stp_fieldAddr fa_Plan_4 rfl ?_)
                refine sx rfl (stp_load_rg ld_EdgeS rfl rfl hr8 st5.below (i := 6) rfl rfl ?_)
                refine sx rfl (stp_move (v := I ((((((K + 1) + 1) + 1) + 1) + 1) + 1)) rfl ?_)
                have hb33 := hb27.upc
                refine sx rfl (stp_call2 Try.func76 rfl rfl rfl ((heldEdgeS_n W3 (x := y.plan.edges) (h10_0.below st5.below) hb27.lo hb27.hi).mono ?_)); rintro _ W29 ⟨rfl, hk30⟩; refine ⟨_, rfl, ?_⟩
                have st31 := St.call st5 hk30
                refine sx rfl (stp_assign (v := I (((((((K + 1) + 1) + 1) + 1) + 1) + 1) + (cL neE_Edge y.plan.edges : Nat))) rfl ?_)
                refine sx_nil ?_
                refine wp_seq ?_
                refine wp_seq ?_
                refine sx_region ?_
                refine sx rfl (stp_move (v := I (((((((K + 1) + 1) + 1) + 1) + 1) + 1) + (cL neE_Edge y.plan.edges : Nat))) rfl ?_)
                refine sx rfl (stp_lss rfl rfl ?_)
                refine sx_nil ?_
                refine sx_if rfl (fun h34 => ?_) (fun h34 => ?_)
                · skip
                  have h34p := of_decide_eq_true h34
                  exact absurd h34p (Int.not_lt.2 hb33.1)
                · skip
                  have h34p := of_decide_eq_false h34
                  refine wp_skip ?_
                  refine wp_seq ?_
                  refine wp_seq ?_
                  refine sx_region ?_
                  refine sx rfl (stp_move (v := v) hs6_0 ?_)
                  refine sx rfl (stp_move (v := I (i : Int)) hs6_5 ?_)
                  skip
                  refine sx rfl (stp_indexAddr sl_DeedS rfl hp8 rfl rfl ?_)
                  refine sx rfl (stp_fieldAddr fa_Deed_3 rfl ?_)
                  refine sx rfl (stp_load_rg ld_int rfl rfl hr8 st31.below (i := 7) rfl rfl ?_)
                  refine sx rfl (stp_move (v := I (((((((K + 1) + 1) + 1) + 1) + 1) + 1) + (cL neE_Edge y.plan.edges : Nat))) rfl ?_)
                  refine sx rfl (stp_neq rfl rfl ?_)
                  refine sx_nil ?_
                  refine sx_if rfl (fun h36 => ?_) (fun h36 => ?_)
                  · skip
                    have h36p := of_decide_eq_false (bnot_t h36)
                    exact absurd rfl h36p
                  · skip
                    have h36p := of_decide_eq_true (bnot_f h36)
                    refine wp_skip ?_
                    refine wp_seq ?_
                    refine sx_region ?_
                    refine sx rfl (stp_move (v := I (((((((K + 1) + 1) + 1) + 1) + 1) + 1) + (cL neE_Edge y.plan.edges : Nat))) rfl ?_)
                    have hb37 := hb33.up
                    refine sx rfl (stp_add rfl rfl hb37.i64 ?_)
                    refine sx rfl (stp_assign (v := I ((((((((K + 1) + 1) + 1) + 1) + 1) + 1) + (cL neE_Edge y.plan.edges : Nat)) + 1)) rfl ?_)
                    refine sx_nil ?_
                    refine wp_seq ?_
                    refine wp_seq ?_
                    refine sx_region ?_
                    refine sx rfl (stp_move (v := v) hs6_0 ?_)
                    refine sx rfl (stp_move (v := I (i : Int)) hs6_5 ?_)
                    skip
                    refine sx rfl (stp_indexAddr sl_DeedS rfl hp8 rfl rfl ?_)
                    refine sx rfl (stp_fieldAddr fa_Deed_4 rfl ?_)
                    refine sx rfl (stp_load_rg ld_int rfl rfl hr8 st31.below (i := 8) rfl rfl ?_)
                    refine sx rfl (stp_move (v := I ((((((((K + 1) + 1) + 1) + 1) + 1) + 1) + (cL neE_Edge y.plan.edges : Nat)) + 1)) rfl ?_)
                    refine sx rfl (stp_neq rfl rfl ?_)
                    refine sx_nil ?_
                    refine sx_if rfl (fun h39 => ?_) (fun h39 => ?_)
                    · skip
                      have h39p := of_decide_eq_false (bnot_t h39)
                      exact absurd rfl h39p
                    · skip
                      have h39p := of_decide_eq_true (bnot_f h39)
                      refine wp_skip ?_
                      refine wp_seq ?_
                      refine sx_region ?_
                      refine sx rfl (stp_move (v := I ((((((((K + 1) + 1) + 1) + 1) + 1) + 1) + (cL neE_Edge y.plan.edges : Nat)) + 1)) rfl ?_)
                      have hb40 := hb37.up
                      refine sx rfl (stp_add rfl rfl hb40.i64 ?_)
                      refine sx rfl (stp_assign (v := I (((((((((K + 1) + 1) + 1) + 1) + 1) + 1) + (cL neE_Edge y.plan.edges : Nat)) + 1) + 1)) rfl ?_)
                      refine sx_nil ?_
                      refine wp_seq ?_
                      refine wp_seq ?_
                      refine sx_region ?_
                      refine sx rfl (stp_move (v := v) hs6_0 ?_)
                      refine sx rfl (stp_move (v := I (i : Int)) hs6_5 ?_)
                      skip
                      refine sx rfl (stp_indexAddr sl_DeedS rfl hp8 rfl rfl ?_)
                      refine sx rfl (stp_fieldAddr fa_Deed_5 rfl ?_)
                      refine sx rfl (stp_load_rg ld_int rfl rfl hr8 st31.below (i := 9) rfl rfl ?_)
                      refine sx rfl (stp_move (v := I (((((((((K + 1) + 1) + 1) + 1) + 1) + 1) + (cL neE_Edge y.plan.edges : Nat)) + 1) + 1)) rfl ?_)
                      refine sx rfl (stp_neq rfl rfl ?_)
                      refine sx_nil ?_
                      refine sx_if rfl (fun h42 => ?_) (fun h42 => ?_)
                      · skip
                        have h42p := of_decide_eq_false (bnot_t h42)
                        exact absurd rfl h42p
                      · skip
                        have h42p := of_decide_eq_true (bnot_f h42)
                        refine wp_skip ?_
                        refine wp_seq ?_
                        refine sx_region ?_
                        refine sx rfl (stp_move (v := I (((((((((K + 1) + 1) + 1) + 1) + 1) + 1) + (cL neE_Edge y.plan.edges : Nat)) + 1) + 1)) rfl ?_)
                        have hb43 := hb40.up
                        refine sx rfl (stp_add rfl rfl hb43.i64 ?_)
                        refine sx rfl (stp_assign (v := I ((((((((((K + 1) + 1) + 1) + 1) + 1) + 1) + (cL neE_Edge y.plan.edges : Nat)) + 1) + 1) + 1)) rfl ?_)
                        refine sx_nil ?_
                        refine wp_seq ?_
                        refine wp_seq ?_
                        refine sx_region ?_
                        refine sx rfl (stp_move (v := v) hs6_0 ?_)
                        refine sx rfl (stp_move (v := I (i : Int)) hs6_5 ?_)
                        skip
                        refine sx rfl (stp_indexAddr sl_DeedS rfl hp8 rfl rfl ?_)
                        refine sx rfl (stp_fieldAddr fa_Deed_6 rfl ?_)
                        refine sx rfl (stp_load_rg ld_int rfl rfl hr8 st31.below (i := 10) rfl rfl ?_)
                        refine sx rfl (stp_move (v := I ((((((((((K + 1) + 1) + 1) + 1) + 1) + 1) + (cL neE_Edge y.plan.edges : Nat)) + 1) + 1) + 1)) rfl ?_)
                        refine sx rfl (stp_neq rfl rfl ?_)
                        refine sx_nil ?_
                        refine sx_if rfl (fun h45 => ?_) (fun h45 => ?_)
                        · skip
                          have h45p := of_decide_eq_false (bnot_t h45)
                          exact absurd rfl h45p
                        · skip
                          have h45p := of_decide_eq_true (bnot_f h45)
                          refine wp_skip ?_
                          refine sx_region ?_
                          refine sx rfl (stp_move (v := I ((((((((((K + 1) + 1) + 1) + 1) + 1) + 1) + (cL neE_Edge y.plan.edges : Nat)) + 1) + 1) + 1)) rfl ?_)
                          have hb46 := hb43.up
                          refine sx rfl (stp_add rfl rfl hb46.i64 ?_)
                          refine sx rfl (stp_assign (v := I (((((((((((K + 1) + 1) + 1) + 1) + 1) + 1) + (cL neE_Edge y.plan.edges : Nat)) + 1) + 1) + 1) + 1)) rfl ?_)
                          refine sx_nil ?_
                          refine sx_region ?_
                          refine sx rfl (stp_move (v := I (i : Int)) hs6_5 ?_)
                          refine sx rfl (stp_add rfl rfl (by (simp only [I64] at *; omega)) ?_)
                          refine sx rfl (stp_assign (v := I ((i : Int) + 1)) rfl ?_)
                          refine sx_nil ?_
                          exact ⟨_, x.length - (i + 1), (by omega), rfl, i + 1, ((((((((((K + 1) + 1) + 1) + 1) + 1) + 1) + (cL neE_Edge y.plan.edges : Nat)) + 1) + 1) + 1) + 1, (by omega), (by omega), rfl, hs6_0, rfl, rfl, st31⟩
  · skip
    have h7p := of_decide_eq_false h7
    refine wp_exit ?_
    refine wp_seq ?_
    refine sx_region ?_
    refine sx rfl (stp_move (v := I K) hs6_1 ?_)
    refine sx rfl (stp_assign (v := I K) rfl ?_)
    refine sx_nil ?_
    refine wp_ret ?_; repeat (first | refine then_ret ?_ | refine blk_ret ?_)
    refine ret1 Try.results51 rfl ?_
    obtain rfl : i = x.length := by omega
    have hca := cL_all neE_Deed x _ rfl
    exact ⟨congrArg (fun z => Ending.returned (I z)) (by omega), st5.bare⟩
set_option maxHeartbeats 2000000 in
theorem markWaitS_n {w W0 : World} {rs : List Res} {v : Value} {xs : List Wait} {fp : List Nat} (hst : St w W0 (Res.own v xs fp :: rs)) (k : Int) (h0 : 0 ≤ k) (hk : k + (cL neE_Wait xs : Nat) ≤ 4611686018427387904) :
    Calls Try.prog 72 #[v, I k] W0 fun e w' => ∃ fp', e = .returned (I (k + (cL neE_Wait xs : Nat))) ∧ St w w' (Res.own v (mkL mkE_Wait neE_Wait xs k) fp' :: rs) := by
  have hcap := (own_Sl (hst.get 0 rfl)).len_le
  refine enter2 Try.func72 rfl Try.ntmps72 (by decide) ?_
  refine wp_seq ?_
  refine sx_region ?_
  refine sx rfl (stp_assign (v := I 0) rfl ?_)
  refine sx_nil ?_
  refine wp_seq ?_
  refine wp_seq ?_
  refine sx_region ?_
  refine sx rfl (stp_assign (v := I 0) rfl ?_)
  refine sx_nil ?_
  refine wp_block ?_
  refine sx_loop (fun (m : Nat) (f : Nat → Value) (W : World) => ∃ (i : Nat) (K : Int) (fo1 : List Nat), i ≤ xs.length ∧ K = k + (cL neE_Wait (xs.take i) : Nat) ∧ m = xs.length - i ∧ f 0 = v ∧ f 1 = I K ∧ f 5 = I (i : Int) ∧ St w W (Res.own (α := List Wait) v (mkL mkE_Wait neE_Wait (xs.take i) k ++ xs.drop i) fo1 :: rs)) (xs.length - 0) ?_ ?_
  · exact ⟨0, k, fp, Nat.zero_le _, (by simp [cL]), rfl, rfl, rfl, rfl, (by simpa [mkL] using hst)⟩
  intro m2 f3 W4 hJ5
  obtain ⟨i, K, fo1, hi, hK, rfl, hs7_0, hs7_1, hs7_5, st6⟩ := hJ5
  have hlx : (mkL mkE_Wait neE_Wait (xs.take i) k ++ xs.drop i).length = xs.length := by rw [List.length_append, mkL_len, List.length_take, List.length_drop]; omega
  refine wp_seq ?_
  refine wp_seq ?_
  refine sx_region ?_
  refine sx rfl (stp_move (v := I (i : Int)) hs7_5 ?_)
  refine sx rfl (stp_move (v := v) hs7_0 ?_)
  refine sx rfl (stp_len sl_WaitS rfl (own_Sl (st6.get 0 rfl)) ?_)
  refine sx rfl (stp_lss rfl rfl ?_)
  refine sx_nil ?_
  refine sx_if rfl (fun h8 => ?_) (fun h8 => ?_)
  · skip
    have h8p := of_decide_eq_true h8
    refine wp_skip ?_
    refine wp_seq ?_
    refine wp_block ?_
    refine wp_seq ?_
    refine sx_region ?_
    refine sx rfl (stp_move (v := v) hs7_0 ?_)
    refine sx rfl (stp_move (v := I (i : Int)) hs7_5 ?_)
    refine sx rfl (stp_move (v := I K) hs7_1 ?_)
    have hq_ := some_at (xs := xs) (i := i) (by omega)
    obtain ⟨y, hy⟩ := hq_
    have hcs := cL_takey neE_Wait hy
    have hcl := cL_take_le neE_Wait xs (i + 1)
    have hne : neE_Wait y = 5 := rfl
    have hb9 : Bd K (1 + (1 + (1 + (1 + (1 + (0)))))) := ⟨by omega, by omega⟩
    have hq_ := St.lendx (α := Wait) (by decide) st6 (x := y) (mk_gety hy)
    obtain ⟨b10, e10, pre10, cs10, post10, fi10, fr10, hPA10, hC10, st11⟩ := hq_
    have st15 := st11.d1
    obtain ⟨he10, hf10, hok10⟩ := hC10; have he10 : _ = [I y.call, I y.reply.code, I y.reply.run, I y.reply.task, I y.reply.try_] := he10; subst he10
    skip
    refine sx rfl (stp_indexAddr sl_WaitS rfl hPA10 rfl rfl ?_)
    refine sx rfl (stp_fieldAddr fa_Wait_0 rfl ?_)
    refine sx rfl (stp_store_bp (i := 0) (v := I K) (C' := [I K, I y.reply.code, I y.reply.run, I y.reply.task, I y.reply.try_]) (by kernel_rfl) rfl rfl rfl rfl st15 rfl (Nat.le_of_ble_eq_true rfl) rfl ?_); intro W16 st17
    refine sx_nil ?_
    refine wp_seq ?_
    refine sx_region ?_
    refine sx rfl (stp_move (v := I K) hs7_1 ?_)
    have hb18 := hb9.up
    refine sx rfl (stp_add rfl rfl hb18.i64 ?_)
    refine sx rfl (stp_assign (v := I (K + 1)) rfl ?_)
    refine sx_nil ?_
    refine wp_seq ?_
    refine sx_region ?_
    refine sx rfl (stp_move (v := v) hs7_0 ?_)
    refine sx rfl (stp_move (v := I (i : Int)) hs7_5 ?_)
    refine sx rfl (stp_move (v := I (K + 1)) rfl ?_)
    refine sx rfl (stp_indexAddr sl_WaitS rfl hPA10 rfl rfl ?_)
    refine sx rfl (stp_fieldAddr fa_Wait_1 rfl ?_)
    refine sx rfl (stp_fieldAddr fa_Reply_0 rfl ?_)
    refine sx rfl (stp_store_bp (i := 1) (v := I (K + 1)) (C' := [I K, I (K + 1), I y.reply.run, I y.reply.task, I y.reply.try_]) (by kernel_rfl) rfl rfl rfl rfl st17 rfl (Nat.le_of_ble_eq_true rfl) rfl ?_); intro W19 st20
    refine sx_nil ?_
    refine wp_seq ?_
    refine sx_region ?_
    refine sx rfl (stp_move (v := I (K + 1)) rfl ?_)
    have hb21 := hb18.up
    refine sx rfl (stp_add rfl rfl hb21.i64 ?_)
    refine sx rfl (stp_assign (v := I ((K + 1) + 1)) rfl ?_)
    refine sx_nil ?_
    refine wp_seq ?_
    refine sx_region ?_
    refine sx rfl (stp_move (v := v) hs7_0 ?_)
    refine sx rfl (stp_move (v := I (i : Int)) hs7_5 ?_)
    refine sx rfl (stp_move (v := I ((K + 1) + 1)) rfl ?_)
    refine sx rfl (stp_indexAddr sl_WaitS rfl hPA10 rfl rfl ?_)
    refine sx rfl (stp_fieldAddr fa_Wait_1 rfl ?_)
    refine sx rfl (stp_fieldAddr fa_Reply_1 rfl ?_)
    refine sx rfl (stp_store_bp (i := 2) (v := I ((K + 1) + 1)) (C' := [I K, I (K + 1), I ((K + 1) + 1), I y.reply.task, I y.reply.try_]) (by kernel_rfl) rfl rfl rfl rfl st20 rfl (Nat.le_of_ble_eq_true rfl) rfl ?_); intro W22 st23
    refine sx_nil ?_
    refine wp_seq ?_
    refine sx_region ?_
    refine sx rfl (stp_move (v := I ((K + 1) + 1)) rfl ?_)
    have hb24 := hb21.up
    refine sx rfl (stp_add rfl rfl hb24.i64 ?_)
    refine sx rfl (stp_assign (v := I (((K + 1) + 1) + 1)) rfl ?_)
    refine sx_nil ?_
    refine wp_seq ?_
    refine sx_region ?_
    refine sx rfl (stp_move (v := v) hs7_0 ?_)
    refine sx rfl (stp_move (v := I (i : Int)) hs7_5 ?_)
    refine sx rfl (stp_move (v := I (((K + 1) + 1) + 1)) rfl ?_)
    refine sx rfl (stp_indexAddr sl_WaitS rfl hPA10 rfl rfl ?_)
    refine sx rfl (stp_fieldAddr fa_Wait_1 rfl ?_)
    refine sx rfl (stp_fieldAddr fa_Reply_2 rfl ?_)
    refine sx rfl (stp_store_bp (i := 3) (v := I (((K + 1) + 1) + 1)) (C' := [I K, I (K + 1), I ((K + 1) + 1), I (((K + 1) + 1) + 1), I y.reply.try_]) (by kernel_rfl) rfl rfl rfl rfl st23 rfl (Nat.le_of_ble_eq_true rfl) rfl ?_); intro W25 st26
    refine sx_nil ?_
    refine wp_seq ?_
    refine sx_region ?_
    refine sx rfl (stp_move (v := I (((K + 1) + 1) + 1)) rfl ?_)
    have hb27 := hb24.up
    refine sx rfl (stp_add rfl rfl hb27.i64 ?_)
    refine sx rfl (stp_assign (v := I ((((K + 1) + 1) + 1) + 1)) rfl ?_)
    refine sx_nil ?_
    refine wp_seq ?_
    refine sx_region ?_
    refine sx rfl (stp_move (v := v) hs7_0 ?_)
    refine sx rfl (stp_move (v := I (i : Int)) hs7_5 ?_)
    refine sx rfl (stp_move (v := I ((((K + 1) + 1) + 1) + 1)) rfl ?_)
    refine sx rfl (stp_indexAddr sl_WaitS rfl hPA10 rfl rfl ?_)
    refine sx rfl (stp_fieldAddr fa_Wait_1 rfl ?_)
    refine sx rfl (stp_fieldAddr fa_Reply_3 rfl ?_)
    refine sx rfl (stp_store_bp (i := 4) (v := I ((((K + 1) + 1) + 1) + 1)) (C' := [I K, I (K + 1), I ((K + 1) + 1), I (((K + 1) + 1) + 1), I ((((K + 1) + 1) + 1) + 1)]) (by kernel_rfl) rfl rfl rfl rfl st26 rfl (Nat.le_of_ble_eq_true rfl) rfl ?_); intro W28 st29
    refine sx_nil ?_
    refine sx_region ?_
    refine sx rfl (stp_move (v := I ((((K + 1) + 1) + 1) + 1)) rfl ?_)
    have hb30 := hb27.up
    refine sx rfl (stp_add rfl rfl hb30.i64 ?_)
    refine sx rfl (stp_assign (v := I (((((K + 1) + 1) + 1) + 1) + 1)) rfl ?_)
    refine sx_nil ?_
    refine sx_region ?_
    refine sx rfl (stp_move (v := I (i : Int)) hs7_5 ?_)
    refine sx rfl (stp_add rfl rfl (by (simp only [I64] at *; omega)) ?_)
    refine sx rfl (stp_assign (v := I ((i : Int) + 1)) rfl ?_)
    refine sx_nil ?_
    have st31 := st29.cs0 (cs := [I K, I (K + 1), I ((K + 1) + 1), I (((K + 1) + 1) + 1), I ((((K + 1) + 1) + 1) + 1)]) (x := (⟨K, ⟨K + 1, (K + 1) + 1, ((K + 1) + 1) + 1, (((K + 1) + 1) + 1) + 1⟩⟩ : Wait)) ⟨rfl, rfl, (by first | exact True.intro | (simp only [Edge.ok, Plan.ok, Entry.ok, Task.ok, Run.ok, Yard.ok, Reply.ok, Deed.ok, Note.ok, Wait.ok, File.ok, Disk.ok, Engine.ok, WorldD.ok, ActD.ok, Hand.ok, Span.ok, Crew.ok, View.ok, I64] at *; omega))⟩
    have st33 := st31.f2
    have st34 := st33.f1
    have st35 := st34.f2
    have hq_ := St.give (α := Wait) st35
    obtain ⟨fp36, st37⟩ := hq_
    exact ⟨_, xs.length - (i + 1), (by omega), rfl, i + 1, ((((K + 1) + 1) + 1) + 1) + 1, fp36, (by omega), (by omega), rfl, hs7_0, rfl, rfl, (by rw [← mk_stepy hy hK]; exact st37)⟩
  · skip
    have h8p := of_decide_eq_false h8
    refine wp_exit ?_
    refine wp_seq ?_
    refine sx_region ?_
    refine sx rfl (stp_move (v := I K) hs7_1 ?_)
    refine sx rfl (stp_assign (v := I K) rfl ?_)
    refine sx_nil ?_
    refine wp_ret ?_; repeat (first | refine then_ret ?_ | refine blk_ret ?_)
    refine ret1 Try.results72 rfl ?_
    obtain rfl : i = xs.length := by omega
    have hca := cL_all neE_Wait xs _ rfl
    rw [mk_all rfl] at st6
    exact ⟨_, congrArg (fun z => Ending.returned (I z)) (by omega), st6⟩
set_option maxHeartbeats 2000000 in
theorem heldWaitS_n (w : World) {v : Value} {x : List Wait} {fp : List Nat} {k : Int} (h : Sl w v (mkL mkE_Wait neE_Wait x k) fp) (h0 : 0 ≤ k) (hk : k + (cL neE_Wait x : Nat) ≤ 4611686018427387904) :
    Calls Try.prog 75 #[v, I k] w fun e w' => e = .returned (I (k + (cL neE_Wait x : Nat))) ∧ St w w' [] := by
  have hcap := h.len_le
  rw [mkL_len] at hcap
  have hml : (mkL mkE_Wait neE_Wait x k).length = x.length := mkL_len _ _
  refine enter2 Try.func75 rfl Try.ntmps75 (by decide) ?_
  refine wp_seq ?_
  refine sx_region ?_
  refine sx rfl (stp_assign (v := I 0) rfl ?_)
  refine sx_nil ?_
  refine wp_seq ?_
  refine wp_seq ?_
  refine sx_region ?_
  refine sx rfl (stp_assign (v := I 0) rfl ?_)
  refine sx_nil ?_
  refine wp_block ?_
  refine sx_loop (fun (m : Nat) (f : Nat → Value) (W : World) => ∃ (i : Nat) (K : Int), i ≤ x.length ∧ K = k + (cL neE_Wait (x.take i) : Nat) ∧ m = x.length - i ∧ f 0 = v ∧ f 1 = I K ∧ f 5 = I (i : Int) ∧ St w W ([])) (x.length - 0) ?_ ?_
  · exact ⟨0, k, Nat.zero_le _, (by simp [cL]), rfl, rfl, rfl, rfl, (St.start w)⟩
  intro m1 f2 W3 hJ4
  obtain ⟨i, K, hi, hK, rfl, hs6_0, hs6_1, hs6_5, st5⟩ := hJ4
  refine wp_seq ?_
  refine wp_seq ?_
  refine sx_region ?_
  refine sx rfl (stp_move (v := I (i : Int)) hs6_5 ?_)
  refine sx rfl (stp_move (v := v) hs6_0 ?_)
  refine sx rfl (stp_len sl_WaitS rfl h ?_)
  refine sx rfl (stp_lss rfl rfl ?_)
  refine sx_nil ?_
  refine sx_if rfl (fun h7 => ?_) (fun h7 => ?_)
  · skip
    have h7p := of_decide_eq_true h7
    refine wp_skip ?_
    refine wp_seq ?_
    refine wp_block ?_
    refine wp_seq ?_
    refine wp_seq ?_
    refine sx_region ?_
    refine sx rfl (stp_move (v := v) hs6_0 ?_)
    refine sx rfl (stp_move (v := I (i : Int)) hs6_5 ?_)
    have hq_ := some_at (xs := x) (i := i) (by omega)
    obtain ⟨y, hy⟩ := hq_
    have hcs := cL_takey neE_Wait hy
    have hcl := cL_take_le neE_Wait x (i + 1)
    have hne : neE_Wait y = 5 := rfl
    have hb9 : Bd K (1 + (1 + (1 + (1 + (1 + (0)))))) := ⟨by omega, by omega⟩
    have hq_ := idxmy h hy hK
    obtain ⟨b8, o8, cs8, f8, hp8, hr8, hc8, hm8⟩ := hq_
    have hk10 := hc8
    obtain ⟨he10, rfl, hok10⟩ := hk10
    have he10 : _ = [I K, I (K + 1), I ((K + 1) + 1), I (((K + 1) + 1) + 1), I ((((K + 1) + 1) + 1) + 1)] := he10; subst he10
    skip
    refine sx rfl (stp_indexAddr sl_WaitS rfl hp8 rfl rfl ?_)
    refine sx rfl (stp_fieldAddr fa_Wait_0 rfl ?_)
    refine sx rfl (stp_load_rg ld_int rfl rfl hr8 st5.below (i := 0) rfl rfl ?_)
    refine sx rfl (stp_move (v := I K) hs6_1 ?_)
    refine sx rfl (stp_neq rfl rfl ?_)
    refine sx_nil ?_
    refine sx_if rfl (fun h11 => ?_) (fun h11 => ?_)
    · skip
      have h11p := of_decide_eq_false (bnot_t h11)
      exact absurd rfl h11p
    · skip
      have h11p := of_decide_eq_true (bnot_f h11)
      refine wp_skip ?_
      refine wp_seq ?_
      refine sx_region ?_
      refine sx rfl (stp_move (v := I K) hs6_1 ?_)
      have hb12 := hb9.up
      refine sx rfl (stp_add rfl rfl hb12.i64 ?_)
      refine sx rfl (stp_assign (v := I (K + 1)) rfl ?_)
      refine sx_nil ?_
      refine wp_seq ?_
      refine wp_seq ?_
      refine sx_region ?_
      refine sx rfl (stp_move (v := v) hs6_0 ?_)
      refine sx rfl (stp_move (v := I (i : Int)) hs6_5 ?_)
      skip
      refine sx rfl (stp_indexAddr sl_WaitS rfl hp8 rfl rfl ?_)
      refine sx rfl (stp_fieldAddr fa_Wait_1 rfl ?_)
      refine sx rfl (stp_fieldAddr fa_Reply_0 rfl ?_)
      refine sx rfl (stp_load_rg ld_int rfl rfl hr8 st5.below (i := 1) rfl rfl ?_)
      refine sx rfl (stp_move (v := I (K + 1)) rfl ?_)
      refine sx rfl (stp_neq rfl rfl ?_)
      refine sx_nil ?_
      refine sx_if rfl (fun h14 => ?_) (fun h14 => ?_)
      · skip
        have h14p := of_decide_eq_false (bnot_t h14)
        exact absurd rfl h14p
      · skip
        have h14p := of_decide_eq_true (bnot_f h14)
        refine wp_skip ?_
        refine wp_seq ?_
        refine sx_region ?_
        refine sx rfl (stp_move (v := I (K + 1)) rfl ?_)
        have hb15 := hb12.up
        refine sx rfl (stp_add rfl rfl hb15.i64 ?_)
        refine sx rfl (stp_assign (v := I ((K + 1) + 1)) rfl ?_)
        refine sx_nil ?_
        refine wp_seq ?_
        refine wp_seq ?_
        refine sx_region ?_
        refine sx rfl (stp_move (v := v) hs6_0 ?_)
        refine sx rfl (stp_move (v := I (i : Int)) hs6_5 ?_)
        skip
        refine sx rfl (stp_indexAddr sl_WaitS rfl hp8 rfl rfl ?_)
        refine sx rfl (stp_fieldAddr fa_Wait_1 rfl ?_)
        refine sx rfl (stp_fieldAddr fa_Reply_1 rfl ?_)
        refine sx rfl (stp_load_rg ld_int rfl rfl hr8 st5.below (i := 2) rfl rfl ?_)
        refine sx rfl (stp_move (v := I ((K + 1) + 1)) rfl ?_)
        refine sx rfl (stp_neq rfl rfl ?_)
        refine sx_nil ?_
        refine sx_if rfl (fun h17 => ?_) (fun h17 => ?_)
        · skip
          have h17p := of_decide_eq_false (bnot_t h17)
          exact absurd rfl h17p
        · skip
          have h17p := of_decide_eq_true (bnot_f h17)
          refine wp_skip ?_
          refine wp_seq ?_
          refine sx_region ?_
          refine sx rfl (stp_move (v := I ((K + 1) + 1)) rfl ?_)
          have hb18 := hb15.up
          refine sx rfl (stp_add rfl rfl hb18.i64 ?_)
          refine sx rfl (stp_assign (v := I (((K + 1) + 1) + 1)) rfl ?_)
          refine sx_nil ?_
          refine wp_seq ?_
          refine wp_seq ?_
          refine sx_region ?_
          refine sx rfl (stp_move (v := v) hs6_0 ?_)
          refine sx rfl (stp_move (v := I (i : Int)) hs6_5 ?_)
          skip
          refine sx rfl (stp_indexAddr sl_WaitS rfl hp8 rfl rfl ?_)
          refine sx rfl (stp_fieldAddr fa_Wait_1 rfl ?_)
          refine sx rfl (stp_fieldAddr fa_Reply_2 rfl ?_)
          refine sx rfl (stp_load_rg ld_int rfl rfl hr8 st5.below (i := 3) rfl rfl ?_)
          refine sx rfl (stp_move (v := I (((K + 1) + 1) + 1)) rfl ?_)
          refine sx rfl (stp_neq rfl rfl ?_)
          refine sx_nil ?_
          refine sx_if rfl (fun h20 => ?_) (fun h20 => ?_)
          · skip
            have h20p := of_decide_eq_false (bnot_t h20)
            exact absurd rfl h20p
          · skip
            have h20p := of_decide_eq_true (bnot_f h20)
            refine wp_skip ?_
            refine wp_seq ?_
            refine sx_region ?_
            refine sx rfl (stp_move (v := I (((K + 1) + 1) + 1)) rfl ?_)
            have hb21 := hb18.up
            refine sx rfl (stp_add rfl rfl hb21.i64 ?_)
            refine sx rfl (stp_assign (v := I ((((K + 1) + 1) + 1) + 1)) rfl ?_)
            refine sx_nil ?_
            refine wp_seq ?_
            refine wp_seq ?_
            refine sx_region ?_
            refine sx rfl (stp_move (v := v) hs6_0 ?_)
            refine sx rfl (stp_move (v := I (i : Int)) hs6_5 ?_)
            skip
            refine sx rfl (stp_indexAddr sl_WaitS rfl hp8 rfl rfl ?_)
            refine sx rfl (stp_fieldAddr fa_Wait_1 rfl ?_)
            refine sx rfl (stp_fieldAddr fa_Reply_3 rfl ?_)
            refine sx rfl (stp_load_rg ld_int rfl rfl hr8 st5.below (i := 4) rfl rfl ?_)
            refine sx rfl (stp_move (v := I ((((K + 1) + 1) + 1) + 1)) rfl ?_)
            refine sx rfl (stp_neq rfl rfl ?_)
            refine sx_nil ?_
            refine sx_if rfl (fun h23 => ?_) (fun h23 => ?_)
            · skip
              have h23p := of_decide_eq_false (bnot_t h23)
              exact absurd rfl h23p
            · skip
              have h23p := of_decide_eq_true (bnot_f h23)
              refine wp_skip ?_
              refine sx_region ?_
              refine sx rfl (stp_move (v := I ((((K + 1) + 1) + 1) + 1)) rfl ?_)
              have hb24 := hb21.up
              refine sx rfl (stp_add rfl rfl hb24.i64 ?_)
              refine sx rfl (stp_assign (v := I (((((K + 1) + 1) + 1) + 1) + 1)) rfl ?_)
              refine sx_nil ?_
              refine sx_region ?_
              refine sx rfl (stp_move (v := I (i : Int)) hs6_5 ?_)
              refine sx rfl (stp_add rfl rfl (by (simp only [I64] at *; omega)) ?_)
              refine sx rfl (stp_assign (v := I ((i : Int) + 1)) rfl ?_)
              refine sx_nil ?_
              exact ⟨_, x.length - (i + 1), (by omega), rfl, i + 1, ((((K + 1) + 1) + 1) + 1) + 1, (by omega), (by omega), rfl, hs6_0, rfl, rfl, st5⟩
  · skip
    have h7p := of_decide_eq_false h7
    refine wp_exit ?_
    refine wp_seq ?_
    refine sx_region ?_
    refine sx rfl (stp_move (v := I K) hs6_1 ?_)
    refine sx rfl (stp_assign (v := I K) rfl ?_)
    refine sx_nil ?_
    refine wp_ret ?_; repeat (first | refine then_ret ?_ | refine blk_ret ?_)
    refine ret1 Try.results75 rfl ?_
    obtain rfl : i = x.length := by omega
    have hca := cL_all neE_Wait x _ rfl
    exact ⟨congrArg (fun z => Ending.returned (I z)) (by omega), st5.bare⟩
set_option maxHeartbeats 2000000 in
theorem markFileS_n {w W0 : World} {rs : List Res} {v : Value} {xs : List File} {fp : List Nat} (hst : St w W0 (Res.own v xs fp :: rs)) (k : Int) (h0 : 0 ≤ k) (hk : k + (cL neE_File xs : Nat) ≤ 4611686018427387904) :
    Calls Try.prog 89 #[v, I k] W0 fun e w' => ∃ fp', e = .returned (I (k + (cL neE_File xs : Nat))) ∧ St w w' (Res.own v (mkL mkE_File neE_File xs k) fp' :: rs) := by
  have hcap := (own_Sl (hst.get 0 rfl)).len_le
  refine enter2 Try.func89 rfl Try.ntmps89 (by decide) ?_
  refine wp_seq ?_
  refine sx_region ?_
  refine sx rfl (stp_assign (v := I 0) rfl ?_)
  refine sx_nil ?_
  refine wp_seq ?_
  refine wp_seq ?_
  refine sx_region ?_
  refine sx rfl (stp_assign (v := I 0) rfl ?_)
  refine sx_nil ?_
  refine wp_block ?_
  refine sx_loop (fun (m : Nat) (f : Nat → Value) (W : World) => ∃ (i : Nat) (K : Int) (fo1 : List Nat), i ≤ xs.length ∧ K = k + (cL neE_File (xs.take i) : Nat) ∧ m = xs.length - i ∧ f 0 = v ∧ f 1 = I K ∧ f 5 = I (i : Int) ∧ St w W (Res.own (α := List File) v (mkL mkE_File neE_File (xs.take i) k ++ xs.drop i) fo1 :: rs)) (xs.length - 0) ?_ ?_
  · exact ⟨0, k, fp, Nat.zero_le _, (by simp [cL]), rfl, rfl, rfl, rfl, (by simpa [mkL] using hst)⟩
  intro m2 f3 W4 hJ5
  obtain ⟨i, K, fo1, hi, hK, rfl, hs7_0, hs7_1, hs7_5, st6⟩ := hJ5
  have hlx : (mkL mkE_File neE_File (xs.take i) k ++ xs.drop i).length = xs.length := by rw [List.length_append, mkL_len, List.length_take, List.length_drop]; omega
  refine wp_seq ?_
  refine wp_seq ?_
  refine sx_region ?_
  refine sx rfl (stp_move (v := I (i : Int)) hs7_5 ?_)
  refine sx rfl (stp_move (v := v) hs7_0 ?_)
  refine sx rfl (stp_len sl_FileS rfl (own_Sl (st6.get 0 rfl)) ?_)
  refine sx rfl (stp_lss rfl rfl ?_)
  refine sx_nil ?_
  refine sx_if rfl (fun h8 => ?_) (fun h8 => ?_)
  · skip
    have h8p := of_decide_eq_true h8
    refine wp_skip ?_
    refine wp_seq ?_
    refine wp_block ?_
    refine wp_seq ?_
    refine sx_region ?_
    refine sx rfl (stp_move (v := v) hs7_0 ?_)
    refine sx rfl (stp_move (v := I (i : Int)) hs7_5 ?_)
    refine sx rfl (stp_move (v := I K) hs7_1 ?_)
    have hq_ := some_at (xs := xs) (i := i) (by omega)
    obtain ⟨y, hy⟩ := hq_
    have hcs := cL_takey neE_File hy
    have hcl := cL_take_le neE_File xs (i + 1)
    have hne : neE_File y = 3 := rfl
    have hb9 : Bd K (1 + (1 + (1 + (0)))) := ⟨by omega, by omega⟩
    have hq_ := St.lendx (α := File) (by decide) st6 (x := y) (mk_gety hy)
    obtain ⟨b10, e10, pre10, cs10, post10, fi10, fr10, hPA10, hC10, st11⟩ := hq_
    have st15 := st11.d1
    obtain ⟨he10, hf10, hok10⟩ := hC10; have he10 : _ = [.string y.name, .string y.data, I y.safe] := he10; subst he10
    skip
    refine sx rfl (stp_call1 Try.func98 rfl rfl ((markText_n W4 K (by omega)).mono ?_)); rintro _ W16 ⟨rfl, hk17⟩; refine ⟨_, rfl, ?_⟩
    have st18 := St.call st15 hk17
    refine sx rfl (stp_indexAddr sl_FileS rfl hPA10 rfl rfl ?_)
    refine sx rfl (stp_fieldAddr fa_File_0 rfl ?_)
    refine sx rfl (stp_store_bp (i := 0) (v := .string (mtext K)) (C' := [.string (mtext K), .string y.data, I y.safe]) (by kernel_rfl) rfl rfl rfl rfl st18 rfl (Nat.le_of_ble_eq_true rfl) rfl ?_); intro W20 st21
    refine sx_nil ?_
    refine wp_seq ?_
    refine sx_region ?_
    refine sx rfl (stp_move (v := I K) hs7_1 ?_)
    have hb22 := hb9.up
    refine sx rfl (stp_add rfl rfl hb22.i64 ?_)
    refine sx rfl (stp_assign (v := I (K + 1)) rfl ?_)
    refine sx_nil ?_
    refine wp_seq ?_
    refine sx_region ?_
    refine sx rfl (stp_move (v := v) hs7_0 ?_)
    refine sx rfl (stp_move (v := I (i : Int)) hs7_5 ?_)
    refine sx rfl (stp_move (v := I (K + 1)) rfl ?_)
    refine sx rfl (stp_call1 Try.func98 rfl rfl ((markText_n W20 (K + 1) (by omega)).mono ?_)); rintro _ W23 ⟨rfl, hk24⟩; refine ⟨_, rfl, ?_⟩
    have st25 := St.call st21 hk24
    refine sx rfl (stp_indexAddr sl_FileS rfl hPA10 rfl rfl ?_)
    refine sx rfl (stp_fieldAddr fa_File_1 rfl ?_)
    refine sx rfl (stp_store_bp (i := 1) (v := .string (mtext (K + 1))) (C' := [.string (mtext K), .string (mtext (K + 1)), I y.safe]) (by kernel_rfl) rfl rfl rfl rfl st25 rfl (Nat.le_of_ble_eq_true rfl) rfl ?_); intro W27 st28
    refine sx_nil ?_
    refine wp_seq ?_
    refine sx_region ?_
    refine sx rfl (stp_move (v := I (K + 1)) rfl ?_)
    have hb29 := hb22.up
    refine sx rfl (stp_add rfl rfl hb29.i64 ?_)
    refine sx rfl (stp_assign (v := I ((K + 1) + 1)) rfl ?_)
    refine sx_nil ?_
    refine wp_seq ?_
    refine sx_region ?_
    refine sx rfl (stp_move (v := v) hs7_0 ?_)
    refine sx rfl (stp_move (v := I (i : Int)) hs7_5 ?_)
    refine sx rfl (stp_move (v := I ((K + 1) + 1)) rfl ?_)
    refine sx rfl (stp_indexAddr sl_FileS rfl hPA10 rfl rfl ?_)
    refine sx rfl (stp_fieldAddr fa_File_2 rfl ?_)
    refine sx rfl (stp_store_bp (i := 2) (v := I ((K + 1) + 1)) (C' := [.string (mtext K), .string (mtext (K + 1)), I ((K + 1) + 1)]) (by kernel_rfl) rfl rfl rfl rfl st28 rfl (Nat.le_of_ble_eq_true rfl) rfl ?_); intro W30 st31
    refine sx_nil ?_
    refine sx_region ?_
    refine sx rfl (stp_move (v := I ((K + 1) + 1)) rfl ?_)
    have hb32 := hb29.up
    refine sx rfl (stp_add rfl rfl hb32.i64 ?_)
    refine sx rfl (stp_assign (v := I (((K + 1) + 1) + 1)) rfl ?_)
    refine sx_nil ?_
    refine sx_region ?_
    refine sx rfl (stp_move (v := I (i : Int)) hs7_5 ?_)
    refine sx rfl (stp_add rfl rfl (by (simp only [I64] at *; omega)) ?_)
    refine sx rfl (stp_assign (v := I ((i : Int) + 1)) rfl ?_)
    refine sx_nil ?_
    have st33 := st31.cs0 (cs := [.string (mtext K), .string (mtext (K + 1)), I ((K + 1) + 1)]) (x := (⟨mtext K, mtext (K + 1), (K + 1) + 1⟩ : File)) ⟨rfl, rfl, (by refine ⟨mtext_size ?_, mtext_size ?_, ?_⟩ <;> (first | omega | (simp only [I64]; omega)))⟩
    have st35 := st33.f2
    have st36 := st35.f1
    have st37 := st36.f2
    have hq_ := St.give (α := File) st37
    obtain ⟨fp38, st39⟩ := hq_
    exact ⟨_, xs.length - (i + 1), (by omega), rfl, i + 1, ((K + 1) + 1) + 1, fp38, (by omega), (by omega), rfl, hs7_0, rfl, rfl, (by rw [← mk_stepy hy hK]; exact st39)⟩
  · skip
    have h8p := of_decide_eq_false h8
    refine wp_exit ?_
    refine wp_seq ?_
    refine sx_region ?_
    refine sx rfl (stp_move (v := I K) hs7_1 ?_)
    refine sx rfl (stp_assign (v := I K) rfl ?_)
    refine sx_nil ?_
    refine wp_ret ?_; repeat (first | refine then_ret ?_ | refine blk_ret ?_)
    refine ret1 Try.results89 rfl ?_
    obtain rfl : i = xs.length := by omega
    have hca := cL_all neE_File xs _ rfl
    rw [mk_all rfl] at st6
    exact ⟨_, congrArg (fun z => Ending.returned (I z)) (by omega), st6⟩
set_option maxHeartbeats 2000000 in
theorem heldFileS_n (w : World) {v : Value} {x : List File} {fp : List Nat} {k : Int} (h : Sl w v (mkL mkE_File neE_File x k) fp) (h0 : 0 ≤ k) (hk : k + (cL neE_File x : Nat) ≤ 4611686018427387904) :
    Calls Try.prog 92 #[v, I k] w fun e w' => e = .returned (I (k + (cL neE_File x : Nat))) ∧ St w w' [] := by
  have hcap := h.len_le
  rw [mkL_len] at hcap
  have hml : (mkL mkE_File neE_File x k).length = x.length := mkL_len _ _
  refine enter2 Try.func92 rfl Try.ntmps92 (by decide) ?_
  refine wp_seq ?_
  refine sx_region ?_
  refine sx rfl (stp_assign (v := I 0) rfl ?_)
  refine sx_nil ?_
  refine wp_seq ?_
  refine wp_seq ?_
  refine sx_region ?_
  refine sx rfl (stp_assign (v := I 0) rfl ?_)
  refine sx_nil ?_
  refine wp_block ?_
  refine sx_loop (fun (m : Nat) (f : Nat → Value) (W : World) => ∃ (i : Nat) (K : Int), i ≤ x.length ∧ K = k + (cL neE_File (x.take i) : Nat) ∧ m = x.length - i ∧ f 0 = v ∧ f 1 = I K ∧ f 5 = I (i : Int) ∧ St w W ([])) (x.length - 0) ?_ ?_
  · exact ⟨0, k, Nat.zero_le _, (by simp [cL]), rfl, rfl, rfl, rfl, (St.start w)⟩
  intro m1 f2 W3 hJ4
  obtain ⟨i, K, hi, hK, rfl, hs6_0, hs6_1, hs6_5, st5⟩ := hJ4
  refine wp_seq ?_
  refine wp_seq ?_
  refine sx_region ?_
  refine sx rfl (stp_move (v := I (i : Int)) hs6_5 ?_)
  refine sx rfl (stp_move (v := v) hs6_0 ?_)
  refine sx rfl (stp_len sl_FileS rfl h ?_)
  refine sx rfl (stp_lss rfl rfl ?_)
  refine sx_nil ?_
  refine sx_if rfl (fun h7 => ?_) (fun h7 => ?_)
  · skip
    have h7p := of_decide_eq_true h7
    refine wp_skip ?_
    refine wp_seq ?_
    refine wp_block ?_
    refine wp_seq ?_
    refine wp_seq ?_
    have hq_ := some_at (xs := x) (i := i) (by omega)
    obtain ⟨y, hy⟩ := hq_
    have hcs := cL_takey neE_File hy
    have hcl := cL_take_le neE_File x (i + 1)
    have hne : neE_File y = 3 := rfl
    have hb9 : Bd K (1 + (1 + (1 + (0)))) := ⟨by omega, by omega⟩
    have hq_ := idxmy h hy hK
    obtain ⟨b8, o8, cs8, f8, hp8, hr8, hc8, hm8⟩ := hq_
    have hk10 := hc8
    obtain ⟨he10, rfl, hok10⟩ := hk10
    have he10 : _ = [.string (mtext K), .string (mtext (K + 1)), I ((K + 1) + 1)] := he10; subst he10
    skip
    refine sx_any [Pl.is (v) (Sl.yl h), Pl.is (I (i : Int)), Pl.is (.pointer (some ⟨b8, o8, none⟩)), Pl.is (.pointer (some ⟨b8, o8 + 0, none⟩)), Pl.is (.string (mtext K)), Pl.is (I K), Pl.is (.string (mtext K)), Pl.bool (!decide ((mtext K) = (mtext K)))] mix (by rfl) st5 ⟨(fun f W hst hbl hd hf => stp_move (v := v) ((hf 0 rfl).trans hs6_0) ⟨Below.refl _ _, rfl⟩), (fun f W hst hbl hd hf => stp_move (v := I (i : Int)) ((hf 5 rfl).trans hs6_5) ⟨Below.refl _ _, rfl⟩), (fun f W hst hbl hd hf => stp_indexAddr sl_FileS (hd 0 12 rfl rfl) hp8 (hd 1 13 rfl rfl) rfl ⟨Below.refl _ _, rfl⟩), (fun f W hst hbl hd hf => stp_fieldAddr fa_File_0 (hd 2 14 rfl rfl) ⟨Below.refl _ _, rfl⟩), (fun f W hst hbl hd hf => stp_load_rg ld_string rfl (hd 3 15 rfl rfl) hr8 hst.below (i := 0) rfl rfl ⟨Below.refl _ _, rfl⟩), (fun f W hst hbl hd hf => stp_move (v := I K) ((hf 1 rfl).trans hs6_1) ⟨Below.refl _ _, rfl⟩), (fun f W hst hbl hd hf => stp_call1 Try.func98 rfl (hd 5 17 rfl rfl) ((markText_n W K (by omega)).mono (by rintro e W2 ⟨rfl, hk⟩; exact ⟨_, rfl, hk.below, rfl⟩))), (fun f W hst hbl hd hf => stp_sneq (hd 4 16 rfl rfl) (hd 6 18 rfl rfl) ⟨Below.refl _ _, rfl⟩), trivial⟩ ?_
    intro f11 W12 st13 hb14 hv15 hf16
    refine sx_if (hv15 7 19 (by decide) rfl) (fun h17 => ?_) (fun h17 => ?_)
    · skip
      have h17p := of_decide_eq_false (bnot_t h17)
      exact absurd rfl h17p
    · skip
      have h17p := of_decide_eq_true (bnot_f h17)
      refine wp_skip ?_
      refine wp_seq ?_
      refine sx_region ?_
      refine sx rfl (stp_move (v := I K) ((hf16 1 rfl).trans hs6_1) ?_)
      have hb18 := hb9.up
      refine sx rfl (stp_add rfl rfl hb18.i64 ?_)
      refine sx rfl (stp_assign (v := I (K + 1)) rfl ?_)
      refine sx_nil ?_
      refine wp_seq ?_
      refine wp_seq ?_
      skip
      refine sx_any [Pl.is (v) (Sl.yl h), Pl.is (I (i : Int)), Pl.is (.pointer (some ⟨b8, o8, none⟩)), Pl.is (.pointer (some ⟨b8, o8 + 1, none⟩)), Pl.is (.string (mtext (K + 1))), Pl.is (I (K + 1)), Pl.is (.string (mtext (K + 1))), Pl.bool (!decide ((mtext (K + 1)) = (mtext (K + 1))))] mix (by rfl) st13 ⟨(fun f W hst hbl hd hf => stp_move (v := v) ((hf 0 rfl).trans ((hf16 0 rfl).trans hs6_0)) ⟨Below.refl _ _, rfl⟩), (fun f W hst hbl hd hf => stp_move (v := I (i : Int)) ((hf 5 rfl).trans ((hf16 5 rfl).trans hs6_5)) ⟨Below.refl _ _, rfl⟩), (fun f W hst hbl hd hf => stp_indexAddr sl_FileS (hd 0 22 rfl rfl) hp8 (hd 1 23 rfl rfl) rfl ⟨Below.refl _ _, rfl⟩), (fun f W hst hbl hd hf => stp_fieldAddr fa_File_1 (hd 2 24 rfl rfl) ⟨Below.refl _ _, rfl⟩), (fun f W hst hbl hd hf => stp_load_rg ld_string rfl (hd 3 25 rfl rfl) hr8 hst.below (i := 1) rfl rfl ⟨Below.refl _ _, rfl⟩), (fun f W hst hbl hd hf => stp_move (v := I (K + 1)) ((hf 1 rfl).trans (show _ = I (K + 1) from rfl)) ⟨Below.refl _ _, rfl⟩), (fun f W hst hbl hd hf => stp_call1 Try.func98 rfl (hd 5 27 rfl rfl) ((markText_n W (K + 1) (by omega)).mono (by rintro e W2 ⟨rfl, hk⟩; exact ⟨_, rfl, hk.below, rfl⟩))), (fun f W hst hbl hd hf => stp_sneq (hd 4 26 rfl rfl) (hd 6 28 rfl rfl) ⟨Below.refl _ _, rfl⟩), trivial⟩ ?_
      intro f20 W21 st22 hb23 hv24 hf25
      refine sx_if (hv24 7 29 (by decide) rfl) (fun h26 => ?_) (fun h26 => ?_)
      · skip
        have h26p := of_decide_eq_false (bnot_t h26)
        exact absurd rfl h26p
      · skip
        have h26p := of_decide_eq_true (bnot_f h26)
        refine wp_skip ?_
        refine wp_seq ?_
        refine sx_region ?_
        refine sx rfl (stp_move (v := I (K + 1)) ((hf25 1 rfl).trans (show _ = I (K + 1) from rfl)) ?_)
        have hb27 := hb18.up
        refine sx rfl (stp_add rfl rfl hb27.i64 ?_)
        refine sx rfl (stp_assign (v := I ((K + 1) + 1)) rfl ?_)
        refine sx_nil ?_
        refine wp_seq ?_
        refine wp_seq ?_
        refine sx_region ?_
        refine sx rfl (stp_move (v := v) ((hf25 0 rfl).trans ((hf16 0 rfl).trans hs6_0)) ?_)
        refine sx rfl (stp_move (v := I (i : Int)) ((hf25 5 rfl).trans ((hf16 5 rfl).trans hs6_5)) ?_)
        skip
        refine sx rfl (stp_indexAddr sl_FileS rfl hp8 rfl rfl ?_)
        refine sx rfl (stp_fieldAddr fa_File_2 rfl ?_)
        refine sx rfl (stp_load_rg ld_int rfl rfl hr8 st22.below (i := 2) rfl rfl ?_)
        refine sx rfl (stp_move (v := I ((K + 1) + 1)) rfl ?_)
        refine sx rfl (stp_neq rfl rfl ?_)
        refine sx_nil ?_
        refine sx_if rfl (fun h29 => ?_) (fun h29 => ?_)
        · skip
          have h29p := of_decide_eq_false (bnot_t h29)
          exact absurd rfl h29p
        · skip
          have h29p := of_decide_eq_true (bnot_f h29)
          refine wp_skip ?_
          refine sx_region ?_
          refine sx rfl (stp_move (v := I ((K + 1) + 1)) rfl ?_)
          have hb30 := hb27.up
          refine sx rfl (stp_add rfl rfl hb30.i64 ?_)
          refine sx rfl (stp_assign (v := I (((K + 1) + 1) + 1)) rfl ?_)
          refine sx_nil ?_
          refine sx_region ?_
          refine sx rfl (stp_move (v := I (i : Int)) ((hf25 5 rfl).trans ((hf16 5 rfl).trans hs6_5)) ?_)
          refine sx rfl (stp_add rfl rfl (by (simp only [I64] at *; omega)) ?_)
          refine sx rfl (stp_assign (v := I ((i : Int) + 1)) rfl ?_)
          refine sx_nil ?_
          exact ⟨_, x.length - (i + 1), (by omega), rfl, i + 1, ((K + 1) + 1) + 1, (by omega), (by omega), rfl, ((hf25 0 rfl).trans ((hf16 0 rfl).trans hs6_0)), rfl, rfl, st22⟩
  · skip
    have h7p := of_decide_eq_false h7
    refine wp_exit ?_
    refine wp_seq ?_
    refine sx_region ?_
    refine sx rfl (stp_move (v := I K) hs6_1 ?_)
    refine sx rfl (stp_assign (v := I K) rfl ?_)
    refine sx_nil ?_
    refine wp_ret ?_; repeat (first | refine then_ret ?_ | refine blk_ret ?_)
    refine ret1 Try.results92 rfl ?_
    obtain rfl : i = x.length := by omega
    have hca := cL_all neE_File x _ rfl
    exact ⟨congrArg (fun z => Ending.returned (I z)) (by omega), st5.bare⟩
set_option maxHeartbeats 2000000 in
theorem markDisk_n {w W0 : World} {rs : List Res} {x : Disk} {cs : List Value} {fp : List Nat} (hst : St w W0 (Res.own (.agg cs.toArray) x fp :: rs)) (k : Int) (h0 : 0 ≤ k) (hk : k + (ntT_Disk x : Nat) ≤ 4611686018427387904) :
    Calls Try.prog 71 #[.agg cs.toArray, I k] W0 fun e w' => ∃ fp', e = .returned (I (k + (ntT_Disk x : Nat))) ∧ St w w' (Res.own (.agg cs.toArray) (mkT_Disk x k) fp' :: rs) := by
  have hk2 := hk
  unfold ntT_Disk at hk2
  refine enter2 Try.func71 rfl Try.ntmps71 (by decide) ?_
  have hb1 : Bd k ((cL neE_File x.files) + (0)) := ⟨by omega, by omega⟩
  refine wp_seq ?_
  refine sx_region ?_
  refine sx rfl (stp_box_agg (cs := cs) rfl hst ?_); intro b2 W3 hb4 st5
  refine sx rfl (stp_assign (v := I 0) rfl ?_)
  refine sx_nil ?_
  refine wp_seq ?_
  refine sx_region ?_
  refine sx rfl (stp_fieldAddr fa_Disk_0 rfl ?_)
  have st7 := st5.f1
  have hq_ := open_Disk st7
  obtain ⟨v8_0, g8_0, he8, hok8, st9⟩ := hq_
  subst he8
  refine sx rfl (stp_load_bx ld_FileS rfl rfl (st9.get 1 rfl) (i := 0) rfl rfl ?_)
  refine sx rfl (stp_move (v := I k) rfl ?_)
  have hb15 := hb1.upc
  refine sx rfl (stp_call2 Try.func89 rfl rfl rfl ((markFileS_n st9 k hb1.lo hb1.hi).mono ?_)); rintro _ W11 ⟨fp14, rfl, st13⟩; refine ⟨_, rfl, ?_⟩
  refine sx rfl (stp_assign (v := I (k + (cL neE_File x.files : Nat))) rfl ?_)
  refine sx_nil ?_
  refine wp_seq ?_
  refine sx_region ?_
  refine sx rfl (stp_move (v := I (k + (cL neE_File x.files : Nat))) rfl ?_)
  refine sx rfl (stp_assign (v := I (k + (cL neE_File x.files : Nat))) rfl ?_)
  refine sx_nil ?_
  refine wp_ret ?_; repeat (first | refine then_ret ?_ | refine blk_ret ?_)
  refine ret1 Try.results71 rfl ?_
  have st16 := shut_Disk (x := (mkT_Disk x k)) st13 hok8
  have st18 := st16.d1
  exact ⟨_, congrArg (fun z => Ending.returned (I z)) (by unfold ntT_Disk; push_cast; omega), st18⟩
set_option maxHeartbeats 2000000 in
theorem heldDisk_n (w : World) {x : Disk} {cs : List Value} {fp : List Nat} {k : Int} (hc : Shape.C w cs (mkT_Disk x k) fp) (h0 : 0 ≤ k) (hk : k + (ntT_Disk x : Nat) ≤ 4611686018427387904) :
    Calls Try.prog 74 #[.agg cs.toArray, I k] w fun e w' => e = .returned (I (k + (ntT_Disk x : Nat))) ∧ St w w' [] := by
  have hk2 := hk
  have hnt : ntT_Disk x = cL neE_File x.files := rfl
  refine enter2 Try.func74 rfl Try.ntmps74 (by decide) ?_
  have hb1 : Bd k ((cL neE_File x.files) + (0)) := ⟨by omega, by omega⟩
  refine wp_seq ?_
  refine sx_region ?_
  refine sx rfl (stp_box_agg (cs := cs) rfl (St.start w) ?_); intro b2 W3 hb4 st5
  refine sx rfl (stp_assign (v := I 0) rfl ?_)
  refine sx_nil ?_
  refine wp_seq ?_
  refine sx_region ?_
  refine sx rfl (stp_fieldAddr fa_Disk_0 rfl ?_)
  have hk7 := hc
  obtain ⟨v7_0, g7_0, he7, hok7, h7_0, rfl⟩ := hk7
  have he7 : _ = [v7_0] := he7; subst he7
  have h7_0 : Sl _ v7_0 (mkL mkE_File neE_File x.files k) _ := h7_0
  refine sx rfl (stp_load_bx ld_FileS rfl rfl (st5.get 0 rfl) (i := 0) rfl rfl ?_)
  refine sx rfl (stp_move (v := I k) rfl ?_)
  have hb12 := hb1.upc
  refine sx rfl (stp_call2 Try.func92 rfl rfl rfl ((heldFileS_n W3 (x := x.files) (h7_0.below st5.below) hb1.lo hb1.hi).mono ?_)); rintro _ W8 ⟨rfl, hk9⟩; refine ⟨_, rfl, ?_⟩
  have st10 := St.call st5 hk9
  refine sx rfl (stp_assign (v := I (k + (cL neE_File x.files : Nat))) rfl ?_)
  refine sx_nil ?_
  refine wp_seq ?_
  refine wp_seq ?_
  refine sx_region ?_
  refine sx rfl (stp_move (v := I (k + (cL neE_File x.files : Nat))) rfl ?_)
  refine sx rfl (stp_lss rfl rfl ?_)
  refine sx_nil ?_
  refine sx_if rfl (fun h13 => ?_) (fun h13 => ?_)
  · skip
    have h13p := of_decide_eq_true h13
    exact absurd h13p (Int.not_lt.2 hb12.1)
  · skip
    have h13p := of_decide_eq_false h13
    refine wp_skip ?_
    refine wp_seq ?_
    refine sx_region ?_
    refine sx rfl (stp_move (v := I (k + (cL neE_File x.files : Nat))) rfl ?_)
    refine sx rfl (stp_assign (v := I (k + (cL neE_File x.files : Nat))) rfl ?_)
    refine sx_nil ?_
    refine wp_ret ?_; repeat (first | refine then_ret ?_ | refine blk_ret ?_)
    refine ret1 Try.results74 rfl ?_
    exact ⟨congrArg (fun z => Ending.returned (I z)) (by omega), st10.bare⟩
set_option maxHeartbeats 2000000 in
theorem markEngine_n {w W0 : World} {rs : List Res} {x : Engine} {cs : List Value} {fp : List Nat} (hst : St w W0 (Res.own (.agg cs.toArray) x fp :: rs)) (k : Int) (h0 : 0 ≤ k) (hk : k + (ntT_Engine x : Nat) ≤ 4611686018427387904) :
    Calls Try.prog 47 #[.agg cs.toArray, I k] W0 fun e w' => ∃ fp', e = .returned (I (k + (ntT_Engine x : Nat))) ∧ St w w' (Res.own (.agg cs.toArray) (mkT_Engine x k) fp' :: rs) := by
  have hk2 := hk
  unfold ntT_Engine at hk2
  refine enter2 Try.func47 rfl Try.ntmps47 (by decide) ?_
  have hb1 : Bd k ((ntT_Yard x.yard) + ((ntT_Disk x.disk) + ((cL neE_Wait x.waits) + (0)))) := ⟨by omega, by omega⟩
  refine wp_seq ?_
  refine sx_region ?_
  refine sx rfl (stp_box_agg (cs := cs) rfl hst ?_); intro b2 W3 hb4 st5
  refine sx rfl (stp_assign (v := I 0) rfl ?_)
  refine sx_nil ?_
  refine wp_seq ?_
  refine sx_region ?_
  refine sx rfl (stp_fieldAddr fa_Engine_0 rfl ?_)
  have st7 := st5.f1
  have hq_ := open_Engine st7
  obtain ⟨v8_0, v8_1, v8_2, v8_3, g8_0, g8_1, g8_2, g8_3, he8, hok8, st9⟩ := hq_
  subst he8
  refine sx rfl (stp_load_bxs (cs := [I x.yard.now, I x.yard.seq, v8_0, v8_1]) ld_Yard rfl rfl (st9.get 4 rfl) rfl rfl ?_)
  refine sx rfl (stp_move (v := I k) rfl ?_)
  have st18 := st9.f1
  have st19 := st18.f1
  have st20 := shut_Yard (x := x.yard) st19 (by first | exact True.intro | (simp only [Edge.ok, Plan.ok, Entry.ok, Task.ok, Run.ok, Yard.ok, Reply.ok, Deed.ok, Note.ok, Wait.ok, File.ok, Disk.ok, Engine.ok, WorldD.ok, ActD.ok, Hand.ok, Span.ok, Crew.ok, View.ok, I64] at *; omega))
  have hb22 := hb1.upc
  refine sx rfl (stp_call2 Try.func12 rfl rfl rfl ((markYard_n st20 k hb1.lo hb1.hi).mono ?_)); rintro _ W14 ⟨fp17, rfl, st16⟩; refine ⟨_, rfl, ?_⟩
  have hq_ := open_Yard st16
  obtain ⟨vq23_0, vq23_1, fq23_0, fq23_1, heq23, hokq23, st24⟩ := hq_
  have ev23_0 := Option.some.inj (congrArg (fun l : List Value => l[2]?) heq23); subst ev23_0
  have ev23_1 := Option.some.inj (congrArg (fun l : List Value => l[3]?) heq23); subst ev23_1
  refine sx rfl (stp_assign (v := I (k + (ntT_Yard x.yard : Nat))) rfl ?_)
  refine sx_nil ?_
  refine wp_seq ?_
  refine sx_region ?_
  refine sx rfl (stp_fieldAddr fa_Engine_1 rfl ?_)
  refine sx rfl (stp_load_bxs (cs := [v8_2]) ld_Disk rfl rfl (st24.get 4 rfl) rfl rfl ?_)
  refine sx rfl (stp_move (v := I (k + (ntT_Yard x.yard : Nat))) rfl ?_)
  have st29 := st24.f2
  have st30 := shut_Disk (x := x.disk) st29 (by first | exact True.intro | (simp only [Edge.ok, Plan.ok, Entry.ok, Task.ok, Run.ok, Yard.ok, Reply.ok, Deed.ok, Note.ok, Wait.ok, File.ok, Disk.ok, Engine.ok, WorldD.ok, ActD.ok, Hand.ok, Span.ok, Crew.ok, View.ok, I64] at *; omega))
  have hb32 := hb22.upc
  refine sx rfl (stp_call2 Try.func71 rfl rfl rfl ((markDisk_n st30 (k + (ntT_Yard x.yard : Nat)) hb22.lo hb22.hi).mono ?_)); rintro _ W25 ⟨fp28, rfl, st27⟩; refine ⟨_, rfl, ?_⟩
  have hq_ := open_Disk st27
  obtain ⟨vq33_0, fq33_0, heq33, hokq33, st34⟩ := hq_
  have ev33_0 := Option.some.inj (congrArg (fun l : List Value => l[0]?) heq33); subst ev33_0
  refine sx rfl (stp_assign (v := I ((k + (ntT_Yard x.yard : Nat)) + (ntT_Disk x.disk : Nat))) rfl ?_)
  refine sx_nil ?_
  refine wp_seq ?_
  refine sx_region ?_
  refine sx rfl (stp_fieldAddr fa_Engine_4 rfl ?_)
  refine sx rfl (stp_load_bx ld_WaitS rfl rfl (st34.get 4 rfl) (i := 7) rfl rfl ?_)
  refine sx rfl (stp_move (v := I ((k + (ntT_Yard x.yard : Nat)) + (ntT_Disk x.disk : Nat))) rfl ?_)
  have st39 := st34.f3
  have hb40 := hb32.upc
  refine sx rfl (stp_call2 Try.func72 rfl rfl rfl ((markWaitS_n st39 ((k + (ntT_Yard x.yard : Nat)) + (ntT_Disk x.disk : Nat)) hb32.lo hb32.hi).mono ?_)); rintro _ W35 ⟨fp38, rfl, st37⟩; refine ⟨_, rfl, ?_⟩
  refine sx rfl (stp_assign (v := I (((k + (ntT_Yard x.yard : Nat)) + (ntT_Disk x.disk : Nat)) + (cL neE_Wait x.waits : Nat))) rfl ?_)
  refine sx_nil ?_
  refine wp_seq ?_
  refine sx_region ?_
  refine sx rfl (stp_move (v := I (((k + (ntT_Yard x.yard : Nat)) + (ntT_Disk x.disk : Nat)) + (cL neE_Wait x.waits : Nat))) rfl ?_)
  refine sx rfl (stp_assign (v := I (((k + (ntT_Yard x.yard : Nat)) + (ntT_Disk x.disk : Nat)) + (cL neE_Wait x.waits : Nat))) rfl ?_)
  refine sx_nil ?_
  refine wp_ret ?_; repeat (first | refine then_ret ?_ | refine blk_ret ?_)
  refine ret1 Try.results47 rfl ?_
  have st41 := st37.f1
  have st42 := st41.f3
  have st43 := st42.f3
  have st44 := shut_Engine (x := (mkT_Engine x k)) st43 hok8
  have st46 := st44.d1
  exact ⟨_, congrArg (fun z => Ending.returned (I z)) (by unfold ntT_Engine; push_cast; omega), st46⟩
set_option maxHeartbeats 2000000 in
theorem heldEngine_n (w : World) {x : Engine} {cs : List Value} {fp : List Nat} {k : Int} (hc : Shape.C w cs (mkT_Engine x k) fp) (h0 : 0 ≤ k) (hk : k + (ntT_Engine x : Nat) ≤ 4611686018427387904) :
    Calls Try.prog 50 #[.agg cs.toArray, I k] w fun e w' => e = .returned (I (k + (ntT_Engine x : Nat))) ∧ St w w' [] := by
  have hk2 := hk
  have hnt : ntT_Engine x = ntT_Yard x.yard + ntT_Disk x.disk + cL neE_Wait x.waits := rfl
  refine enter2 Try.func50 rfl Try.ntmps50 (by decide) ?_
  have hb1 : Bd k ((ntT_Yard x.yard) + ((ntT_Disk x.disk) + ((cL neE_Wait x.waits) + (0)))) := ⟨by omega, by omega⟩
  refine wp_seq ?_
  refine sx_region ?_
  refine sx rfl (stp_box_agg (cs := cs) rfl (St.start w) ?_); intro b2 W3 hb4 st5
  refine sx rfl (stp_assign (v := I 0) rfl ?_)
  refine sx_nil ?_
  refine wp_seq ?_
  refine sx_region ?_
  refine sx rfl (stp_fieldAddr fa_Engine_0 rfl ?_)
  have hk7 := hc
  obtain ⟨v7_0, v7_1, v7_2, v7_3, g7_0, g7_1, g7_2, g7_3, he7, hok7, h7_0, h7_1, h7_2, h7_3, rfl⟩ := hk7
  have he7 : _ = [I x.yard.now, I x.yard.seq, v7_0, v7_1, v7_2, I x.next, I x.calls, v7_3, I x.state, .bool x.broken] := he7; subst he7
  have h7_0 : Sl _ v7_0 (mkL (mkL mkE_Entry neE_Entry) (cL neE_Entry) x.yard.shelf k) _ := h7_0
  have h7_1 : Sl _ v7_1 (mkL mkE_Run neE_Run x.yard.runs (k + (cL (cL neE_Entry) x.yard.shelf : Nat))) _ := h7_1
  have h7_2 : Sl _ v7_2 (mkL mkE_File neE_File x.disk.files (k + (ntT_Yard x.yard : Nat))) _ := h7_2
  have h7_3 : Sl _ v7_3 (mkL mkE_Wait neE_Wait x.waits ((k + (ntT_Yard x.yard : Nat)) + (ntT_Disk x.disk : Nat))) _ := h7_3
  refine sx rfl (stp_load_bxs (cs := [I x.yard.now, I x.yard.seq, v7_0, v7_1]) ld_Yard rfl rfl (st5.get 0 rfl) rfl rfl ?_)
  refine sx rfl (stp_move (v := I k) rfl ?_)
  have hb12 := hb1.upc
  refine sx rfl (stp_call2 Try.func73 rfl rfl rfl ((heldYard_n W3 (x := x.yard) (show Shape.C _ [I x.yard.now, I x.yard.seq, v7_0, v7_1] (mkT_Engine x k).yard _ from ⟨_, _, _, _, rfl, (by first | exact True.intro | (simp only [Edge.ok, Plan.ok, Entry.ok, Task.ok, Run.ok, Yard.ok, Reply.ok, Deed.ok, Note.ok, Wait.ok, File.ok, Disk.ok, Engine.ok, WorldD.ok, ActD.ok, Hand.ok, Span.ok, Crew.ok, View.ok, I64] at *; omega)), (h7_0.below st5.below), (h7_1.below st5.below), rfl⟩) hb1.lo hb1.hi).mono ?_)); rintro _ W8 ⟨rfl, hk9⟩; refine ⟨_, rfl, ?_⟩
  have st10 := St.call st5 hk9
  refine sx rfl (stp_assign (v := I (k + (ntT_Yard x.yard : Nat))) rfl ?_)
  refine sx_nil ?_
  refine wp_seq ?_
  refine wp_seq ?_
  refine sx_region ?_
  refine sx rfl (stp_move (v := I (k + (ntT_Yard x.yard : Nat))) rfl ?_)
  refine sx rfl (stp_lss rfl rfl ?_)
  refine sx_nil ?_
  refine sx_if rfl (fun h13 => ?_) (fun h13 => ?_)
  · skip
    have h13p := of_decide_eq_true h13
    exact absurd h13p (Int.not_lt.2 hb12.1)
  · skip
    have h13p := of_decide_eq_false h13
    refine wp_skip ?_
    refine wp_seq ?_
    refine sx_region ?_
    refine sx rfl (stp_fieldAddr fa_Engine_1 rfl ?_)
    refine sx rfl (stp_load_bxs (cs := [v7_2]) ld_Disk rfl rfl (st10.get 0 rfl) rfl rfl ?_)
    refine sx rfl (stp_move (v := I (k + (ntT_Yard x.yard : Nat))) rfl ?_)
    have hb18 := hb12.upc
    refine sx rfl (stp_call2 Try.func74 rfl rfl rfl ((heldDisk_n W8 (x := x.disk) (show Shape.C _ [v7_2] (mkT_Engine x k).disk _ from ⟨_, _, rfl, (by first | exact True.intro | (simp only [Edge.ok, Plan.ok, Entry.ok, Task.ok, Run.ok, Yard.ok, Reply.ok, Deed.ok, Note.ok, Wait.ok, File.ok, Disk.ok, Engine.ok, WorldD.ok, ActD.ok, Hand.ok, Span.ok, Crew.ok, View.ok, I64] at *; omega)), (h7_2.below st10.below), rfl⟩) hb12.lo hb12.hi).mono ?_)); rintro _ W14 ⟨rfl, hk15⟩; refine ⟨_, rfl, ?_⟩
    have st16 := St.call st10 hk15
    refine sx rfl (stp_assign (v := I ((k + (ntT_Yard x.yard : Nat)) + (ntT_Disk x.disk : Nat))) rfl ?_)
    refine sx_nil ?_
    refine wp_seq ?_
    refine wp_seq ?_
    refine sx_region ?_
    refine sx rfl (stp_move (v := I ((k + (ntT_Yard x.yard : Nat)) + (ntT_Disk x.disk : Nat))) rfl ?_)
    refine sx rfl (stp_lss rfl rfl ?_)
    refine sx_nil ?_
    refine sx_if rfl (fun h19 => ?_) (fun h19 => ?_)
    · skip
      have h19p := of_decide_eq_true h19
      exact absurd h19p (Int.not_lt.2 hb18.1)
    · skip
      have h19p := of_decide_eq_false h19
      refine wp_skip ?_
      refine wp_seq ?_
      refine sx_region ?_
      refine sx rfl (stp_fieldAddr fa_Engine_4 rfl ?_)
      refine sx rfl (stp_load_bx ld_WaitS rfl rfl (st16.get 0 rfl) (i := 7) rfl rfl ?_)
      refine sx rfl (stp_move (v := I ((k + (ntT_Yard x.yard : Nat)) + (ntT_Disk x.disk : Nat))) rfl ?_)
      have hb24 := hb18.upc
      refine sx rfl (stp_call2 Try.func75 rfl rfl rfl ((heldWaitS_n W14 (x := x.waits) (h7_3.below st16.below) hb18.lo hb18.hi).mono ?_)); rintro _ W20 ⟨rfl, hk21⟩; refine ⟨_, rfl, ?_⟩
      have st22 := St.call st16 hk21
      refine sx rfl (stp_assign (v := I (((k + (ntT_Yard x.yard : Nat)) + (ntT_Disk x.disk : Nat)) + (cL neE_Wait x.waits : Nat))) rfl ?_)
      refine sx_nil ?_
      refine wp_seq ?_
      refine wp_seq ?_
      refine sx_region ?_
      refine sx rfl (stp_move (v := I (((k + (ntT_Yard x.yard : Nat)) + (ntT_Disk x.disk : Nat)) + (cL neE_Wait x.waits : Nat))) rfl ?_)
      refine sx rfl (stp_lss rfl rfl ?_)
      refine sx_nil ?_
      refine sx_if rfl (fun h25 => ?_) (fun h25 => ?_)
      · skip
        have h25p := of_decide_eq_true h25
        exact absurd h25p (Int.not_lt.2 hb24.1)
      · skip
        have h25p := of_decide_eq_false h25
        refine wp_skip ?_
        refine wp_seq ?_
        refine sx_region ?_
        refine sx rfl (stp_move (v := I (((k + (ntT_Yard x.yard : Nat)) + (ntT_Disk x.disk : Nat)) + (cL neE_Wait x.waits : Nat))) rfl ?_)
        refine sx rfl (stp_assign (v := I (((k + (ntT_Yard x.yard : Nat)) + (ntT_Disk x.disk : Nat)) + (cL neE_Wait x.waits : Nat))) rfl ?_)
        refine sx_nil ?_
        refine wp_ret ?_; repeat (first | refine then_ret ?_ | refine blk_ret ?_)
        refine ret1 Try.results50 rfl ?_
        exact ⟨congrArg (fun z => Ending.returned (I z)) (by omega), st22.bare⟩
set_option maxHeartbeats 2000000 in
theorem markWorld_n {w W0 : World} {rs : List Res} {x : WorldD} {cs : List Value} {fp : List Nat} (hst : St w W0 (Res.own (.agg cs.toArray) x fp :: rs)) (k : Int) (h0 : 0 ≤ k) (hk : k + (ntT_World x : Nat) ≤ 4611686018427387904) :
    Calls Try.prog 23 #[.agg cs.toArray, I k] W0 fun e w' => ∃ fp', e = .returned (I (k + (ntT_World x : Nat))) ∧ St w w' (Res.own (.agg cs.toArray) (mkT_World x k) fp' :: rs) := by
  have hk2 := hk
  unfold ntT_World at hk2
  refine enter2 Try.func23 rfl Try.ntmps23 (by decide) ?_
  have hb1 : Bd k ((ntT_Engine x.engine) + ((cL neE_Deed x.deeds) + ((cL neE_Reply x.replies) + (0)))) := ⟨by omega, by omega⟩
  refine wp_seq ?_
  refine sx_region ?_
  refine sx rfl (stp_box_agg (cs := cs) rfl hst ?_); intro b2 W3 hb4 st5
  refine sx rfl (stp_assign (v := I 0) rfl ?_)
  refine sx_nil ?_
  refine wp_seq ?_
  refine sx_region ?_
  refine sx rfl (stp_fieldAddr fa_World_0 rfl ?_)
  have st7 := st5.f1
  have hq_ := open_World st7
  obtain ⟨v8_0, v8_1, v8_2, v8_3, v8_4, v8_5, g8_0, g8_1, g8_2, g8_3, g8_4, g8_5, he8, hok8, st9⟩ := hq_
  subst he8
  refine sx rfl (stp_load_bxs (cs := [I x.engine.yard.now, I x.engine.yard.seq, v8_0, v8_1, v8_2, I x.engine.next, I x.engine.calls, v8_3, I x.engine.state, .bool x.engine.broken]) ld_Engine rfl rfl (st9.get 6 rfl) rfl rfl ?_)
  refine sx rfl (stp_move (v := I k) rfl ?_)
  have st20 := st9.f3
  have st21 := st20.f3
  have st22 := st21.f3
  have st23 := st22.f3
  have st24 := shut_Engine (x := x.engine) st23 (by first | exact True.intro | (simp only [Edge.ok, Plan.ok, Entry.ok, Task.ok, Run.ok, Yard.ok, Reply.ok, Deed.ok, Note.ok, Wait.ok, File.ok, Disk.ok, Engine.ok, WorldD.ok, ActD.ok, Hand.ok, Span.ok, Crew.ok, View.ok, I64] at *; omega))
  have hb26 := hb1.upc
  refine sx rfl (stp_call2 Try.func47 rfl rfl rfl ((markEngine_n st24 k hb1.lo hb1.hi).mono ?_)); rintro _ W16 ⟨fp19, rfl, st18⟩; refine ⟨_, rfl, ?_⟩
  have hq_ := open_Engine st18
  obtain ⟨vq27_0, vq27_1, vq27_2, vq27_3, fq27_0, fq27_1, fq27_2, fq27_3, heq27, hokq27, st28⟩ := hq_
  have ev27_0 := Option.some.inj (congrArg (fun l : List Value => l[2]?) heq27); subst ev27_0
  have ev27_1 := Option.some.inj (congrArg (fun l : List Value => l[3]?) heq27); subst ev27_1
  have ev27_2 := Option.some.inj (congrArg (fun l : List Value => l[4]?) heq27); subst ev27_2
  have ev27_3 := Option.some.inj (congrArg (fun l : List Value => l[7]?) heq27); subst ev27_3
  refine sx rfl (stp_assign (v := I (k + (ntT_Engine x.engine : Nat))) rfl ?_)
  refine sx_nil ?_
  refine wp_seq ?_
  refine sx_region ?_
  refine sx rfl (stp_fieldAddr fa_World_1 rfl ?_)
  refine sx rfl (stp_load_bx ld_DeedS rfl rfl (st28.get 6 rfl) (i := 10) rfl rfl ?_)
  refine sx rfl (stp_move (v := I (k + (ntT_Engine x.engine : Nat))) rfl ?_)
  have st33 := st28.f4
  have hb34 := hb26.upc
  refine sx rfl (stp_call2 Try.func48 rfl rfl rfl ((markDeedS_n st33 (k + (ntT_Engine x.engine : Nat)) hb26.lo hb26.hi).mono ?_)); rintro _ W29 ⟨fp32, rfl, st31⟩; refine ⟨_, rfl, ?_⟩
  refine sx rfl (stp_assign (v := I ((k + (ntT_Engine x.engine : Nat)) + (cL neE_Deed x.deeds : Nat))) rfl ?_)
  refine sx_nil ?_
  refine wp_seq ?_
  refine sx_region ?_
  refine sx rfl (stp_fieldAddr fa_World_2 rfl ?_)
  refine sx rfl (stp_load_bx ld_ReplyS rfl rfl (st31.get 6 rfl) (i := 11) rfl rfl ?_)
  refine sx rfl (stp_move (v := I ((k + (ntT_Engine x.engine : Nat)) + (cL neE_Deed x.deeds : Nat))) rfl ?_)
  have st39 := st31.f5
  have hb40 := hb34.upc
  refine sx rfl (stp_call2 Try.func49 rfl rfl rfl ((markReplyS_n st39 ((k + (ntT_Engine x.engine : Nat)) + (cL neE_Deed x.deeds : Nat)) hb34.lo hb34.hi).mono ?_)); rintro _ W35 ⟨fp38, rfl, st37⟩; refine ⟨_, rfl, ?_⟩
  refine sx rfl (stp_assign (v := I (((k + (ntT_Engine x.engine : Nat)) + (cL neE_Deed x.deeds : Nat)) + (cL neE_Reply x.replies : Nat))) rfl ?_)
  refine sx_nil ?_
  refine wp_seq ?_
  refine sx_region ?_
  refine sx rfl (stp_move (v := I (((k + (ntT_Engine x.engine : Nat)) + (cL neE_Deed x.deeds : Nat)) + (cL neE_Reply x.replies : Nat))) rfl ?_)
  refine sx rfl (stp_assign (v := I (((k + (ntT_Engine x.engine : Nat)) + (cL neE_Deed x.deeds : Nat)) + (cL neE_Reply x.replies : Nat))) rfl ?_)
  refine sx_nil ?_
  refine wp_ret ?_; repeat (first | refine then_ret ?_ | refine blk_ret ?_)
  refine ret1 Try.results23 rfl ?_
  have st41 := st37.f1
  have st42 := st41.f5
  have st43 := st42.f5
  have st44 := st43.f5
  have st45 := st44.f5
  have st46 := shut_World (x := (mkT_World x k)) st45 hok8
  have st48 := st46.d1
  exact ⟨_, congrArg (fun z => Ending.returned (I z)) (by unfold ntT_World; push_cast; omega), st48⟩
set_option maxHeartbeats 2000000 in
theorem heldWorld_n (w : World) {x : WorldD} {cs : List Value} {fp : List Nat} {k : Int} (hc : Shape.C w cs (mkT_World x k) fp) (h0 : 0 ≤ k) (hk : k + (ntT_World x : Nat) ≤ 4611686018427387904) :
    Calls Try.prog 24 #[.agg cs.toArray, I k] w fun e w' => e = .returned (I (k + (ntT_World x : Nat))) ∧ St w w' [] := by
  have hk2 := hk
  have hnt : ntT_World x = ntT_Engine x.engine + cL neE_Deed x.deeds + cL neE_Reply x.replies := rfl
  refine enter2 Try.func24 rfl Try.ntmps24 (by decide) ?_
  have hb1 : Bd k ((ntT_Engine x.engine) + ((cL neE_Deed x.deeds) + ((cL neE_Reply x.replies) + (0)))) := ⟨by omega, by omega⟩
  refine wp_seq ?_
  refine sx_region ?_
  refine sx rfl (stp_box_agg (cs := cs) rfl (St.start w) ?_); intro b2 W3 hb4 st5
  refine sx rfl (stp_assign (v := I 0) rfl ?_)
  refine sx_nil ?_
  refine wp_seq ?_
  refine sx_region ?_
  refine sx rfl (stp_fieldAddr fa_World_0 rfl ?_)
  have hk7 := hc
  obtain ⟨v7_0, v7_1, v7_2, v7_3, v7_4, v7_5, g7_0, g7_1, g7_2, g7_3, g7_4, g7_5, he7, hok7, h7_0, h7_1, h7_2, h7_3, h7_4, h7_5, rfl⟩ := hk7
  have he7 : _ = [I x.engine.yard.now, I x.engine.yard.seq, v7_0, v7_1, v7_2, I x.engine.next, I x.engine.calls, v7_3, I x.engine.state, .bool x.engine.broken, v7_4, v7_5, I x.told, I x.fell] := he7; subst he7
  have h7_0 : Sl _ v7_0 (mkL (mkL mkE_Entry neE_Entry) (cL neE_Entry) x.engine.yard.shelf k) _ := h7_0
  have h7_1 : Sl _ v7_1 (mkL mkE_Run neE_Run x.engine.yard.runs (k + (cL (cL neE_Entry) x.engine.yard.shelf : Nat))) _ := h7_1
  have h7_2 : Sl _ v7_2 (mkL mkE_File neE_File x.engine.disk.files (k + (ntT_Yard x.engine.yard : Nat))) _ := h7_2
  have h7_3 : Sl _ v7_3 (mkL mkE_Wait neE_Wait x.engine.waits ((k + (ntT_Yard x.engine.yard : Nat)) + (ntT_Disk x.engine.disk : Nat))) _ := h7_3
  have h7_4 : Sl _ v7_4 (mkL mkE_Deed neE_Deed x.deeds (k + (ntT_Engine x.engine : Nat))) _ := h7_4
  have h7_5 : Sl _ v7_5 (mkL mkE_Reply neE_Reply x.replies ((k + (ntT_Engine x.engine : Nat)) + (cL neE_Deed x.deeds : Nat))) _ := h7_5
  refine sx rfl (stp_load_bxs (cs := [I x.engine.yard.now, I x.engine.yard.seq, v7_0, v7_1, v7_2, I x.engine.next, I x.engine.calls, v7_3, I x.engine.state, .bool x.engine.broken]) ld_Engine rfl rfl (st5.get 0 rfl) rfl rfl ?_)
  refine sx rfl (stp_move (v := I k) rfl ?_)
  have hb12 := hb1.upc
  refine sx rfl (stp_call2 Try.func50 rfl rfl rfl ((heldEngine_n W3 (x := x.engine) (show Shape.C _ [I x.engine.yard.now, I x.engine.yard.seq, v7_0, v7_1, v7_2, I x.engine.next, I x.engine.calls, v7_3, I x.engine.state, .bool x.engine.broken] (mkT_World x k).engine _ from ⟨_, _, _, _, _, _, _, _, rfl, (by first | exact True.intro | (simp only [Edge.ok, Plan.ok, Entry.ok, Task.ok, Run.ok, Yard.ok, Reply.ok, Deed.ok, Note.ok, Wait.ok, File.ok, Disk.ok, Engine.ok, WorldD.ok, ActD.ok, Hand.ok, Span.ok, Crew.ok, View.ok, I64] at *; omega)), (h7_0.below st5.below), (h7_1.below st5.below), (h7_2.below st5.below), (h7_3.below st5.below), rfl⟩) hb1.lo hb1.hi).mono ?_)); rintro _ W8 ⟨rfl, hk9⟩; refine ⟨_, rfl, ?_⟩
  have st10 := St.call st5 hk9
  refine sx rfl (stp_assign (v := I (k + (ntT_Engine x.engine : Nat))) rfl ?_)
  refine sx_nil ?_
  refine wp_seq ?_
  refine wp_seq ?_
  refine sx_region ?_
  refine sx rfl (stp_move (v := I (k + (ntT_Engine x.engine : Nat))) rfl ?_)
  refine sx rfl (stp_lss rfl rfl ?_)
  refine sx_nil ?_
  refine sx_if rfl (fun h13 => ?_) (fun h13 => ?_)
  · skip
    have h13p := of_decide_eq_true h13
    exact absurd h13p (Int.not_lt.2 hb12.1)
  · skip
    have h13p := of_decide_eq_false h13
    refine wp_skip ?_
    refine wp_seq ?_
    refine sx_region ?_
    refine sx rfl (stp_fieldAddr fa_World_1 rfl ?_)
    refine sx rfl (stp_load_bx ld_DeedS rfl rfl (st10.get 0 rfl) (i := 10) rfl rfl ?_)
    refine sx rfl (stp_move (v := I (k + (ntT_Engine x.engine : Nat))) rfl ?_)
    have hb18 := hb12.upc
    refine sx rfl (stp_call2 Try.func51 rfl rfl rfl ((heldDeedS_n W8 (x := x.deeds) (h7_4.below st10.below) hb12.lo hb12.hi).mono ?_)); rintro _ W14 ⟨rfl, hk15⟩; refine ⟨_, rfl, ?_⟩
    have st16 := St.call st10 hk15
    refine sx rfl (stp_assign (v := I ((k + (ntT_Engine x.engine : Nat)) + (cL neE_Deed x.deeds : Nat))) rfl ?_)
    refine sx_nil ?_
    refine wp_seq ?_
    refine wp_seq ?_
    refine sx_region ?_
    refine sx rfl (stp_move (v := I ((k + (ntT_Engine x.engine : Nat)) + (cL neE_Deed x.deeds : Nat))) rfl ?_)
    refine sx rfl (stp_lss rfl rfl ?_)
    refine sx_nil ?_
    refine sx_if rfl (fun h19 => ?_) (fun h19 => ?_)
    · skip
      have h19p := of_decide_eq_true h19
      exact absurd h19p (Int.not_lt.2 hb18.1)
    · skip
      have h19p := of_decide_eq_false h19
      refine wp_skip ?_
      refine wp_seq ?_
      refine sx_region ?_
      refine sx rfl (stp_fieldAddr fa_World_2 rfl ?_)
      refine sx rfl (stp_load_bx ld_ReplyS rfl rfl (st16.get 0 rfl) (i := 11) rfl rfl ?_)
      refine sx rfl (stp_move (v := I ((k + (ntT_Engine x.engine : Nat)) + (cL neE_Deed x.deeds : Nat))) rfl ?_)
      have hb24 := hb18.upc
      refine sx rfl (stp_call2 Try.func52 rfl rfl rfl ((heldReplyS_n W14 (x := x.replies) (h7_5.below st16.below) hb18.lo hb18.hi).mono ?_)); rintro _ W20 ⟨rfl, hk21⟩; refine ⟨_, rfl, ?_⟩
      have st22 := St.call st16 hk21
      refine sx rfl (stp_assign (v := I (((k + (ntT_Engine x.engine : Nat)) + (cL neE_Deed x.deeds : Nat)) + (cL neE_Reply x.replies : Nat))) rfl ?_)
      refine sx_nil ?_
      refine wp_seq ?_
      refine wp_seq ?_
      refine sx_region ?_
      refine sx rfl (stp_move (v := I (((k + (ntT_Engine x.engine : Nat)) + (cL neE_Deed x.deeds : Nat)) + (cL neE_Reply x.replies : Nat))) rfl ?_)
      refine sx rfl (stp_lss rfl rfl ?_)
      refine sx_nil ?_
      refine sx_if rfl (fun h25 => ?_) (fun h25 => ?_)
      · skip
        have h25p := of_decide_eq_true h25
        exact absurd h25p (Int.not_lt.2 hb24.1)
      · skip
        have h25p := of_decide_eq_false h25
        refine wp_skip ?_
        refine wp_seq ?_
        refine sx_region ?_
        refine sx rfl (stp_move (v := I (((k + (ntT_Engine x.engine : Nat)) + (cL neE_Deed x.deeds : Nat)) + (cL neE_Reply x.replies : Nat))) rfl ?_)
        refine sx rfl (stp_assign (v := I (((k + (ntT_Engine x.engine : Nat)) + (cL neE_Deed x.deeds : Nat)) + (cL neE_Reply x.replies : Nat))) rfl ?_)
        refine sx_nil ?_
        refine wp_ret ?_; repeat (first | refine then_ret ?_ | refine blk_ret ?_)
        refine ret1 Try.results24 rfl ?_
        exact ⟨congrArg (fun z => Ending.returned (I z)) (by omega), st22.bare⟩
end Go.Proofs.Ytpkfgalpjaoebaa
