/-
  AllOver, LeftIn, EnoughFor, of the program and of the reference. (Printed by a program of this project's.)
-/
import Derived.Test.YtchnllpegfbleaaGreatTasksIn
import Derived.Test.YtchnllpegfbleaaGreatKBase
import Derived.Test.YtchnllpegfbleaaGreatInts
namespace Go.Proofs.YtchnllpegfbleaaGreat
set_option linter.unusedSimpArgs false
set_option linter.unusedVariables false
set_option maxRecDepth 100000
open Go.RowKit


theorem within_n (w : World) (n a b : Int) : Calls Tryz.prog 47 #[I n, I a, I b] w fun e w' => e = .returned (.bool (inB n a b)) ∧ St w w' [] := (within_any n a b w).mono fun e w' ⟨h1, h2⟩ => ⟨h1, by subst h2; exact St.start w⟩
theorem l01In_n (w : World) (n a b : Int) : Calls Tryz.prog 43 #[I n, I a, I b] w fun e w' => e = .returned (.bool (inB n a b)) ∧ St w w' [] := (l01In_any n a b w).mono fun e w' ⟨h1, h2⟩ => ⟨h1, by subst h2; exact St.start w⟩
theorem any_take_f {α : Type} {p : α → Bool} {xs : List α} {k : Nat} (hk : k < xs.length) (h : (xs.take k).any p = false) (hp : p xs[k] = false) : (xs.take (k + 1)).any p = false := by
  rw [List.take_succ_eq_append_getElem hk, List.any_append, h]; simp [hp]
theorem any_get_t {α : Type} {p : α → Bool} {xs : List α} {k : Nat} (hk : k < xs.length) (hp : p xs[k] = true) : xs.any p = true := List.any_eq_true.2 ⟨_, List.getElem_mem hk, hp⟩
theorem sum_take {α : Type} (f : α → Nat) (xs : List α) (k : Nat) (h : k < xs.length) : ((xs.take (k + 1)).map f).sum = ((xs.take k).map f).sum + f xs[k] := wtL_take f xs k h
theorem sum_le {α : Type} {f g : α → Nat} (h : ∀ x, f x ≤ g x) : ∀ xs : List α, (xs.map f).sum ≤ (xs.map g).sum
  | [] => by simp
  | x :: xs => by simp only [List.map_cons, List.sum_cons]; have := h x; have := sum_le h xs; omega
def allOver (y : Yard) : Bool := !y.runs.any (fun r => decide (r.state = 1))
def leftR (r : Run) : Nat := if r.state = 1 then r.tasks.countP (fun t => !decide (t.state = 4)) else 0
def leftIn (y : Yard) : Nat := (y.runs.map leftR).sum
theorem leftR_le (r : Run) : leftR r ≤ r.wt := by
  unfold leftR Run.wt
  have := List.countP_le_length (p := fun t : Task => !decide (t.state = 4)) (l := r.tasks)
  split <;> omega
theorem leftIn_le (y : Yard) : leftIn y ≤ y.wt := by
  unfold leftIn Yard.wt wtL
  have := sum_le leftR_le y.runs
  have e : (y.runs.map (fun y : Run => y.wt)).sum = (y.runs.map Run.wt).sum := rfl
  omega
theorem left_to (y : Yard) (k : Nat) : ((y.runs.take k).map leftR).sum ≤ leftIn y := wtL_take_le leftR y.runs k
theorem tasksTo_count (ts : List Task) (s : Int) : ∀ k, k ≤ ts.length → (tasksTo ts s k).length = (ts.take k).countP (fun t => decide (t.state = s))
  | 0, _ => by simp [tasksTo]
  | k + 1, h => by
    have ih := tasksTo_count ts s k (by omega)
    rw [List.take_succ_eq_append_getElem (by omega), List.countP_append]
    by_cases hs : ts[k].state = s
    · rw [tasksTo_t (by omega) hs, List.length_append, ih]; simp [hs]
    · rw [tasksTo_f (by omega) hs, ih]; simp [hs]
theorem tasksIn_count (ts : List Task) (s : Int) : (tasksIn ts s).length = ts.countP (fun t => decide (t.state = s)) := by
  unfold tasksIn; rw [tasksTo_count ts s _ (Nat.le_refl _), List.take_length]
theorem count_not (ts : List Task) (s : Int) : ts.countP (fun t => !decide (t.state = s)) = ts.length - ts.countP (fun t => decide (t.state = s)) := by
  have := List.length_eq_countP_add_countP (p := fun t : Task => decide (t.state = s)) (l := ts)
  have e : List.countP (fun a : Task => decide ¬decide (a.state = s) = true) ts = ts.countP (fun t => !decide (t.state = s)) := by
    congr 1; funext t; by_cases h : t.state = s <;> simp [h]
  omega
theorem leftR_t {r : Run} (h : r.state = 1) : (leftR r : Int) = r.tasks.length - (tasksIn r.tasks 4).length ∧ (tasksIn r.tasks 4).length ≤ r.tasks.length := by
  have h1 := count_not r.tasks 4
  have h2 := tasksIn_count r.tasks 4
  have h3 := List.countP_le_length (p := fun t : Task => decide (t.state = 4)) (l := r.tasks)
  unfold leftR
  rw [if_pos h]
  omega
theorem leftR_f {r : Run} (h : ¬ r.state = 1) : leftR r = 0 := by unfold leftR; rw [if_neg h]
theorem yard_run {y : Yard} {k : Nat} (h : k < y.runs.length) : y.runs[k].wt + y.runs.length ≤ y.wt := by
  have := wtL_get (fun y : Run => y.wt) y.runs k h
  unfold Yard.wt wtL
  omega
def enoughFor (y : Yard) (b : Int) : Int := if inB b 1 600 then b * (2 * (leftIn y : Int) + 1) else 0
theorem mul_bound {a b : Int} (h1 : 0 ≤ a) (h2 : a ≤ 600) (h3 : 0 ≤ b) (h4 : b ≤ 4000000) : I64 (a * b) := by
  have h5 : a * b ≤ 600 * b := Int.mul_le_mul_of_nonneg_right h2 h3
  have h6 : 0 ≤ a * b := Int.mul_nonneg h1 h3
  unfold I64; omega

set_option maxHeartbeats 2000000 in
theorem AllOverI (w : World) {y : Yard} {cs : List Value} {fp : List Nat} (hc : Shape.C w cs y fp) (hw : y.wt ≤ 1048576) :
    Calls Tryz.prog 63 #[.agg cs.toArray] w fun e w' => e = .returned (.bool (allOver y)) ∧ St w w' [] := by
  have hyr : y.runs.length ≤ y.wt := by unfold Yard.wt wtL; omega
  refine enter1 Tryz.func63 rfl Tryz.ntmps63 (by decide) ?_
  refine wp_seq ?_
  refine sx_region ?_
  refine sx rfl (stp_box_agg (cs := cs) rfl (St.start w) ?_); intro b1 W2 hb3 st4
  refine sx rfl (stp_assign (v := .bool false) rfl ?_)
  refine sx_nil ?_
  refine wp_seq ?_
  refine wp_seq ?_
  refine sx_region ?_
  refine sx rfl (stp_fieldAddr fa_Yard_3 rfl ?_)
  have hk6 := hc
  obtain ⟨v6_0, v6_1, g6_0, g6_1, rfl, hok6, h6_0, h6_1, rfl⟩ := hk6
  refine sx rfl (stp_load_bx ld_RunS rfl rfl (st4.get 0 rfl) (i := 3) rfl rfl ?_)
  refine sx rfl (stp_len sl_RunS rfl h6_1 ?_)
  refine sx rfl (stp_move (v := I 0) rfl ?_)
  refine sx_nil ?_
  refine wp_block ?_
  refine sx_loop (fun (m : Nat) (f : Nat → Value) (W : World) => ∃ (k : Nat), k ≤ y.runs.length ∧ (y.runs.take k).any (fun r => decide (r.state = 1)) = false ∧ m = y.runs.length - k ∧ f 6 = v6_1 ∧ f 7 = I (y.runs.length : Int) ∧ f 8 = I (k : Int) ∧ St w W ([Res.bx b1 [I y.now, I y.seq, v6_0, v6_1] 34])) (y.runs.length - 0) ?_ ?_
  · exact ⟨0, Nat.zero_le _, rfl, rfl, rfl, rfl, rfl, st4⟩
  intro m7 f8 W9 hJ10
  obtain ⟨k, hk, hany, rfl, hs12_6, hs12_7, hs12_8, st11⟩ := hJ10
  refine wp_seq ?_
  refine sx_region ?_
  refine sx rfl (stp_lss hs12_8 hs12_7 ?_)
  refine sx_nil ?_
  refine wp_seq ?_
  refine sx_if rfl (fun h13 => ?_) (fun h13 => ?_)
  · skip
    have h13p := of_decide_eq_true h13
    refine wp_skip ?_
    refine wp_seq ?_
    refine wp_block ?_
    refine wp_seq ?_
    refine sx_region ?_
    have hi24e2d : k < y.runs.length := (by omega)
    have hq_ := idx h6_1 (i := k) hi24e2d
    obtain ⟨b14, o14, cs14, f14, hp14, hr14, hc14, hm14⟩ := hq_
    refine sx rfl (stp_indexAddr sl_RunS hs12_6 hp14 hs12_8 rfl ?_)
    refine sx rfl (stp_load_rga ld_Run rfl rfl hr14 st11.below (Shape.len hc14) ?_)
    refine sx rfl (stp_alloc zz_Run st11 ?_); intro b15 W16 hb17 st18
    refine sx rfl (stp_store_all (cs := cs14) ld_Run hc14 rfl rfl st18 rfl ?_); intro W20 st21
    refine sx_nil ?_
    refine wp_seq ?_
    refine sx_region ?_
    refine sx rfl (stp_fieldAddr fa_Run_2 rfl ?_)
    have hk22 := hc14
    obtain ⟨v22_0, v22_1, g22_0, g22_1, rfl, hok22, h22_0, h22_1, rfl⟩ := hk22
    refine sx rfl (stp_load_bx ld_int rfl rfl (st21.get 0 rfl) (i := 6) rfl rfl ?_)
    refine sx rfl (stp_eql rfl rfl ?_)
    refine sx_nil ?_
    refine sx_if rfl (fun h23 => ?_) (fun h23 => ?_)
    · skip
      have h23p := of_decide_eq_true h23
      refine wp_seq ?_
      refine sx_region ?_
      refine sx rfl (stp_assign (v := .bool false) rfl ?_)
      refine sx_nil ?_
      refine wp_ret ?_; repeat (first | refine then_ret ?_ | refine blk_ret ?_)
      refine ret1 Tryz.results63 rfl ?_
      exact ⟨(congrArg (fun z => Ending.returned (.bool z)) (by unfold allOver; rw [any_get_t (k := k) (by omega) (by simp [h23p])]; rfl)), st21.bare⟩
    · skip
      have h23p := of_decide_eq_false h23
      refine wp_skip ?_
      refine sx_region ?_
      refine sx rfl (stp_add hs12_8 rfl (by (simp only [I64] at *; omega)) ?_)
      refine sx rfl (stp_move (v := I ((k : Int) + 1)) rfl ?_)
      refine sx_nil ?_
      have st24 := st21.f1
      have st25 := st24.d1
      exact ⟨_, y.runs.length - (k + 1), (by omega), rfl, k + 1, (by omega), (any_take_f (by omega) hany (decide_eq_false h23p)), rfl, hs12_6, hs12_7, rfl, st25⟩
  · skip
    have h13p := of_decide_eq_false h13
    refine wp_exit ?_
    refine wp_seq ?_
    refine sx_region ?_
    refine sx rfl (stp_assign (v := .bool true) rfl ?_)
    refine sx_nil ?_
    refine wp_ret ?_; repeat (first | refine then_ret ?_ | refine blk_ret ?_)
    refine ret1 Tryz.results63 rfl ?_
    obtain rfl : k = y.runs.length := by omega
    exact ⟨(congrArg (fun z => Ending.returned (.bool z)) (by unfold allOver; rw [List.take_length] at hany; rw [hany]; rfl)), st11.bare⟩
set_option maxHeartbeats 2000000 in
theorem AllOverS (w : World) {y : Yard} {cs : List Value} {fp : List Nat} (hc : Shape.C w cs y fp) (hw : y.wt ≤ 1048576) :
    Calls Tryz.prog 62 #[.agg cs.toArray] w fun e w' => e = .returned (.bool (allOver y)) ∧ St w w' [] := by
  have hyr : y.runs.length ≤ y.wt := by unfold Yard.wt wtL; omega
  refine enter1 Tryz.func62 rfl Tryz.ntmps62 (by decide) ?_
  refine wp_seq ?_
  refine sx_region ?_
  refine sx rfl (stp_box_agg (cs := cs) rfl (St.start w) ?_); intro b1 W2 hb3 st4
  refine sx rfl (stp_assign (v := .bool false) rfl ?_)
  refine sx_nil ?_
  refine wp_seq ?_
  refine wp_seq ?_
  refine sx_region ?_
  refine sx rfl (stp_assign (v := I 0) rfl ?_)
  refine sx_nil ?_
  refine wp_block ?_
  refine sx_loop (fun (m : Nat) (f : Nat → Value) (W : World) => ∃ (k : Nat), k ≤ y.runs.length ∧ (y.runs.take k).any (fun r => decide (r.state = 1)) = false ∧ m = y.runs.length - k ∧ f 1 = .pointer (some ⟨b1, 0, none⟩) ∧ f 3 = I (k : Int) ∧ St w W ([Res.bx b1 cs 34])) (y.runs.length - 0) ?_ ?_
  · exact ⟨0, Nat.zero_le _, rfl, rfl, rfl, rfl, st4⟩
  intro m6 f7 W8 hJ9
  obtain ⟨k, hk, hany, rfl, hs11_1, hs11_3, st10⟩ := hJ9
  refine wp_seq ?_
  refine wp_seq ?_
  refine sx_region ?_
  refine sx rfl (stp_move (v := I (k : Int)) hs11_3 ?_)
  refine sx rfl (stp_fieldAddr fa_Yard_3 hs11_1 ?_)
  have hk12 := hc
  obtain ⟨v12_0, v12_1, g12_0, g12_1, rfl, hok12, h12_0, h12_1, rfl⟩ := hk12
  refine sx rfl (stp_load_bx ld_RunS rfl rfl (st10.get 0 rfl) (i := 3) rfl rfl ?_)
  refine sx rfl (stp_len sl_RunS rfl h12_1 ?_)
  refine sx rfl (stp_lss rfl rfl ?_)
  refine sx_nil ?_
  refine sx_if rfl (fun h13 => ?_) (fun h13 => ?_)
  · skip
    have h13p := of_decide_eq_true h13
    refine wp_skip ?_
    refine wp_seq ?_
    refine wp_block ?_
    refine wp_seq ?_
    refine sx_region ?_
    refine sx rfl (stp_fieldAddr fa_Yard_3 hs11_1 ?_)
    refine sx rfl (stp_load_bx ld_RunS rfl rfl (st10.get 0 rfl) (i := 3) rfl rfl ?_)
    refine sx rfl (stp_move (v := I (k : Int)) hs11_3 ?_)
    have hi24e2d : k < y.runs.length := (by omega)
    have hq_ := idx h12_1 (i := k) hi24e2d
    obtain ⟨b14, o14, cs14, f14, hp14, hr14, hc14, hm14⟩ := hq_
    refine sx rfl (stp_indexAddr sl_RunS rfl hp14 rfl rfl ?_)
    refine sx rfl (stp_fieldAddr fa_Run_2 rfl ?_)
    have hk15 := hc14
    obtain ⟨v15_0, v15_1, g15_0, g15_1, rfl, hok15, h15_0, h15_1, rfl⟩ := hk15
    refine sx rfl (stp_load_rg ld_int rfl rfl hr14 st10.below (i := 6) rfl rfl ?_)
    refine sx rfl (stp_eql rfl rfl ?_)
    refine sx_nil ?_
    refine sx_if rfl (fun h16 => ?_) (fun h16 => ?_)
    · skip
      have h16p := of_decide_eq_true h16
      refine wp_seq ?_
      refine sx_region ?_
      refine sx rfl (stp_assign (v := .bool false) rfl ?_)
      refine sx_nil ?_
      refine wp_ret ?_; repeat (first | refine then_ret ?_ | refine blk_ret ?_)
      refine ret1 Tryz.results62 rfl ?_
      exact ⟨(congrArg (fun z => Ending.returned (.bool z)) (by unfold allOver; rw [any_get_t (k := k) (by omega) (by simp [h16p])]; rfl)), st10.bare⟩
    · skip
      have h16p := of_decide_eq_false h16
      refine wp_skip ?_
      refine sx_region ?_
      refine sx rfl (stp_move (v := I (k : Int)) hs11_3 ?_)
      refine sx rfl (stp_add rfl rfl (by (simp only [I64] at *; omega)) ?_)
      refine sx rfl (stp_assign (v := I ((k : Int) + 1)) rfl ?_)
      refine sx_nil ?_
      exact ⟨_, y.runs.length - (k + 1), (by omega), rfl, k + 1, (by omega), (any_take_f (by omega) hany (decide_eq_false h16p)), rfl, hs11_1, rfl, st10⟩
  · skip
    have h13p := of_decide_eq_false h13
    refine wp_exit ?_
    refine wp_seq ?_
    refine sx_region ?_
    refine sx rfl (stp_assign (v := .bool true) rfl ?_)
    refine sx_nil ?_
    refine wp_ret ?_; repeat (first | refine then_ret ?_ | refine blk_ret ?_)
    refine ret1 Tryz.results62 rfl ?_
    obtain rfl : k = y.runs.length := by omega
    exact ⟨(congrArg (fun z => Ending.returned (.bool z)) (by unfold allOver; rw [List.take_length] at hany; rw [hany]; rfl)), st10.bare⟩
end Go.Proofs.YtchnllpegfbleaaGreat
