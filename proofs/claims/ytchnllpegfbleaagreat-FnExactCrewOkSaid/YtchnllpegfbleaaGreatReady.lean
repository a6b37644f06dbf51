/-
  RunAt, Fresh, the entries, of the program and of the reference. (Printed by a program of this project's.)
-/
import Derived.Test.YtchnllpegfbleaaGreatLeft
import Derived.Test.YtchnllpegfbleaaGreatSxSlice
import Derived.Test.YtchnllpegfbleaaGreatIxOf
namespace Go.Proofs.YtchnllpegfbleaaGreat
set_option linter.unusedSimpArgs false
set_option linter.unusedVariables false
set_option maxRecDepth 100000
open Go.RowKit


def runIx (y : Yard) (id : Int) : Option Nat := if y.runs.length ≤ 8 then ixOf (fun r => decide (r.id = id)) y.runs else none
def runAt (y : Yard) (id : Int) : Int := ixI (runIx y id)
theorem runIx_lt {y : Yard} {id : Int} {k : Nat} (h : runIx y id = some k) : k < y.runs.length := by
  unfold runIx at h
  split at h
  · exact (ixOf_lt h).1
  · cases h
/-- Whether an entry's task stands ready. -/
def fresh (y : Yard) (e : Entry) : Bool :=
  match runIx y e.run with
  | none => false
  | some k => match y.runs[k]? with
    | none => false
    | some r => inB e.task 0 ((r.tasks.length : Int) - 1) && (match r.tasks[e.task.toNat]? with | some t => decide (t.state = 2) | none => false)
def readyOf (y : Yard) : List Entry := y.shelf.flatten.filter (fresh y)
theorem flat_to {α : Type} {xss : List (List α)} {k : Nat} (h : k < xss.length) : (xss.take (k + 1)).flatten = (xss.take k).flatten ++ xss[k] := by
  rw [List.take_succ_eq_append_getElem h, List.flatten_append, List.flatten_cons, List.flatten_nil, List.append_nil]
theorem flat_len {α : Type} : ∀ (xss : List (List α)), xss.flatten.length = (xss.map (fun y => y.length)).sum
  | [] => rfl
  | x :: xss => by simp [flat_len xss]
theorem flat_le (y : Yard) (k : Nat) : ((y.shelf.take k).flatten).length ≤ y.wt := by
  have h1 := flat_len (y.shelf.take k)
  have h2 := wtL_take_le (fun y : List Entry => y.length) y.shelf k
  unfold Yard.wt wtL
  omega
theorem filt_to {α : Type} {xs : List α} {p : α → Bool} {k : Nat} (h : k < xs.length) (hp : p xs[k] = true) : (xs.take (k + 1)).filter p = (xs.take k).filter p ++ [xs[k]] := by
  rw [List.take_succ_eq_append_getElem h, List.filter_append]; simp [hp]
theorem filt_to_f {α : Type} {xs : List α} {p : α → Bool} {k : Nat} (h : k < xs.length) (hp : p xs[k] = false) : (xs.take (k + 1)).filter p = (xs.take k).filter p := by
  rw [List.take_succ_eq_append_getElem h, List.filter_append]; simp [hp]

set_option maxHeartbeats 2000000 in
theorem RunAtC (w : World) {r : Run} {cs : List Value} {fp : List Nat} (hc : Shape.C w cs r fp) {b : Nat} {t : TypeId} {id : Int} (hB : (Res.bx b [I id] t).holds w) :
    Calls Tryz.prog 164 #[.agg cs.toArray, .pointer (some ⟨b, 0, none⟩)] w fun e w' => e = .returned (.bool (decide (r.id = id))) ∧ St w w' [] := by
  refine enter2 Tryz.func164 rfl Tryz.ntmps164 (by decide) ?_
  refine wp_seq ?_
  refine sx_region ?_
  refine sx rfl (stp_box_agg (cs := cs) rfl (St.start w) ?_); intro b1 W2 hb3 st4
  refine sx rfl (stp_assign (v := .bool false) rfl ?_)
  refine sx_nil ?_
  refine wp_seq ?_
  refine sx_region ?_
  refine sx rfl (stp_fieldAddr fa_Run_0 rfl ?_)
  have hk6 := hc
  obtain ⟨v6_0, v6_1, g6_0, g6_1, rfl, hok6, h6_0, h6_1, rfl⟩ := hk6
  refine sx rfl (stp_load_bx ld_int rfl rfl (st4.get 0 rfl) (i := 0) rfl rfl ?_)
  refine sx rfl (stp_load_rg ld_int rfl rfl (range_of_heap hB) st4.below (i := 0) rfl rfl ?_)
  refine sx rfl (stp_eql rfl rfl ?_)
  refine sx rfl (stp_assign (v := .bool (decide (r.id = id))) rfl ?_)
  refine sx_nil ?_
  refine wp_ret ?_; repeat (first | refine then_ret ?_ | refine blk_ret ?_)
  refine ret1 Tryz.results164 rfl ?_
  exact ⟨rfl, st4.bare⟩
set_option maxHeartbeats 2000000 in
theorem IndexRun (w : World) {v : Value} {xs : List Run} {fp : List Nat} (h : Sl w v xs fp) (F : FuncId) (capt : List Value) {fn : Func} (hfn : Tryz.prog.funcs[F]? = some fn) (hok : ((fn.name == "runtime.NumGoroutine") || fn.body.isNone) = false) (p : Run → Bool)
    (hF : ∀ (w1 : World) (i : Nat) (hi : i < xs.length) (cs : List Value) (f1 : List Nat), Below w.heap.size w w1 → Shape.C w1 cs xs[i] f1 → Calls Tryz.prog F (Value.agg cs.toArray :: capt).toArray w1 fun e w2 => e = .returned (.bool (p xs[i])) ∧ St w1 w2 []) :
    Calls Tryz.prog 163 #[v, .func (.func F) #[] capt.toArray] w fun e w' => e = .returned (I (ixI (ixOf p xs))) ∧ St w w' [] := by
  have hcap := h.len_le
  refine enter2 Tryz.func163 rfl Tryz.ntmps163 (by decide) ?_
  refine wp_seq ?_
  refine sx_region ?_
  refine sx rfl (stp_assign (v := I 0) rfl ?_)
  refine sx_nil ?_
  refine wp_seq ?_
  refine wp_seq ?_
  refine sx_region ?_
  refine sx rfl (stp_move (v := v) rfl ?_)
  refine sx rfl (stp_len sl_RunS rfl h ?_)
  refine sx rfl (stp_move (v := I 0) rfl ?_)
  refine sx_nil ?_
  refine wp_block ?_
  refine sx_loop (fun (m : Nat) (f : Nat → Value) (W : World) => ∃ (k : Nat), k ≤ xs.length ∧ (xs.take k).any p = false ∧ m = xs.length - k ∧ f 0 = v ∧ f 1 = .func (.func F) #[] capt.toArray ∧ f 7 = I (xs.length : Int) ∧ f 8 = I (k : Int) ∧ St w W ([])) (xs.length - 0) ?_ ?_
  · exact ⟨0, Nat.zero_le _, rfl, rfl, rfl, rfl, rfl, rfl, (St.start w)⟩
  intro m1 f2 W3 hJ4
  obtain ⟨k, hk, hany, rfl, hs6_0, hs6_1, hs6_7, hs6_8, st5⟩ := hJ4
  refine wp_seq ?_
  refine sx_region ?_
  refine sx rfl (stp_lss hs6_8 hs6_7 ?_)
  refine sx_nil ?_
  refine wp_seq ?_
  refine sx_if rfl (fun h7 => ?_) (fun h7 => ?_)
  · skip
    have h7p := of_decide_eq_true h7
    refine wp_skip ?_
    refine wp_seq ?_
    refine wp_block ?_
    refine wp_seq ?_
    refine sx_region ?_
    refine sx rfl (stp_move (v := I (k : Int)) hs6_8 ?_)
    refine sx rfl (stp_assign (v := I (k : Int)) rfl ?_)
    refine sx_nil ?_
    refine wp_seq ?_
    refine sx_region ?_
    refine sx rfl (stp_move (v := .func (.func F) #[] capt.toArray) hs6_1 ?_)
    refine sx rfl (stp_move (v := v) hs6_0 ?_)
    refine sx rfl (stp_move (v := I (k : Int)) rfl ?_)
    have hi51fab : k < xs.length := (by omega)
    have hq_ := idx h (i := k) hi51fab
    obtain ⟨b8, o8, cs8, f8, hp8, hr8, hc8, hm8⟩ := hq_
    refine sx rfl (stp_indexAddr sl_RunS rfl hp8 rfl rfl ?_)
    refine sx rfl (stp_load_rga ld_Run rfl rfl hr8 st5.below (Shape.len hc8) ?_)
    refine sx rfl (stp_callf (first := []) hfn hok rfl (mcons (v := .agg cs8.toArray) rfl mnil) ((hF W3 k (by omega) _ _ st5.below (C_below hc8 st5.below)).mono ?_)); rintro _ W9 ⟨rfl, hk10⟩; refine ⟨_, rfl, ?_⟩
    have st11 := St.call st5 hk10
    refine sx_nil ?_
    refine sx_if rfl (fun h12 => ?_) (fun h12 => ?_)
    · skip
      refine wp_seq ?_
      refine sx_region ?_
      refine sx rfl (stp_move (v := I (k : Int)) rfl ?_)
      refine sx rfl (stp_assign (v := I (k : Int)) rfl ?_)
      refine sx_nil ?_
      refine wp_ret ?_; repeat (first | refine then_ret ?_ | refine blk_ret ?_)
      refine ret1 Tryz.results163 rfl ?_
      exact ⟨(congrArg (fun z => Ending.returned (I z)) (by rw [ixOf_some (by omega) hany h12]; try rfl)), st11.bare⟩
    · skip
      refine wp_skip ?_
      refine sx_region ?_
      refine sx rfl (stp_add hs6_8 rfl (by (simp only [I64] at *; omega)) ?_)
      refine sx rfl (stp_move (v := I ((k : Int) + 1)) rfl ?_)
      refine sx_nil ?_
      exact ⟨_, xs.length - (k + 1), (by omega), rfl, k + 1, (by omega), (any_take_f (by omega) hany h12), rfl, hs6_0, hs6_1, hs6_7, rfl, st11⟩
  · skip
    have h7p := of_decide_eq_false h7
    refine wp_exit ?_
    refine wp_seq ?_
    refine sx_region ?_
    refine sx rfl (stp_assign (v := I (-1)) rfl ?_)
    refine sx_nil ?_
    refine wp_ret ?_; repeat (first | refine then_ret ?_ | refine blk_ret ?_)
    refine ret1 Tryz.results163 rfl ?_
    obtain rfl : k = xs.length := by omega
    rw [List.take_length] at hany
    exact ⟨(congrArg (fun z => Ending.returned (I z)) (by rw [ixOf_none hany]; try rfl)), st5.bare⟩
set_option maxHeartbeats 2000000 in
theorem RunAtI (w : World) {y : Yard} {cs : List Value} {fp : List Nat} (hc : Shape.C w cs y fp) (id : Int) (hw : y.wt ≤ 1048576) :
    Calls Tryz.prog 98 #[.agg cs.toArray, I id] w fun e w' => e = .returned (I (runAt y id)) ∧ St w w' [] := by
  have hyr : y.runs.length ≤ y.wt := by unfold Yard.wt wtL; omega
  refine enter2 Tryz.func98 rfl Tryz.ntmps98 (by decide) ?_
  refine wp_seq ?_
  refine sx_region ?_
  refine sx rfl (stp_box_agg (cs := cs) rfl (St.start w) ?_); intro b1 W2 hb3 st4
  refine sx rfl (stp_box_one (v := I id) rfl rfl st4 ?_); intro b6 W7 hb8 st9
  refine sx rfl (stp_assign (v := I 0) rfl ?_)
  refine sx_nil ?_
  refine wp_seq ?_
  refine wp_seq ?_
  refine sx_region ?_
  refine sx rfl (stp_fieldAddr fa_Yard_3 rfl ?_)
  have hk11 := hc
  obtain ⟨v11_0, v11_1, g11_0, g11_1, rfl, hok11, h11_0, h11_1, rfl⟩ := hk11
  refine sx rfl (stp_load_bx ld_RunS rfl rfl (st9.get 1 rfl) (i := 3) rfl rfl ?_)
  refine sx rfl (stp_len sl_RunS rfl h11_1 ?_)
  refine sx rfl (stp_gtr rfl rfl ?_)
  refine sx_nil ?_
  refine sx_if rfl (fun h12 => ?_) (fun h12 => ?_)
  · skip
    have h12p := of_decide_eq_true h12
    refine wp_seq ?_
    refine sx_region ?_
    refine sx rfl (stp_assign (v := I (-1)) rfl ?_)
    refine sx_nil ?_
    refine wp_ret ?_; repeat (first | refine then_ret ?_ | refine blk_ret ?_)
    refine ret1 Tryz.results98 rfl ?_
    exact ⟨(congrArg (fun z => Ending.returned (I z)) (by unfold runAt runIx; rw [if_neg (by omega)]; try rfl)), st9.bare⟩
  · skip
    have h12p := of_decide_eq_false h12
    refine wp_skip ?_
    refine wp_seq ?_
    refine sx_region ?_
    refine sx rfl (stp_fieldAddr fa_Yard_3 rfl ?_)
    refine sx rfl (stp_load_bx ld_RunS rfl rfl (st9.get 1 rfl) (i := 3) rfl rfl ?_)
    refine sx rfl (stp_makeFunc mnil (mcons (v := .pointer (some ⟨b6, 0, none⟩)) rfl mnil) ?_)
    refine sx rfl (stp_call2 Tryz.func163 rfl rfl rfl ((IndexRun W7 (h11_1.below st9.below) 164 [.pointer (some ⟨b6, 0, none⟩)] Tryz.func164 rfl (fun r => decide (r.id = id)) (fun w1 i hi cs f1 hb hc => RunAtC w1 hc (Res.below (st9.get 0 rfl) hb))).mono ?_)); rintro _ W13 ⟨rfl, hk14⟩; refine ⟨_, rfl, ?_⟩
    have st15 := St.call st9 hk14
    refine sx rfl (stp_assign (v := I (ixI (ixOf (fun r => decide (r.id = id)) y.runs))) rfl ?_)
    refine sx_nil ?_
    refine wp_ret ?_; repeat (first | refine then_ret ?_ | refine blk_ret ?_)
    refine ret1 Tryz.results98 rfl ?_
    exact ⟨(congrArg (fun z => Ending.returned (I z)) (by unfold runAt runIx; rw [if_pos (by omega)])), st15.bare⟩
set_option maxHeartbeats 2000000 in
theorem RunAtS (w : World) {y : Yard} {cs : List Value} {fp : List Nat} (hc : Shape.C w cs y fp) (id : Int) (hw : y.wt ≤ 1048576) :
    Calls Tryz.prog 90 #[.agg cs.toArray, I id] w fun e w' => e = .returned (I (runAt y id)) ∧ St w w' [] := by
  have hyr : y.runs.length ≤ y.wt := by unfold Yard.wt wtL; omega
  refine enter2 Tryz.func90 rfl Tryz.ntmps90 (by decide) ?_
  refine wp_seq ?_
  refine sx_region ?_
  refine sx rfl (stp_box_agg (cs := cs) rfl (St.start w) ?_); intro b1 W2 hb3 st4
  refine sx rfl (stp_assign (v := I 0) rfl ?_)
  refine sx_nil ?_
  refine wp_seq ?_
  refine wp_seq ?_
  refine sx_region ?_
  refine sx rfl (stp_assign (v := I 0) rfl ?_)
  refine sx_nil ?_
  refine wp_block ?_
  refine sx_loop (fun (m : Nat) (f : Nat → Value) (W : World) => ∃ (k : Nat), k ≤ y.runs.length ∧ (y.runs.take k).any (fun r : Run => decide (r.id = id)) = false ∧ m = y.runs.length - k ∧ f 1 = I id ∧ f 2 = .pointer (some ⟨b1, 0, none⟩) ∧ f 5 = I (k : Int) ∧ St w W ([Res.bx b1 cs 34])) (y.runs.length - 0) ?_ ?_
  · exact ⟨0, Nat.zero_le _, rfl, rfl, rfl, rfl, rfl, st4⟩
  intro m6 f7 W8 hJ9
  obtain ⟨k, hk, hany, rfl, hs11_1, hs11_2, hs11_5, st10⟩ := hJ9
  refine wp_seq ?_
  refine wp_seq ?_
  refine sx_region ?_
  refine sx rfl (stp_move (v := I (k : Int)) hs11_5 ?_)
  refine sx rfl (stp_fieldAddr fa_Yard_3 hs11_2 ?_)
  have hk12 := hc
  obtain ⟨v12_0, v12_1, g12_0, g12_1, rfl, hok12, h12_0, h12_1, rfl⟩ := hk12
  refine sx rfl (stp_load_bx ld_RunS rfl rfl (st10.get 0 rfl) (i := 3) rfl rfl ?_)
  refine sx rfl (stp_len sl_RunS rfl h12_1 ?_)
  refine sx rfl (stp_lss rfl rfl ?_)
  refine sx rfl (stp_move (v := .bool (decide ((k : Int) < (y.runs.length : Int)))) rfl ?_)
  rcases bd (decide ((k : Int) < (y.runs.length : Int))) with h13 | h13
  · skip
    have h13p := of_decide_eq_false h13
    iterate 4 refine sx_off (j := 5) (dd := 11) rfl rfl (by decide) (yl_off (e := decide ((k : Int) < (y.runs.length : Int))) rfl h13) ?_
    refine sx rfl (stp_pick_f (v := .bool false) ((rfl : _ = (.bool (decide ((k : Int) < (y.runs.length : Int))) : Value)).trans (congrArg Value.bool h13)) rfl ?_)
    refine sx_nil ?_
    refine sx_f rfl rfl ?_
    refine wp_exit ?_
    refine wp_seq ?_
    refine sx_region ?_
    refine sx rfl (stp_assign (v := I (-1)) rfl ?_)
    refine sx_nil ?_
    refine wp_ret ?_; repeat (first | refine then_ret ?_ | refine blk_ret ?_)
    refine ret1 Tryz.results90 rfl ?_
    obtain rfl : k = y.runs.length := by omega
    rw [List.take_length] at hany
    exact ⟨(congrArg (fun z => Ending.returned (I z)) (by unfold runAt runIx; rw [ixOf_none hany]; split <;> rfl)), st10.bare⟩
  · skip
    have h13p := of_decide_eq_true h13
    refine sx_on (j := 5) (dd := 11) rfl rfl (by decide) (yl_on (e := decide ((k : Int) < (y.runs.length : Int))) rfl h13) (stp_fieldAddr fa_Yard_3 hs11_2 ?_)
    refine sx_on (j := 5) (dd := 11) rfl rfl (by decide) (yl_on (e := decide ((k : Int) < (y.runs.length : Int))) rfl h13) (stp_load_bx ld_RunS rfl rfl (st10.get 0 rfl) (i := 3) rfl rfl ?_)
    refine sx_on (j := 5) (dd := 11) rfl rfl (by decide) (yl_on (e := decide ((k : Int) < (y.runs.length : Int))) rfl h13) (stp_len sl_RunS rfl h12_1 ?_)
    refine sx_on (j := 5) (dd := 11) rfl rfl (by decide) (yl_on (e := decide ((k : Int) < (y.runs.length : Int))) rfl h13) (stp_leq rfl rfl ?_)
    refine sx rfl (stp_pick_t (v := .bool (decide ((y.runs.length : Int) ≤ 8))) ((rfl : _ = (.bool (decide ((k : Int) < (y.runs.length : Int))) : Value)).trans (congrArg Value.bool h13)) rfl ?_)
    refine sx_nil ?_
    refine sx_if rfl (fun h14 => ?_) (fun h14 => ?_)
    · skip
      have h14p := of_decide_eq_true h14
      refine wp_skip ?_
      refine wp_seq ?_
      refine wp_block ?_
      refine wp_seq ?_
      refine sx_region ?_
      refine sx rfl (stp_fieldAddr fa_Yard_3 hs11_2 ?_)
      refine sx rfl (stp_load_bx ld_RunS rfl rfl (st10.get 0 rfl) (i := 3) rfl rfl ?_)
      refine sx rfl (stp_move (v := I (k : Int)) hs11_5 ?_)
      have hi24e2d : k < y.runs.length := (by omega)
      have hq_ := idx h12_1 (i := k) hi24e2d
      obtain ⟨b15, o15, cs15, f15, hp15, hr15, hc15, hm15⟩ := hq_
      refine sx rfl (stp_indexAddr sl_RunS rfl hp15 rfl rfl ?_)
      refine sx rfl (stp_fieldAddr fa_Run_0 rfl ?_)
      have hk16 := hc15
      obtain ⟨v16_0, v16_1, g16_0, g16_1, rfl, hok16, h16_0, h16_1, rfl⟩ := hk16
      refine sx rfl (stp_load_rg ld_int rfl rfl hr15 st10.below (i := 0) rfl rfl ?_)
      refine sx rfl (stp_move (v := I id) hs11_1 ?_)
      refine sx rfl (stp_eql rfl rfl ?_)
      refine sx_nil ?_
      refine sx_if rfl (fun h17 => ?_) (fun h17 => ?_)
      · skip
        have h17p := of_decide_eq_true h17
        refine wp_seq ?_
        refine sx_region ?_
        refine sx rfl (stp_move (v := I (k : Int)) hs11_5 ?_)
        refine sx rfl (stp_assign (v := I (k : Int)) rfl ?_)
        refine sx_nil ?_
        refine wp_ret ?_; repeat (first | refine then_ret ?_ | refine blk_ret ?_)
        refine ret1 Tryz.results90 rfl ?_
        exact ⟨(congrArg (fun z => Ending.returned (I z)) (by unfold runAt runIx; rw [if_pos (by omega), ixOf_some (by omega) hany h17]; try rfl)), st10.bare⟩
      · skip
        have h17p := of_decide_eq_false h17
        refine wp_skip ?_
        refine sx_region ?_
        refine sx rfl (stp_move (v := I (k : Int)) hs11_5 ?_)
        refine sx rfl (stp_add rfl rfl (by (simp only [I64] at *; omega)) ?_)
        refine sx rfl (stp_assign (v := I ((k : Int) + 1)) rfl ?_)
        refine sx_nil ?_
        exact ⟨_, y.runs.length - (k + 1), (by omega), rfl, k + 1, (by omega), (any_take_f (by omega) hany h17), rfl, hs11_1, hs11_2, rfl, st10⟩
    · skip
      have h14p := of_decide_eq_false h14
      refine wp_exit ?_
      refine wp_seq ?_
      refine sx_region ?_
      refine sx rfl (stp_assign (v := I (-1)) rfl ?_)
      refine sx_nil ?_
      refine wp_ret ?_; repeat (first | refine then_ret ?_ | refine blk_ret ?_)
      refine ret1 Tryz.results90 rfl ?_
      exact ⟨(congrArg (fun z => Ending.returned (I z)) (by unfold runAt runIx; rw [if_neg (by omega)]; try rfl)), st10.bare⟩
theorem runAt_none {y : Yard} {id : Int} (h : runIx y id = none) : runAt y id = -1 := by unfold runAt; rw [h]; rfl
theorem runAt_some {y : Yard} {id : Int} {k : Nat} (h : runIx y id = some k) : runAt y id = k := by unfold runAt; rw [h]; rfl

theorem RunAtI_n (w : World) {y : Yard} {cs : List Value} {fp : List Nat} (hc : Shape.C w cs y fp) (id : Int) (hw : y.wt ≤ 1048576) (h : runIx y id = none) :
    Calls Tryz.prog 98 #[.agg cs.toArray, I id] w fun e w' => e = .returned (I (-1)) ∧ St w w' [] := by
  have := RunAtI w hc id hw
  rwa [runAt_none h] at this
theorem RunAtI_s (w : World) {y : Yard} {cs : List Value} {fp : List Nat} (hc : Shape.C w cs y fp) (id : Int) (hw : y.wt ≤ 1048576) {i : Nat} (h : runIx y id = some i) :
    Calls Tryz.prog 98 #[.agg cs.toArray, I id] w fun e w' => e = .returned (I (i : Int)) ∧ St w w' [] := by
  have := RunAtI w hc id hw
  rwa [runAt_some h] at this
set_option maxHeartbeats 2000000 in
theorem FreshI_n (w : World) {y : Yard} {cs : List Value} {fp : List Nat} (hc : Shape.C w cs y fp) {e : Entry} {ds : List Value} {gp : List Nat} (hd : Shape.C w ds e gp) (hw : y.wt ≤ 1048576) (hix : runIx y e.run = none) :
    Calls Tryz.prog 165 #[.agg cs.toArray, .agg ds.toArray] w fun ee w' => ee = .returned (.bool (fresh y e)) ∧ St w w' [] := by
  refine enter2 Tryz.func165 rfl Tryz.ntmps165 (by decide) ?_
  refine wp_seq ?_
  refine sx_region ?_
  refine sx rfl (stp_box_agg (cs := cs) rfl (St.start w) ?_); intro b1 W2 hb3 st4
  refine sx rfl (stp_box_agg (cs := ds) rfl st4 ?_); intro b6 W7 hb8 st9
  refine sx rfl (stp_assign (v := .bool false) rfl ?_)
  refine sx_nil ?_
  refine wp_seq ?_
  refine sx_region ?_
  refine sx rfl (stp_load_bxa ld_Yard rfl rfl (st9.get 1 rfl) (Shape.len hc) ?_)
  refine sx rfl (stp_fieldAddr fa_Entry_2 rfl ?_)
  have hk11 := hd
  obtain ⟨he11, rfl, hok11⟩ := hk11
  have he11 : _ = [I e.prio, I e.seq, I e.run, I e.task] := he11
  subst he11
  refine sx rfl (stp_load_bx ld_int rfl rfl (st9.get 0 rfl) (i := 2) rfl rfl ?_)
  refine sx rfl (stp_call2 Tryz.func98 rfl rfl rfl ((RunAtI_n W7 (C_below hc st9.below) e.run hw hix).mono ?_)); rintro _ W12 ⟨rfl, hk13⟩; refine ⟨_, rfl, ?_⟩
  have st14 := St.call st9 hk13
  refine sx rfl (stp_assign (v := I (-1)) rfl ?_)
  refine sx_nil ?_
  refine wp_seq ?_
  rcases bd (decide (0 ≤ (-1))) with h16 | h16
  · skip
    have h16p := of_decide_eq_false h16
    refine sx_any [Pl.is (I (-1)), Pl.bool false, Pl.bool false, Pl.off, Pl.off, Pl.off, Pl.off, Pl.off, Pl.off, Pl.off, Pl.off, Pl.off, Pl.off, Pl.off, Pl.bool false, Pl.bool false, Pl.off, Pl.off, Pl.off, Pl.off, Pl.off, Pl.off, Pl.off, Pl.off, Pl.off, Pl.off, Pl.off, Pl.off, Pl.bool false, Pl.bool false] mix (by rfl) st14 ⟨(fun f W hst hbl hd hf => stp_move (v := I (-1)) ((hf 5 rfl).trans (show _ = I (-1) from rfl)) ⟨Below.refl _ _, rfl⟩), (fun f W hst hbl hd hf => stp_geq (hd 0 10 rfl rfl) rfl ⟨Below.refl _ _, congrArg Value.bool h16⟩), (fun f W hst hbl hd hf => stp_move (v := .bool false) (hd 1 11 rfl rfl) ⟨Below.refl _ _, rfl⟩), (fun f W hst hbl hd hf => rfl), (fun f W hst hbl hd hf => rfl), (fun f W hst hbl hd hf => rfl), (fun f W hst hbl hd hf => rfl), (fun f W hst hbl hd hf => rfl), (fun f W hst hbl hd hf => rfl), (fun f W hst hbl hd hf => rfl), (fun f W hst hbl hd hf => rfl), (fun f W hst hbl hd hf => rfl), (fun f W hst hbl hd hf => rfl), (fun f W hst hbl hd hf => rfl), (fun f W hst hbl hd hf => stp_pick_f (v := .bool false) (hd 2 12 rfl rfl) rfl ⟨Below.refl _ _, rfl⟩), (fun f W hst hbl hd hf => stp_move (v := .bool false) (hd 14 24 rfl rfl) ⟨Below.refl _ _, rfl⟩), (fun f W hst hbl hd hf => rfl), (fun f W hst hbl hd hf => rfl), (fun f W hst hbl hd hf => rfl), (fun f W hst hbl hd hf => rfl), (fun f W hst hbl hd hf => rfl), (fun f W hst hbl hd hf => rfl), (fun f W hst hbl hd hf => rfl), (fun f W hst hbl hd hf => rfl), (fun f W hst hbl hd hf => rfl), (fun f W hst hbl hd hf => rfl), (fun f W hst hbl hd hf => rfl), (fun f W hst hbl hd hf => rfl), (fun f W hst hbl hd hf => stp_pick_f (v := .bool false) (hd 15 25 rfl rfl) rfl ⟨Below.refl _ _, rfl⟩), (fun f W hst hbl hd hf => stp_assign (v := .bool false) (hd 28 38 rfl rfl) ⟨Below.refl _ _, rfl⟩), trivial⟩ ?_
    intro f17 W18 st19 hb20 hv21 hf22
    refine wp_ret ?_; repeat (first | refine then_ret ?_ | refine blk_ret ?_)
    refine ret1 Tryz.results165 (hv21 29 4 (by decide) rfl) ?_
    exact ⟨(congrArg (fun z => Ending.returned (.bool z)) (by unfold fresh; rw [hix])), st19.bare⟩
  · skip
    have h16p := of_decide_eq_true h16
    omega
set_option maxHeartbeats 2000000 in
theorem FreshI_s (w : World) {y : Yard} {cs : List Value} {fp : List Nat} (hc : Shape.C w cs y fp) {e : Entry} {ds : List Value} {gp : List Nat} (hd : Shape.C w ds e gp) (hw : y.wt ≤ 1048576) {i : Nat} (hix : runIx y e.run = some i) :
    Calls Tryz.prog 165 #[.agg cs.toArray, .agg ds.toArray] w fun ee w' => ee = .returned (.bool (fresh y e)) ∧ St w w' [] := by
  have hil := runIx_lt hix
  have hyk := yard_run hil
  have hrw : y.runs[i].tasks.length ≤ y.runs[i].wt := by unfold Run.wt; omega
  refine enter2 Tryz.func165 rfl Tryz.ntmps165 (by decide) ?_
  refine wp_seq ?_
  refine sx_region ?_
  refine sx rfl (stp_box_agg (cs := cs) rfl (St.start w) ?_); intro b1 W2 hb3 st4
  refine sx rfl (stp_box_agg (cs := ds) rfl st4 ?_); intro b6 W7 hb8 st9
  refine sx rfl (stp_assign (v := .bool false) rfl ?_)
  refine sx_nil ?_
  refine wp_seq ?_
  refine sx_region ?_
  refine sx rfl (stp_load_bxa ld_Yard rfl rfl (st9.get 1 rfl) (Shape.len hc) ?_)
  refine sx rfl (stp_fieldAddr fa_Entry_2 rfl ?_)
  have hk11 := hd
  obtain ⟨he11, rfl, hok11⟩ := hk11
  have he11 : _ = [I e.prio, I e.seq, I e.run, I e.task] := he11
  subst he11
  refine sx rfl (stp_load_bx ld_int rfl rfl (st9.get 0 rfl) (i := 2) rfl rfl ?_)
  refine sx rfl (stp_call2 Tryz.func98 rfl rfl rfl ((RunAtI_s W7 (C_below hc st9.below) e.run hw hix).mono ?_)); rintro _ W12 ⟨rfl, hk13⟩; refine ⟨_, rfl, ?_⟩
  have st14 := St.call st9 hk13
  refine sx rfl (stp_assign (v := I (i : Int)) rfl ?_)
  refine sx_nil ?_
  refine wp_seq ?_
  rcases bd (decide (0 ≤ (i : Int))) with h16 | h16
  · skip
    have h16p := of_decide_eq_false h16
    omega
  · skip
    have h16p := of_decide_eq_true h16
    have hk17 := hc
    obtain ⟨v17_0, v17_1, g17_0, g17_1, rfl, hok17, h17_0, h17_1, rfl⟩ := hk17
    have hia2a90 : i < y.runs.length := (by omega)
    rcases bd (inB e.task 0 (((y.runs[i]'hia2a90).tasks.length : Int) - 1)) with h20 | h20
    · skip
      have h20p := inB_not h20
      have hia2a90 : i < y.runs.length := (by omega)
      have hq_ := idx h17_1 (i := i) hia2a90
      obtain ⟨b21, o21, cs21, f21, hp21, hr21, hc21, hm21⟩ := hq_
      have hk22 := hc21
      obtain ⟨v22_0, v22_1, g22_0, g22_1, rfl, hok22, h22_0, h22_1, rfl⟩ := hk22
      refine sx_any [Pl.is (I (i : Int)), Pl.bool true, Pl.bool true, Pl.is (.pointer (some ⟨b6, 0 + 3, none⟩)), Pl.is (I e.task), Pl.is (.pointer (some ⟨b1, 0 + 3, none⟩)), Pl.is (v17_1) (Sl.yl h17_1), Pl.is (I (i : Int)), Pl.is (.pointer (some ⟨b21, o21, none⟩)), Pl.is (.pointer (some ⟨b21, o21 + 7, none⟩)), Pl.is (v22_1) (Sl.yl h22_1), Pl.is (I ((y.runs[i]'hia2a90).tasks.length : Int)), Pl.is (I (((y.runs[i]'hia2a90).tasks.length : Int) - 1)), Pl.bool (inB e.task 0 (((y.runs[i]'hia2a90).tasks.length : Int) - 1)), Pl.bool false, Pl.bool false, Pl.off, Pl.off, Pl.off, Pl.off, Pl.off, Pl.off, Pl.off, Pl.off, Pl.off, Pl.off, Pl.off, Pl.off, Pl.bool false, Pl.bool false] mix (by rfl) st14 ⟨(fun f W hst hbl hd hf => stp_move (v := I (i : Int)) ((hf 5 rfl).trans (show _ = I (i : Int) from rfl)) ⟨Below.refl _ _, rfl⟩), (fun f W hst hbl hd hf => stp_geq (hd 0 10 rfl rfl) rfl ⟨Below.refl _ _, congrArg Value.bool h16⟩), (fun f W hst hbl hd hf => stp_move (v := .bool true) (hd 1 11 rfl rfl) ⟨Below.refl _ _, rfl⟩), (fun f W hst hbl hd hf => stp_fieldAddr fa_Entry_3 ((hf 3 rfl).trans (show _ = (.pointer (some ⟨b6, 0, none⟩) : Value) from rfl)) ⟨Below.refl _ _, rfl⟩), (fun f W hst hbl hd hf => stp_load_bx ld_int rfl (hd 3 13 rfl rfl) (hst.get 0 rfl) (i := 3) rfl rfl ⟨Below.refl _ _, rfl⟩), (fun f W hst hbl hd hf => stp_fieldAddr fa_Yard_3 ((hf 2 rfl).trans (show _ = (.pointer (some ⟨b1, 0, none⟩) : Value) from rfl)) ⟨Below.refl _ _, rfl⟩), (fun f W hst hbl hd hf => stp_load_bx ld_RunS rfl (hd 5 15 rfl rfl) (hst.get 1 rfl) (i := 3) rfl rfl ⟨Below.refl _ _, rfl⟩), (fun f W hst hbl hd hf => stp_move (v := I (i : Int)) ((hf 5 rfl).trans (show _ = I (i : Int) from rfl)) ⟨Below.refl _ _, rfl⟩), (fun f W hst hbl hd hf => stp_indexAddr sl_RunS (hd 6 16 rfl rfl) hp21 (hd 7 17 rfl rfl) rfl ⟨Below.refl _ _, rfl⟩), (fun f W hst hbl hd hf => stp_fieldAddr fa_Run_3 (hd 8 18 rfl rfl) ⟨Below.refl _ _, rfl⟩), (fun f W hst hbl hd hf => stp_load_rg ld_TaskS rfl (hd 9 19 rfl rfl) hr21 hst.below (i := 7) rfl rfl ⟨Below.refl _ _, rfl⟩), (fun f W hst hbl hd hf => stp_len sl_TaskS (hd 10 20 rfl rfl) h22_1 ⟨Below.refl _ _, rfl⟩), (fun f W hst hbl hd hf => stp_sub (hd 11 21 rfl rfl) rfl (by (simp only [I64] at *; omega)) ⟨Below.refl _ _, rfl⟩), (fun f W hst hbl hd hf => stp_call3 Tryz.func47 rfl (hd 4 14 rfl rfl) rfl (hd 12 22 rfl rfl) ((within_n W e.task 0 (((y.runs[i]'hia2a90).tasks.length : Int) - 1)).mono (by rintro e W2 ⟨rfl, hk⟩; exact ⟨_, rfl, hk.below, rfl⟩))), (fun f W hst hbl hd hf => stp_pick_t (v := .bool (inB e.task 0 (((y.runs[i]'hia2a90).tasks.length : Int) - 1))) (hd 2 12 rfl rfl) (hd 13 23 rfl rfl) ⟨Below.refl _ _, congrArg Value.bool h20⟩), (fun f W hst hbl hd hf => stp_move (v := .bool false) (hd 14 24 rfl rfl) ⟨Below.refl _ _, rfl⟩), (fun f W hst hbl hd hf => rfl), (fun f W hst hbl hd hf => rfl), (fun f W hst hbl hd hf => rfl), (fun f W hst hbl hd hf => rfl), (fun f W hst hbl hd hf => rfl), (fun f W hst hbl hd hf => rfl), (fun f W hst hbl hd hf => rfl), (fun f W hst hbl hd hf => rfl), (fun f W hst hbl hd hf => rfl), (fun f W hst hbl hd hf => rfl), (fun f W hst hbl hd hf => rfl), (fun f W hst hbl hd hf => rfl), (fun f W hst hbl hd hf => stp_pick_f (v := .bool false) (hd 15 25 rfl rfl) rfl ⟨Below.refl _ _, rfl⟩), (fun f W hst hbl hd hf => stp_assign (v := .bool false) (hd 28 38 rfl rfl) ⟨Below.refl _ _, rfl⟩), trivial⟩ ?_
      intro f23 W24 st25 hb26 hv27 hf28
      refine wp_ret ?_; repeat (first | refine then_ret ?_ | refine blk_ret ?_)
      refine ret1 Tryz.results165 (hv27 29 4 (by decide) rfl) ?_
      exact ⟨(congrArg (fun z => Ending.returned (.bool z)) (by unfold fresh; rw [hix]; simp only [List.getElem?_eq_getElem hil, h20, Bool.false_and])), st25.bare⟩
    · skip
      have h20p := inB_iff'.1 h20
      have hia2a90 : i < y.runs.length := (by omega)
      have hq_ := idx h17_1 (i := i) hia2a90
      obtain ⟨b29, o29, cs29, f29, hp29, hr29, hc29, hm29⟩ := hq_
      have hk30 := hc29
      obtain ⟨v30_0, v30_1, g30_0, g30_1, rfl, hok30, h30_0, h30_1, rfl⟩ := hk30
      have hif34c4 : (e.task).toNat < (y.runs[i]'hia2a90).tasks.length := (by omega)
      have hq_ := idx h30_1 (i := (e.task).toNat) hif34c4
      obtain ⟨b31, o31, cs31, f31, hp31, hr31, hc31, hm31⟩ := hq_
      have hk32 := hc31
      obtain ⟨he32, rfl, hok32⟩ := hk32
      have he32 : _ = [I ((y.runs[i]'hia2a90).tasks[(e.task).toNat]'hif34c4).state, I ((y.runs[i]'hia2a90).tasks[(e.task).toNat]'hif34c4).need, I ((y.runs[i]'hia2a90).tasks[(e.task).toNat]'hif34c4).try_, I ((y.runs[i]'hia2a90).tasks[(e.task).toNat]'hif34c4).until_] := he32
      subst he32
      refine sx_any [Pl.is (I (i : Int)), Pl.bool true, Pl.bool true, Pl.is (.pointer (some ⟨b6, 0 + 3, none⟩)), Pl.is (I e.task), Pl.is (.pointer (some ⟨b1, 0 + 3, none⟩)), Pl.is (v17_1) (Sl.yl h17_1), Pl.is (I (i : Int)), Pl.is (.pointer (some ⟨b29, o29, none⟩)), Pl.is (.pointer (some ⟨b29, o29 + 7, none⟩)), Pl.is (v30_1) (Sl.yl h30_1), Pl.is (I ((y.runs[i]'hia2a90).tasks.length : Int)), Pl.is (I (((y.runs[i]'hia2a90).tasks.length : Int) - 1)), Pl.bool (inB e.task 0 (((y.runs[i]'hia2a90).tasks.length : Int) - 1)), Pl.bool true, Pl.bool true, Pl.is (.pointer (some ⟨b1, 0 + 3, none⟩)), Pl.is (v17_1) (Sl.yl h17_1), Pl.is (I (i : Int)), Pl.is (.pointer (some ⟨b29, o29, none⟩)), Pl.is (.pointer (some ⟨b29, o29 + 7, none⟩)), Pl.is (v30_1) (Sl.yl h30_1), Pl.is (.pointer (some ⟨b6, 0 + 3, none⟩)), Pl.is (I e.task), Pl.is (.pointer (some ⟨b31, o31, none⟩)), Pl.is (.pointer (some ⟨b31, o31 + 0, none⟩)), Pl.is (I ((y.runs[i]'hia2a90).tasks[(e.task).toNat]'hif34c4).state), Pl.bool (decide (((y.runs[i]'hia2a90).tasks[(e.task).toNat]'hif34c4).state = 2)), Pl.bool (decide (((y.runs[i]'hia2a90).tasks[(e.task).toNat]'hif34c4).state = 2)), Pl.bool (decide (((y.runs[i]'hia2a90).tasks[(e.task).toNat]'hif34c4).state = 2))] mix (by rfl) st14 ⟨(fun f W hst hbl hd hf => stp_move (v := I (i : Int)) ((hf 5 rfl).trans (show _ = I (i : Int) from rfl)) ⟨Below.refl _ _, rfl⟩), (fun f W hst hbl hd hf => stp_geq (hd 0 10 rfl rfl) rfl ⟨Below.refl _ _, congrArg Value.bool h16⟩), (fun f W hst hbl hd hf => stp_move (v := .bool true) (hd 1 11 rfl rfl) ⟨Below.refl _ _, rfl⟩), (fun f W hst hbl hd hf => stp_fieldAddr fa_Entry_3 ((hf 3 rfl).trans (show _ = (.pointer (some ⟨b6, 0, none⟩) : Value) from rfl)) ⟨Below.refl _ _, rfl⟩), (fun f W hst hbl hd hf => stp_load_bx ld_int rfl (hd 3 13 rfl rfl) (hst.get 0 rfl) (i := 3) rfl rfl ⟨Below.refl _ _, rfl⟩), (fun f W hst hbl hd hf => stp_fieldAddr fa_Yard_3 ((hf 2 rfl).trans (show _ = (.pointer (some ⟨b1, 0, none⟩) : Value) from rfl)) ⟨Below.refl _ _, rfl⟩), (fun f W hst hbl hd hf => stp_load_bx ld_RunS rfl (hd 5 15 rfl rfl) (hst.get 1 rfl) (i := 3) rfl rfl ⟨Below.refl _ _, rfl⟩), (fun f W hst hbl hd hf => stp_move (v := I (i : Int)) ((hf 5 rfl).trans (show _ = I (i : Int) from rfl)) ⟨Below.refl _ _, rfl⟩), (fun f W hst hbl hd hf => stp_indexAddr sl_RunS (hd 6 16 rfl rfl) hp29 (hd 7 17 rfl rfl) rfl ⟨Below.refl _ _, rfl⟩), (fun f W hst hbl hd hf => stp_fieldAddr fa_Run_3 (hd 8 18 rfl rfl) ⟨Below.refl _ _, rfl⟩), (fun f W hst hbl hd hf => stp_load_rg ld_TaskS rfl (hd 9 19 rfl rfl) hr29 hst.below (i := 7) rfl rfl ⟨Below.refl _ _, rfl⟩), (fun f W hst hbl hd hf => stp_len sl_TaskS (hd 10 20 rfl rfl) h30_1 ⟨Below.refl _ _, rfl⟩), (fun f W hst hbl hd hf => stp_sub (hd 11 21 rfl rfl) rfl (by (simp only [I64] at *; omega)) ⟨Below.refl _ _, rfl⟩), (fun f W hst hbl hd hf => stp_call3 Tryz.func47 rfl (hd 4 14 rfl rfl) rfl (hd 12 22 rfl rfl) ((within_n W e.task 0 (((y.runs[i]'hia2a90).tasks.length : Int) - 1)).mono (by rintro e W2 ⟨rfl, hk⟩; exact ⟨_, rfl, hk.below, rfl⟩))), (fun f W hst hbl hd hf => stp_pick_t (v := .bool (inB e.task 0 (((y.runs[i]'hia2a90).tasks.length : Int) - 1))) (hd 2 12 rfl rfl) (hd 13 23 rfl rfl) ⟨Below.refl _ _, congrArg Value.bool h20⟩), (fun f W hst hbl hd hf => stp_move (v := .bool true) (hd 14 24 rfl rfl) ⟨Below.refl _ _, rfl⟩), (fun f W hst hbl hd hf => stp_fieldAddr fa_Yard_3 ((hf 2 rfl).trans (show _ = (.pointer (some ⟨b1, 0, none⟩) : Value) from rfl)) ⟨Below.refl _ _, rfl⟩), (fun f W hst hbl hd hf => stp_load_bx ld_RunS rfl (hd 16 26 rfl rfl) (hst.get 1 rfl) (i := 3) rfl rfl ⟨Below.refl _ _, rfl⟩), (fun f W hst hbl hd hf => stp_move (v := I (i : Int)) ((hf 5 rfl).trans (show _ = I (i : Int) from rfl)) ⟨Below.refl _ _, rfl⟩), (fun f W hst hbl hd hf => stp_indexAddr sl_RunS (hd 17 27 rfl rfl) hp29 (hd 18 28 rfl rfl) rfl ⟨Below.refl _ _, rfl⟩), (fun f W hst hbl hd hf => stp_fieldAddr fa_Run_3 (hd 19 29 rfl rfl) ⟨Below.refl _ _, rfl⟩), (fun f W hst hbl hd hf => stp_load_rg ld_TaskS rfl (hd 20 30 rfl rfl) hr29 hst.below (i := 7) rfl rfl ⟨Below.refl _ _, rfl⟩), (fun f W hst hbl hd hf => stp_fieldAddr fa_Entry_3 ((hf 3 rfl).trans (show _ = (.pointer (some ⟨b6, 0, none⟩) : Value) from rfl)) ⟨Below.refl _ _, rfl⟩), (fun f W hst hbl hd hf => stp_load_bx ld_int rfl (hd 22 32 rfl rfl) (hst.get 0 rfl) (i := 3) rfl rfl ⟨Below.refl _ _, rfl⟩), (fun f W hst hbl hd hf => stp_indexAddr sl_TaskS (hd 21 31 rfl rfl) hp31 (hd 23 33 rfl rfl) (by omega) ⟨Below.refl _ _, rfl⟩), (fun f W hst hbl hd hf => stp_fieldAddr fa_Task_0 (hd 24 34 rfl rfl) ⟨Below.refl _ _, rfl⟩), (fun f W hst hbl hd hf => stp_load_rg ld_int rfl (hd 25 35 rfl rfl) hr31 hst.below (i := 0) rfl rfl ⟨Below.refl _ _, rfl⟩), (fun f W hst hbl hd hf => stp_eql (hd 26 36 rfl rfl) rfl ⟨Below.refl _ _, rfl⟩), (fun f W hst hbl hd hf => stp_pick_t (v := .bool (decide (((y.runs[i]'hia2a90).tasks[(e.task).toNat]'hif34c4).state = 2))) (hd 15 25 rfl rfl) (hd 27 37 rfl rfl) ⟨Below.refl _ _, rfl⟩), (fun f W hst hbl hd hf => stp_assign (v := .bool (decide (((y.runs[i]'hia2a90).tasks[(e.task).toNat]'hif34c4).state = 2))) (hd 28 38 rfl rfl) ⟨Below.refl _ _, rfl⟩), trivial⟩ ?_
      intro f33 W34 st35 hb36 hv37 hf38
      refine wp_ret ?_; repeat (first | refine then_ret ?_ | refine blk_ret ?_)
      refine ret1 Tryz.results165 (hv37 29 4 (by decide) rfl) ?_
      exact ⟨(congrArg (fun z => Ending.returned (.bool z)) (by unfold fresh; rw [hix]; simp only [List.getElem?_eq_getElem hil, h20, Bool.true_and]; rw [List.getElem?_eq_getElem (by omega)])), st35.bare⟩
theorem FreshI (w : World) {y : Yard} {cs : List Value} {fp : List Nat} (hc : Shape.C w cs y fp) {e : Entry} {ds : List Value} {gp : List Nat} (hd : Shape.C w ds e gp) (hw : y.wt ≤ 1048576)  :
    Calls Tryz.prog 165 #[.agg cs.toArray, .agg ds.toArray] w fun ee w' => ee = .returned (.bool (fresh y e)) ∧ St w w' [] := by
  cases hix : runIx y e.run with
  | none => exact FreshI_n w hc hd hw hix
  | some i => exact FreshI_s w hc hd hw hix
theorem RunAtS_n (w : World) {y : Yard} {cs : List Value} {fp : List Nat} (hc : Shape.C w cs y fp) (id : Int) (hw : y.wt ≤ 1048576) (h : runIx y id = none) :
    Calls Tryz.prog 90 #[.agg cs.toArray, I id] w fun e w' => e = .returned (I (-1)) ∧ St w w' [] := by
  have := RunAtS w hc id hw
  rwa [runAt_none h] at this
theorem RunAtS_s (w : World) {y : Yard} {cs : List Value} {fp : List Nat} (hc : Shape.C w cs y fp) (id : Int) (hw : y.wt ≤ 1048576) {i : Nat} (h : runIx y id = some i) :
    Calls Tryz.prog 90 #[.agg cs.toArray, I id] w fun e w' => e = .returned (I (i : Int)) ∧ St w w' [] := by
  have := RunAtS w hc id hw
  rwa [runAt_some h] at this
set_option maxHeartbeats 2000000 in
theorem FreshS_n (w : World) {y : Yard} {cs : List Value} {fp : List Nat} (hc : Shape.C w cs y fp) {e : Entry} {ds : List Value} {gp : List Nat} (hd : Shape.C w ds e gp) (hw : y.wt ≤ 1048576) (hix : runIx y e.run = none) :
    Calls Tryz.prog 158 #[.agg cs.toArray, .agg ds.toArray] w fun ee w' => ee = .returned (.bool (fresh y e)) ∧ St w w' [] := by
  refine enter2 Tryz.func158 rfl Tryz.ntmps158 (by decide) ?_
  refine wp_seq ?_
  refine sx_region ?_
  refine sx rfl (stp_box_agg (cs := cs) rfl (St.start w) ?_); intro b1 W2 hb3 st4
  refine sx rfl (stp_box_agg (cs := ds) rfl st4 ?_); intro b6 W7 hb8 st9
  refine sx rfl (stp_assign (v := .bool false) rfl ?_)
  refine sx_nil ?_
  refine wp_seq ?_
  refine sx_region ?_
  refine sx rfl (stp_load_bxa ld_Yard rfl rfl (st9.get 1 rfl) (Shape.len hc) ?_)
  refine sx rfl (stp_fieldAddr fa_Entry_2 rfl ?_)
  have hk11 := hd
  obtain ⟨he11, rfl, hok11⟩ := hk11
  have he11 : _ = [I e.prio, I e.seq, I e.run, I e.task] := he11
  subst he11
  refine sx rfl (stp_load_bx ld_int rfl rfl (st9.get 0 rfl) (i := 2) rfl rfl ?_)
  refine sx rfl (stp_call2 Tryz.func90 rfl rfl rfl ((RunAtS_n W7 (C_below hc st9.below) e.run hw hix).mono ?_)); rintro _ W12 ⟨rfl, hk13⟩; refine ⟨_, rfl, ?_⟩
  have st14 := St.call st9 hk13
  refine sx rfl (stp_assign (v := I (-1)) rfl ?_)
  refine sx_nil ?_
  refine wp_seq ?_
  rcases bd (decide (0 ≤ (-1))) with h16 | h16
  · skip
    have h16p := of_decide_eq_false h16
    refine sx_any [Pl.is (I (-1)), Pl.bool false, Pl.bool false, Pl.off, Pl.off, Pl.off, Pl.off, Pl.off, Pl.off, Pl.off, Pl.off, Pl.off, Pl.off, Pl.off, Pl.bool false, Pl.bool false, Pl.off, Pl.off, Pl.off, Pl.off, Pl.off, Pl.off, Pl.off, Pl.off, Pl.off, Pl.off, Pl.off, Pl.off, Pl.bool false, Pl.bool false] mix (by rfl) st14 ⟨(fun f W hst hbl hd hf => stp_move (v := I (-1)) ((hf 5 rfl).trans (show _ = I (-1) from rfl)) ⟨Below.refl _ _, rfl⟩), (fun f W hst hbl hd hf => stp_geq (hd 0 10 rfl rfl) rfl ⟨Below.refl _ _, congrArg Value.bool h16⟩), (fun f W hst hbl hd hf => stp_move (v := .bool false) (hd 1 11 rfl rfl) ⟨Below.refl _ _, rfl⟩), (fun f W hst hbl hd hf => rfl), (fun f W hst hbl hd hf => rfl), (fun f W hst hbl hd hf => rfl), (fun f W hst hbl hd hf => rfl), (fun f W hst hbl hd hf => rfl), (fun f W hst hbl hd hf => rfl), (fun f W hst hbl hd hf => rfl), (fun f W hst hbl hd hf => rfl), (fun f W hst hbl hd hf => rfl), (fun f W hst hbl hd hf => rfl), (fun f W hst hbl hd hf => rfl), (fun f W hst hbl hd hf => stp_pick_f (v := .bool false) (hd 2 12 rfl rfl) rfl ⟨Below.refl _ _, rfl⟩), (fun f W hst hbl hd hf => stp_move (v := .bool false) (hd 14 24 rfl rfl) ⟨Below.refl _ _, rfl⟩), (fun f W hst hbl hd hf => rfl), (fun f W hst hbl hd hf => rfl), (fun f W hst hbl hd hf => rfl), (fun f W hst hbl hd hf => rfl), (fun f W hst hbl hd hf => rfl), (fun f W hst hbl hd hf => rfl), (fun f W hst hbl hd hf => rfl), (fun f W hst hbl hd hf => rfl), (fun f W hst hbl hd hf => rfl), (fun f W hst hbl hd hf => rfl), (fun f W hst hbl hd hf => rfl), (fun f W hst hbl hd hf => rfl), (fun f W hst hbl hd hf => stp_pick_f (v := .bool false) (hd 15 25 rfl rfl) rfl ⟨Below.refl _ _, rfl⟩), (fun f W hst hbl hd hf => stp_assign (v := .bool false) (hd 28 38 rfl rfl) ⟨Below.refl _ _, rfl⟩), trivial⟩ ?_
    intro f17 W18 st19 hb20 hv21 hf22
    refine wp_ret ?_; repeat (first | refine then_ret ?_ | refine blk_ret ?_)
    refine ret1 Tryz.results158 (hv21 29 4 (by decide) rfl) ?_
    exact ⟨(congrArg (fun z => Ending.returned (.bool z)) (by unfold fresh; rw [hix])), st19.bare⟩
  · skip
    have h16p := of_decide_eq_true h16
    omega
set_option maxHeartbeats 2000000 in
theorem FreshS_s (w : World) {y : Yard} {cs : List Value} {fp : List Nat} (hc : Shape.C w cs y fp) {e : Entry} {ds : List Value} {gp : List Nat} (hd : Shape.C w ds e gp) (hw : y.wt ≤ 1048576) {i : Nat} (hix : runIx y e.run = some i) :
    Calls Tryz.prog 158 #[.agg cs.toArray, .agg ds.toArray] w fun ee w' => ee = .returned (.bool (fresh y e)) ∧ St w w' [] := by
  have hil := runIx_lt hix
  have hyk := yard_run hil
  have hrw : y.runs[i].tasks.length ≤ y.runs[i].wt := by unfold Run.wt; omega
  refine enter2 Tryz.func158 rfl Tryz.ntmps158 (by decide) ?_
  refine wp_seq ?_
  refine sx_region ?_
  refine sx rfl (stp_box_agg (cs := cs) rfl (St.start w) ?_); intro b1 W2 hb3 st4
  refine sx rfl (stp_box_agg (cs := ds) rfl st4 ?_); intro b6 W7 hb8 st9
  refine sx rfl (stp_assign (v := .bool false) rfl ?_)
  refine sx_nil ?_
  refine wp_seq ?_
  refine sx_region ?_
  refine sx rfl (stp_load_bxa ld_Yard rfl rfl (st9.get 1 rfl) (Shape.len hc) ?_)
  refine sx rfl (stp_fieldAddr fa_Entry_2 rfl ?_)
  have hk11 := hd
  obtain ⟨he11, rfl, hok11⟩ := hk11
  have he11 : _ = [I e.prio, I e.seq, I e.run, I e.task] := he11
  subst he11
  refine sx rfl (stp_load_bx ld_int rfl rfl (st9.get 0 rfl) (i := 2) rfl rfl ?_)
  refine sx rfl (stp_call2 Tryz.func90 rfl rfl rfl ((RunAtS_s W7 (C_below hc st9.below) e.run hw hix).mono ?_)); rintro _ W12 ⟨rfl, hk13⟩; refine ⟨_, rfl, ?_⟩
  have st14 := St.call st9 hk13
  refine sx rfl (stp_assign (v := I (i : Int)) rfl ?_)
  refine sx_nil ?_
  refine wp_seq ?_
  rcases bd (decide (0 ≤ (i : Int))) with h16 | h16
  · skip
    have h16p := of_decide_eq_false h16
    omega
  · skip
    have h16p := of_decide_eq_true h16
    have hk17 := hc
    obtain ⟨v17_0, v17_1, g17_0, g17_1, rfl, hok17, h17_0, h17_1, rfl⟩ := hk17
    have hia2a90 : i < y.runs.length := (by omega)
    rcases bd (inB e.task 0 (((y.runs[i]'hia2a90).tasks.length : Int) - 1)) with h20 | h20
    · skip
      have h20p := inB_not h20
      have hia2a90 : i < y.runs.length := (by omega)
      have hq_ := idx h17_1 (i := i) hia2a90
      obtain ⟨b21, o21, cs21, f21, hp21, hr21, hc21, hm21⟩ := hq_
      have hk22 := hc21
      obtain ⟨v22_0, v22_1, g22_0, g22_1, rfl, hok22, h22_0, h22_1, rfl⟩ := hk22
      refine sx_any [Pl.is (I (i : Int)), Pl.bool true, Pl.bool true, Pl.is (.pointer (some ⟨b6, 0 + 3, none⟩)), Pl.is (I e.task), Pl.is (.pointer (some ⟨b1, 0 + 3, none⟩)), Pl.is (v17_1) (Sl.yl h17_1), Pl.is (I (i : Int)), Pl.is (.pointer (some ⟨b21, o21, none⟩)), Pl.is (.pointer (some ⟨b21, o21 + 7, none⟩)), Pl.is (v22_1) (Sl.yl h22_1), Pl.is (I ((y.runs[i]'hia2a90).tasks.length : Int)), Pl.is (I (((y.runs[i]'hia2a90).tasks.length : Int) - 1)), Pl.bool (inB e.task 0 (((y.runs[i]'hia2a90).tasks.length : Int) - 1)), Pl.bool false, Pl.bool false, Pl.off, Pl.off, Pl.off, Pl.off, Pl.off, Pl.off, Pl.off, Pl.off, Pl.off, Pl.off, Pl.off, Pl.off, Pl.bool false, Pl.bool false] mix (by rfl) st14 ⟨(fun f W hst hbl hd hf => stp_move (v := I (i : Int)) ((hf 5 rfl).trans (show _ = I (i : Int) from rfl)) ⟨Below.refl _ _, rfl⟩), (fun f W hst hbl hd hf => stp_geq (hd 0 10 rfl rfl) rfl ⟨Below.refl _ _, congrArg Value.bool h16⟩), (fun f W hst hbl hd hf => stp_move (v := .bool true) (hd 1 11 rfl rfl) ⟨Below.refl _ _, rfl⟩), (fun f W hst hbl hd hf => stp_fieldAddr fa_Entry_3 ((hf 3 rfl).trans (show _ = (.pointer (some ⟨b6, 0, none⟩) : Value) from rfl)) ⟨Below.refl _ _, rfl⟩), (fun f W hst hbl hd hf => stp_load_bx ld_int rfl (hd 3 13 rfl rfl) (hst.get 0 rfl) (i := 3) rfl rfl ⟨Below.refl _ _, rfl⟩), (fun f W hst hbl hd hf => stp_fieldAddr fa_Yard_3 ((hf 2 rfl).trans (show _ = (.pointer (some ⟨b1, 0, none⟩) : Value) from rfl)) ⟨Below.refl _ _, rfl⟩), (fun f W hst hbl hd hf => stp_load_bx ld_RunS rfl (hd 5 15 rfl rfl) (hst.get 1 rfl) (i := 3) rfl rfl ⟨Below.refl _ _, rfl⟩), (fun f W hst hbl hd hf => stp_move (v := I (i : Int)) ((hf 5 rfl).trans (show _ = I (i : Int) from rfl)) ⟨Below.refl _ _, rfl⟩), (fun f W hst hbl hd hf => stp_indexAddr sl_RunS (hd 6 16 rfl rfl) hp21 (hd 7 17 rfl rfl) rfl ⟨Below.refl _ _, rfl⟩), (fun f W hst hbl hd hf => stp_fieldAddr fa_Run_3 (hd 8 18 rfl rfl) ⟨Below.refl _ _, rfl⟩), (fun f W hst hbl hd hf => stp_load_rg ld_TaskS rfl (hd 9 19 rfl rfl) hr21 hst.below (i := 7) rfl rfl ⟨Below.refl _ _, rfl⟩), (fun f W hst hbl hd hf => stp_len sl_TaskS (hd 10 20 rfl rfl) h22_1 ⟨Below.refl _ _, rfl⟩), (fun f W hst hbl hd hf => stp_sub (hd 11 21 rfl rfl) rfl (by (simp only [I64] at *; omega)) ⟨Below.refl _ _, rfl⟩), (fun f W hst hbl hd hf => stp_call3 Tryz.func43 rfl (hd 4 14 rfl rfl) rfl (hd 12 22 rfl rfl) ((l01In_n W e.task 0 (((y.runs[i]'hia2a90).tasks.length : Int) - 1)).mono (by rintro e W2 ⟨rfl, hk⟩; exact ⟨_, rfl, hk.below, rfl⟩))), (fun f W hst hbl hd hf => stp_pick_t (v := .bool (inB e.task 0 (((y.runs[i]'hia2a90).tasks.length : Int) - 1))) (hd 2 12 rfl rfl) (hd 13 23 rfl rfl) ⟨Below.refl _ _, congrArg Value.bool h20⟩), (fun f W hst hbl hd hf => stp_move (v := .bool false) (hd 14 24 rfl rfl) ⟨Below.refl _ _, rfl⟩), (fun f W hst hbl hd hf => rfl), (fun f W hst hbl hd hf => rfl), (fun f W hst hbl hd hf => rfl), (fun f W hst hbl hd hf => rfl), (fun f W hst hbl hd hf => rfl), (fun f W hst hbl hd hf => rfl), (fun f W hst hbl hd hf => rfl), (fun f W hst hbl hd hf => rfl), (fun f W hst hbl hd hf => rfl), (fun f W hst hbl hd hf => rfl), (fun f W hst hbl hd hf => rfl), (fun f W hst hbl hd hf => rfl), (fun f W hst hbl hd hf => stp_pick_f (v := .bool false) (hd 15 25 rfl rfl) rfl ⟨Below.refl _ _, rfl⟩), (fun f W hst hbl hd hf => stp_assign (v := .bool false) (hd 28 38 rfl rfl) ⟨Below.refl _ _, rfl⟩), trivial⟩ ?_
      intro f23 W24 st25 hb26 hv27 hf28
      refine wp_ret ?_; repeat (first | refine then_ret ?_ | refine blk_ret ?_)
      refine ret1 Tryz.results158 (hv27 29 4 (by decide) rfl) ?_
      exact ⟨(congrArg (fun z => Ending.returned (.bool z)) (by unfold fresh; rw [hix]; simp only [List.getElem?_eq_getElem hil, h20, Bool.false_and])), st25.bare⟩
    · skip
      have h20p := inB_iff'.1 h20
      have hia2a90 : i < y.runs.length := (by omega)
      have hq_ := idx h17_1 (i := i) hia2a90
      obtain ⟨b29, o29, cs29, f29, hp29, hr29, hc29, hm29⟩ := hq_
      have hk30 := hc29
      obtain ⟨v30_0, v30_1, g30_0, g30_1, rfl, hok30, h30_0, h30_1, rfl⟩ := hk30
      have hif34c4 : (e.task).toNat < (y.runs[i]'hia2a90).tasks.length := (by omega)
      have hq_ := idx h30_1 (i := (e.task).toNat) hif34c4
      obtain ⟨b31, o31, cs31, f31, hp31, hr31, hc31, hm31⟩ := hq_
      have hk32 := hc31
      obtain ⟨he32, rfl, hok32⟩ := hk32
      have he32 : _ = [I ((y.runs[i]'hia2a90).tasks[(e.task).toNat]'hif34c4).state, I ((y.runs[i]'hia2a90).tasks[(e.task).toNat]'hif34c4).need, I ((y.runs[i]'hia2a90).tasks[(e.task).toNat]'hif34c4).try_, I ((y.runs[i]'hia2a90).tasks[(e.task).toNat]'hif34c4).until_] := he32
      subst he32
      refine sx_any [Pl.is (I (i : Int)), Pl.bool true, Pl.bool true, Pl.is (.pointer (some ⟨b6, 0 + 3, none⟩)), Pl.is (I e.task), Pl.is (.pointer (some ⟨b1, 0 + 3, none⟩)), Pl.is (v17_1) (Sl.yl h17_1), Pl.is (I (i : Int)), Pl.is (.pointer (some ⟨b29, o29, none⟩)), Pl.is (.pointer (some ⟨b29, o29 + 7, none⟩)), Pl.is (v30_1) (Sl.yl h30_1), Pl.is (I ((y.runs[i]'hia2a90).tasks.length : Int)), Pl.is (I (((y.runs[i]'hia2a90).tasks.length : Int) - 1)), Pl.bool (inB e.task 0 (((y.runs[i]'hia2a90).tasks.length : Int) - 1)), Pl.bool true, Pl.bool true, Pl.is (.pointer (some ⟨b1, 0 + 3, none⟩)), Pl.is (v17_1) (Sl.yl h17_1), Pl.is (I (i : Int)), Pl.is (.pointer (some ⟨b29, o29, none⟩)), Pl.is (.pointer (some ⟨b29, o29 + 7, none⟩)), Pl.is (v30_1) (Sl.yl h30_1), Pl.is (.pointer (some ⟨b6, 0 + 3, none⟩)), Pl.is (I e.task), Pl.is (.pointer (some ⟨b31, o31, none⟩)), Pl.is (.pointer (some ⟨b31, o31 + 0, none⟩)), Pl.is (I ((y.runs[i]'hia2a90).tasks[(e.task).toNat]'hif34c4).state), Pl.bool (decide (((y.runs[i]'hia2a90).tasks[(e.task).toNat]'hif34c4).state = 2)), Pl.bool (decide (((y.runs[i]'hia2a90).tasks[(e.task).toNat]'hif34c4).state = 2)), Pl.bool (decide (((y.runs[i]'hia2a90).tasks[(e.task).toNat]'hif34c4).state = 2))] mix (by rfl) st14 ⟨(fun f W hst hbl hd hf => stp_move (v := I (i : Int)) ((hf 5 rfl).trans (show _ = I (i : Int) from rfl)) ⟨Below.refl _ _, rfl⟩), (fun f W hst hbl hd hf => stp_geq (hd 0 10 rfl rfl) rfl ⟨Below.refl _ _, congrArg Value.bool h16⟩), (fun f W hst hbl hd hf => stp_move (v := .bool true) (hd 1 11 rfl rfl) ⟨Below.refl _ _, rfl⟩), (fun f W hst hbl hd hf => stp_fieldAddr fa_Entry_3 ((hf 3 rfl).trans (show _ = (.pointer (some ⟨b6, 0, none⟩) : Value) from rfl)) ⟨Below.refl _ _, rfl⟩), (fun f W hst hbl hd hf => stp_load_bx ld_int rfl (hd 3 13 rfl rfl) (hst.get 0 rfl) (i := 3) rfl rfl ⟨Below.refl _ _, rfl⟩), (fun f W hst hbl hd hf => stp_fieldAddr fa_Yard_3 ((hf 2 rfl).trans (show _ = (.pointer (some ⟨b1, 0, none⟩) : Value) from rfl)) ⟨Below.refl _ _, rfl⟩), (fun f W hst hbl hd hf => stp_load_bx ld_RunS rfl (hd 5 15 rfl rfl) (hst.get 1 rfl) (i := 3) rfl rfl ⟨Below.refl _ _, rfl⟩), (fun f W hst hbl hd hf => stp_move (v := I (i : Int)) ((hf 5 rfl).trans (show _ = I (i : Int) from rfl)) ⟨Below.refl _ _, rfl⟩), (fun f W hst hbl hd hf => stp_indexAddr sl_RunS (hd 6 16 rfl rfl) hp29 (hd 7 17 rfl rfl) rfl ⟨Below.refl _ _, rfl⟩), (fun f W hst hbl hd hf => stp_fieldAddr fa_Run_3 (hd 8 18 rfl rfl) ⟨Below.refl _ _, rfl⟩), (fun f W hst hbl hd hf => stp_load_rg ld_TaskS rfl (hd 9 19 rfl rfl) hr29 hst.below (i := 7) rfl rfl ⟨Below.refl _ _, rfl⟩), (fun f W hst hbl hd hf => stp_len sl_TaskS (hd 10 20 rfl rfl) h30_1 ⟨Below.refl _ _, rfl⟩), (fun f W hst hbl hd hf => stp_sub (hd 11 21 rfl rfl) rfl (by (simp only [I64] at *; omega)) ⟨Below.refl _ _, rfl⟩), (fun f W hst hbl hd hf => stp_call3 Tryz.func43 rfl (hd 4 14 rfl rfl) rfl (hd 12 22 rfl rfl) ((l01In_n W e.task 0 (((y.runs[i]'hia2a90).tasks.length : Int) - 1)).mono (by rintro e W2 ⟨rfl, hk⟩; exact ⟨_, rfl, hk.below, rfl⟩))), (fun f W hst hbl hd hf => stp_pick_t (v := .bool (inB e.task 0 (((y.runs[i]'hia2a90).tasks.length : Int) - 1))) (hd 2 12 rfl rfl) (hd 13 23 rfl rfl) ⟨Below.refl _ _, congrArg Value.bool h20⟩), (fun f W hst hbl hd hf => stp_move (v := .bool true) (hd 14 24 rfl rfl) ⟨Below.refl _ _, rfl⟩), (fun f W hst hbl hd hf => stp_fieldAddr fa_Yard_3 ((hf 2 rfl).trans (show _ = (.pointer (some ⟨b1, 0, none⟩) : Value) from rfl)) ⟨Below.refl _ _, rfl⟩), (fun f W hst hbl hd hf => stp_load_bx ld_RunS rfl (hd 16 26 rfl rfl) (hst.get 1 rfl) (i := 3) rfl rfl ⟨Below.refl _ _, rfl⟩), (fun f W hst hbl hd hf => stp_move (v := I (i : Int)) ((hf 5 rfl).trans (show _ = I (i : Int) from rfl)) ⟨Below.refl _ _, rfl⟩), (fun f W hst hbl hd hf => stp_indexAddr sl_RunS (hd 17 27 rfl rfl) hp29 (hd 18 28 rfl rfl) rfl ⟨Below.refl _ _, rfl⟩), (fun f W hst hbl hd hf => stp_fieldAddr fa_Run_3 (hd 19 29 rfl rfl) ⟨Below.refl _ _, rfl⟩), (fun f W hst hbl hd hf => stp_load_rg ld_TaskS rfl (hd 20 30 rfl rfl) hr29 hst.below (i := 7) rfl rfl ⟨Below.refl _ _, rfl⟩), (fun f W hst hbl hd hf => stp_fieldAddr fa_Entry_3 ((hf 3 rfl).trans (show _ = (.pointer (some ⟨b6, 0, none⟩) : Value) from rfl)) ⟨Below.refl _ _, rfl⟩), (fun f W hst hbl hd hf => stp_load_bx ld_int rfl (hd 22 32 rfl rfl) (hst.get 0 rfl) (i := 3) rfl rfl ⟨Below.refl _ _, rfl⟩), (fun f W hst hbl hd hf => stp_indexAddr sl_TaskS (hd 21 31 rfl rfl) hp31 (hd 23 33 rfl rfl) (by omega) ⟨Below.refl _ _, rfl⟩), (fun f W hst hbl hd hf => stp_fieldAddr fa_Task_0 (hd 24 34 rfl rfl) ⟨Below.refl _ _, rfl⟩), (fun f W hst hbl hd hf => stp_load_rg ld_int rfl (hd 25 35 rfl rfl) hr31 hst.below (i := 0) rfl rfl ⟨Below.refl _ _, rfl⟩), (fun f W hst hbl hd hf => stp_eql (hd 26 36 rfl rfl) rfl ⟨Below.refl _ _, rfl⟩), (fun f W hst hbl hd hf => stp_pick_t (v := .bool (decide (((y.runs[i]'hia2a90).tasks[(e.task).toNat]'hif34c4).state = 2))) (hd 15 25 rfl rfl) (hd 27 37 rfl rfl) ⟨Below.refl _ _, rfl⟩), (fun f W hst hbl hd hf => stp_assign (v := .bool (decide (((y.runs[i]'hia2a90).tasks[(e.task).toNat]'hif34c4).state = 2))) (hd 28 38 rfl rfl) ⟨Below.refl _ _, rfl⟩), trivial⟩ ?_
      intro f33 W34 st35 hb36 hv37 hf38
      refine wp_ret ?_; repeat (first | refine then_ret ?_ | refine blk_ret ?_)
      refine ret1 Tryz.results158 (hv37 29 4 (by decide) rfl) ?_
      exact ⟨(congrArg (fun z => Ending.returned (.bool z)) (by unfold fresh; rw [hix]; simp only [List.getElem?_eq_getElem hil, h20, Bool.true_and]; rw [List.getElem?_eq_getElem (by omega)])), st35.bare⟩
theorem FreshS (w : World) {y : Yard} {cs : List Value} {fp : List Nat} (hc : Shape.C w cs y fp) {e : Entry} {ds : List Value} {gp : List Nat} (hd : Shape.C w ds e gp) (hw : y.wt ≤ 1048576)  :
    Calls Tryz.prog 158 #[.agg cs.toArray, .agg ds.toArray] w fun ee w' => ee = .returned (.bool (fresh y e)) ∧ St w w' [] := by
  cases hix : runIx y e.run with
  | none => exact FreshS_n w hc hd hw hix
  | some i => exact FreshS_s w hc hd hw hix
set_option maxHeartbeats 2000000 in
theorem EntriesI (w : World) {y : Yard} {cs : List Value} {fp : List Nat} (hc : Shape.C w cs y fp)  (hw : y.wt ≤ 1048576) :
    Calls Tryz.prog 96 #[.agg cs.toArray] w fun e w' => ∃ (v : Value) (fp' : List Nat), e = .returned v ∧ St w w' [Res.own v y.shelf.flatten fp'] := by
  have hys : y.shelf.length ≤ y.wt := by unfold Yard.wt wtL; omega
  refine enter1 Tryz.func96 rfl Tryz.ntmps96 (by decide) ?_
  refine wp_seq ?_
  refine sx_region ?_
  refine sx rfl (stp_box_agg (cs := cs) rfl (St.start w) ?_); intro b1 W2 hb3 st4
  refine sx rfl (stp_assign (v := .slice none 0 0) rfl ?_)
  refine sx_nil ?_
  refine wp_seq ?_
  refine sx_region ?_
  refine sx rfl (stp_assign (v := .slice none 0 0) rfl ?_)
  refine sx_nil ?_
  refine wp_seq ?_
  refine wp_seq ?_
  refine sx_region ?_
  refine sx rfl (stp_fieldAddr fa_Yard_2 rfl ?_)
  have hk6 := hc
  obtain ⟨v6_0, v6_1, g6_0, g6_1, rfl, hok6, h6_0, h6_1, rfl⟩ := hk6
  refine sx rfl (stp_load_bx ld_EntrySS rfl rfl (st4.get 0 rfl) (i := 2) rfl rfl ?_)
  refine sx rfl (stp_len sl_EntrySS rfl h6_0 ?_)
  refine sx rfl (stp_move (v := I 0) rfl ?_)
  refine sx_nil ?_
  refine wp_block ?_
  have st8 := st4.row_nil (α := Entry) 131
  refine sx_loop (fun (m : Nat) (f : Nat → Value) (W : World) => ∃ (k : Nat) (v7 : Value), k ≤ y.shelf.length ∧ m = y.shelf.length - k ∧ f 3 = v7 ∧ f 7 = v6_0 ∧ f 8 = I (y.shelf.length : Int) ∧ f 9 = I (k : Int) ∧ St w W ([Res.row (α := Entry) 131 v7 (y.shelf.take k).flatten [], Res.bx b1 [I y.now, I y.seq, v6_0, v6_1] 34])) (y.shelf.length - 0) ?_ ?_
  · exact ⟨0, (.slice none 0 0), (by first | omega | simp), rfl, rfl, rfl, rfl, rfl, st8⟩
  intro m10 f11 W12 hJ13
  obtain ⟨k, v7, hcd15_0, rfl, hs15_3, hs15_7, hs15_8, hs15_9, st14⟩ := hJ13
  have hfl := flat_le y (k + 1)
  refine wp_seq ?_
  refine sx_region ?_
  refine sx rfl (stp_lss hs15_9 hs15_8 ?_)
  refine sx_nil ?_
  refine wp_seq ?_
  refine sx_if rfl (fun h16 => ?_) (fun h16 => ?_)
  · skip
    have h16p := of_decide_eq_true h16
    refine wp_skip ?_
    refine wp_seq ?_
    refine wp_block ?_
    refine wp_seq ?_
    refine sx_region ?_
    have hi019db : k < y.shelf.length := (by omega)
    have hq_ := idx h6_0 (i := k) hi019db
    obtain ⟨b17, o17, cs17, f17, hp17, hr17, hc17, hm17⟩ := hq_
    have hk17 := hc17
    obtain ⟨v18, rfl, h19⟩ := hk17
    refine sx rfl (stp_indexAddr sl_EntrySS hs15_7 hp17 hs15_9 rfl ?_)
    refine sx rfl (stp_load_rg ld_EntryS rfl rfl hr17 st14.below (i := 0) rfl rfl ?_)
    refine sx rfl (stp_assign (v := v18) rfl ?_)
    refine sx_nil ?_
    refine sx_region ?_
    refine sx rfl (stp_move (v := v7) hs15_3 ?_)
    refine sx rfl (stp_move (v := v18) rfl ?_)
    have hfl2 := flat_to (xss := y.shelf) (k := k) (by omega)
    rw [hfl2, List.length_append] at hfl
    refine sx rfl (stp_append_sl plain_Entry ap_EntryS rfl rfl h19 st14.below st14 (by unfold maxLen; omega) (by omega) ?_); intro v20 W21 st22
    refine sx rfl (stp_assign (v := v20) rfl ?_)
    refine sx_nil ?_
    refine sx_region ?_
    refine sx rfl (stp_add hs15_9 rfl (by (simp only [I64] at *; omega)) ?_)
    refine sx rfl (stp_move (v := I ((k : Int) + 1)) rfl ?_)
    refine sx_nil ?_
    exact ⟨_, y.shelf.length - (k + 1), (by omega), rfl, k + 1, v20, (by omega), rfl, rfl, hs15_7, hs15_8, rfl, (by rw [flat_to (by omega)]; exact st22)⟩
  · skip
    have h16p := of_decide_eq_false h16
    refine wp_exit ?_
    refine wp_seq ?_
    refine sx_region ?_
    refine sx rfl (stp_move (v := v7) hs15_3 ?_)
    refine sx rfl (stp_assign (v := v7) rfl ?_)
    refine sx_nil ?_
    refine wp_ret ?_; repeat (first | refine then_ret ?_ | refine blk_ret ?_)
    refine ret1 Tryz.results96 rfl ?_
    obtain rfl : k = y.shelf.length := by omega
    rw [List.take_length] at st14
    have hq_ := st14.shut
    obtain ⟨fpz, stz⟩ := hq_
    exact ⟨_, fpz, rfl, stz.only 0 rfl⟩
set_option maxHeartbeats 2000000 in
theorem EntriesS (w : World) {y : Yard} {cs : List Value} {fp : List Nat} (hc : Shape.C w cs y fp)  (hw : y.wt ≤ 1048576) :
    Calls Tryz.prog 91 #[.agg cs.toArray] w fun e w' => ∃ (v : Value) (fp' : List Nat), e = .returned v ∧ St w w' [Res.own v y.shelf.flatten fp'] := by
  have hys : y.shelf.length ≤ y.wt := by unfold Yard.wt wtL; omega
  refine enter1 Tryz.func91 rfl Tryz.ntmps91 (by decide) ?_
  refine wp_seq ?_
  refine sx_region ?_
  refine sx rfl (stp_box_agg (cs := cs) rfl (St.start w) ?_); intro b1 W2 hb3 st4
  refine sx rfl (stp_assign (v := .slice none 0 0) rfl ?_)
  refine sx_nil ?_
  refine wp_seq ?_
  refine sx_region ?_
  refine sx rfl (stp_buildSlice (cs := []) (e := 131) pnil (run_buildSlice0 ap_EntryS _) st4 ?_); intro b6 W7 hb8 st9
  have st9 := st9.row_empty (α := Entry)
  refine sx rfl (stp_assign (v := (.slice (some ⟨b6, 0, none⟩) 0 0)) rfl ?_)
  refine sx_nil ?_
  refine wp_seq ?_
  refine wp_seq ?_
  refine sx_region ?_
  refine sx rfl (stp_assign (v := I 0) rfl ?_)
  refine sx_nil ?_
  refine wp_block ?_
  refine sx_loop (fun (m : Nat) (f : Nat → Value) (W : World) => ∃ (k : Nat) (v11 : Value), k ≤ y.shelf.length ∧ m = y.shelf.length - k ∧ f 1 = .pointer (some ⟨b1, 0, none⟩) ∧ f 3 = v11 ∧ f 4 = I (k : Int) ∧ St w W ([Res.row (α := Entry) 131 v11 (y.shelf.take k).flatten [], Res.bx b1 cs 34])) (y.shelf.length - 0) ?_ ?_
  · exact ⟨0, (.slice (some ⟨b6, 0, none⟩) 0 0), (by first | omega | simp), rfl, rfl, rfl, rfl, st9⟩
  intro m12 f13 W14 hJ15
  obtain ⟨k, v11, hcd17_0, rfl, hs17_1, hs17_3, hs17_4, st16⟩ := hJ15
  have hfl := flat_le y (k + 1)
  refine wp_seq ?_
  refine wp_seq ?_
  refine sx_region ?_
  refine sx rfl (stp_move (v := I (k : Int)) hs17_4 ?_)
  refine sx rfl (stp_fieldAddr fa_Yard_2 hs17_1 ?_)
  have hk18 := hc
  obtain ⟨v18_0, v18_1, g18_0, g18_1, rfl, hok18, h18_0, h18_1, rfl⟩ := hk18
  refine sx rfl (stp_load_bx ld_EntrySS rfl rfl (st16.get 1 rfl) (i := 2) rfl rfl ?_)
  refine sx rfl (stp_len sl_EntrySS rfl h18_0 ?_)
  refine sx rfl (stp_lss rfl rfl ?_)
  refine sx_nil ?_
  refine sx_if rfl (fun h19 => ?_) (fun h19 => ?_)
  · skip
    have h19p := of_decide_eq_true h19
    refine wp_skip ?_
    refine wp_seq ?_
    refine wp_block ?_
    refine sx_region ?_
    refine sx rfl (stp_move (v := v11) hs17_3 ?_)
    refine sx rfl (stp_fieldAddr fa_Yard_2 hs17_1 ?_)
    refine sx rfl (stp_load_bx ld_EntrySS rfl rfl (st16.get 1 rfl) (i := 2) rfl rfl ?_)
    refine sx rfl (stp_move (v := I (k : Int)) hs17_4 ?_)
    have hi019db : k < y.shelf.length := (by omega)
    have hq_ := idx h18_0 (i := k) hi019db
    obtain ⟨b20, o20, cs20, f20, hp20, hr20, hc20, hm20⟩ := hq_
    have hk20 := hc20
    obtain ⟨v21, rfl, h22⟩ := hk20
    refine sx rfl (stp_indexAddr sl_EntrySS rfl hp20 rfl rfl ?_)
    refine sx rfl (stp_load_rg ld_EntryS rfl rfl hr20 st16.below (i := 0) rfl rfl ?_)
    have hfl2 := flat_to (xss := y.shelf) (k := k) (by omega)
    rw [hfl2, List.length_append] at hfl
    refine sx rfl (stp_append_sl plain_Entry ap_EntryS rfl rfl h22 st16.below st16 (by unfold maxLen; omega) (by omega) ?_); intro v23 W24 st25
    refine sx rfl (stp_assign (v := v23) rfl ?_)
    refine sx_nil ?_
    refine sx_region ?_
    refine sx rfl (stp_move (v := I (k : Int)) hs17_4 ?_)
    refine sx rfl (stp_add rfl rfl (by (simp only [I64] at *; omega)) ?_)
    refine sx rfl (stp_assign (v := I ((k : Int) + 1)) rfl ?_)
    refine sx_nil ?_
    exact ⟨_, y.shelf.length - (k + 1), (by omega), rfl, k + 1, v23, (by omega), rfl, hs17_1, rfl, rfl, (by rw [flat_to (by omega)]; exact st25)⟩
  · skip
    have h19p := of_decide_eq_false h19
    refine wp_exit ?_
    refine wp_seq ?_
    refine sx_region ?_
    refine sx rfl (stp_move (v := v11) hs17_3 ?_)
    refine sx rfl (stp_assign (v := v11) rfl ?_)
    refine sx_nil ?_
    refine wp_ret ?_; repeat (first | refine then_ret ?_ | refine blk_ret ?_)
    refine ret1 Tryz.results91 rfl ?_
    obtain rfl : k = y.shelf.length := by omega
    rw [List.take_length] at st16
    have hq_ := st16.shut
    obtain ⟨fpz, stz⟩ := hq_
    exact ⟨_, fpz, rfl, stz.only 0 rfl⟩
end Go.Proofs.YtchnllpegfbleaaGreat
