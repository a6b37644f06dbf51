/-
  ViewOf, CountsOf, BusyOf, StuckOf, of the program and of the reference. (Printed by a program of this project's.)
-/
import Derived.Test.YtpkfgalpjaoebaaLeft
import Derived.Test.YtpkfgalpjaoebaaSxSlice
namespace Go.Proofs.Ytpkfgalpjaoebaa
set_option linter.unusedSimpArgs false
set_option linter.unusedVariables false
set_option maxRecDepth 100000
open Go.RowKit


/-- The place of the first that a test takes. -/
def ixOf {α : Type} (p : α → Bool) : List α → Option Nat
  | [] => none
  | x :: xs => if p x then some 0 else (ixOf p xs).map (· + 1)
theorem ixOf_some {α : Type} {p : α → Bool} : ∀ {xs : List α} {k : Nat} (hk : k < xs.length), (xs.take k).any p = false → p xs[k] = true → ixOf p xs = some k
  | x :: xs, 0, _, _, hp => by simp at hp; simp [ixOf, hp]
  | x :: xs, k + 1, hk, h, hp => by
    simp only [List.take_succ_cons, List.any_cons, Bool.or_eq_false_iff] at h
    rw [ixOf, h.1, if_neg (by simp), ixOf_some (xs := xs) (k := k) (by simpa using hk) h.2 (by simpa using hp)]
    rfl
theorem ixOf_none {α : Type} {p : α → Bool} : ∀ {xs : List α}, xs.any p = false → ixOf p xs = none
  | [], _ => rfl
  | x :: xs, h => by
    simp only [List.any_cons, Bool.or_eq_false_iff] at h
    rw [ixOf, h.1, if_neg (by simp), ixOf_none h.2]; rfl
theorem ixOf_lt {α : Type} {p : α → Bool} : ∀ {xs : List α} {k : Nat}, ixOf p xs = some k → ∃ h : k < xs.length, p xs[k] = true
  | x :: xs, k, h => by
    unfold ixOf at h
    by_cases hx : p x = true
    · rw [if_pos hx] at h; cases h; exact ⟨by simp, hx⟩
    · rw [if_neg hx] at h
      cases hq : ixOf p xs with
      | none => rw [hq] at h; cases h
      | some j =>
        rw [hq] at h
        cases h
        obtain ⟨h1, h2⟩ := ixOf_lt hq
        exact ⟨by simpa using h1, by simpa using h2⟩
def ixI : Option Nat → Int
  | some k => k
  | none => -1
def runIx (y : Yard) (id : Int) : Option Nat := if y.runs.length ≤ 8 then ixOf (fun r => decide (r.id = id)) y.runs else none
def runAt (y : Yard) (id : Int) : Int := ixI (runIx y id)
theorem runIx_lt {y : Yard} {id : Int} {k : Nat} (h : runIx y id = some k) : k < y.runs.length := by
  unfold runIx at h
  split at h
  · exact (ixOf_lt h).1
  · cases h
/-- Whether an entry's task stands ready. -/
def fresh (y : Yard) (e : Entry) : Bool :=
  match runIx y e.run with
  | none => false
  | some k => match y.runs[k]? with
    | none => false
    | some r => inB e.task 0 ((r.tasks.length : Int) - 1) && (match r.tasks[e.task.toNat]? with | some t => decide (t.state = 2) | none => false)
def readyOf (y : Yard) : List Entry := y.shelf.flatten.filter (fresh y)
theorem flat_to {α : Type} {xss : List (List α)} {k : Nat} (h : k < xss.length) : (xss.take (k + 1)).flatten = (xss.take k).flatten ++ xss[k] := by
  rw [List.take_succ_eq_append_getElem h, List.flatten_append, List.flatten_cons, List.flatten_nil, List.append_nil]
theorem flat_len {α : Type} : ∀ (xss : List (List α)), xss.flatten.length = (xss.map (fun y => y.length)).sum
  | [] => rfl
  | x :: xss => by simp [flat_len xss]
theorem flat_le (y : Yard) (k : Nat) : ((y.shelf.take k).flatten).length ≤ y.wt := by
  have h1 := flat_len (y.shelf.take k)
  have h2 := wtL_take_le (fun y : List Entry => y.length) y.shelf k
  unfold Yard.wt wtL
  omega
theorem filt_to {α : Type} {xs : List α} {p : α → Bool} {k : Nat} (h : k < xs.length) (hp : p xs[k] = true) : (xs.take (k + 1)).filter p = (xs.take k).filter p ++ [xs[k]] := by
  rw [List.take_succ_eq_append_getElem h, List.filter_append]; simp [hp]
theorem filt_to_f {α : Type} {xs : List α} {p : α → Bool} {k : Nat} (h : k < xs.length) (hp : p xs[k] = false) : (xs.take (k + 1)).filter p = (xs.take k).filter p := by
  rw [List.take_succ_eq_append_getElem h, List.filter_append]; simp [hp]


/-- The counts of the tasks, added to a view. -/
def addC (v : View) (ts : List Task) : View := ⟨v.state, v.waits + (tasksIn ts 1).length, v.ready + (tasksIn ts 2).length, v.runs + (tasksIn ts 3).length, v.done + (tasksIn ts 4).length, v.failed + (tasksIn ts 5).length, v.left + (tasksIn ts 6).length⟩
def viewR (r : Run) : View := ⟨r.state, (tasksIn r.tasks 1).length, (tasksIn r.tasks 2).length, (tasksIn r.tasks 3).length, (tasksIn r.tasks 4).length, (tasksIn r.tasks 5).length, (tasksIn r.tasks 6).length⟩
theorem view_add (r : Run) : addC ⟨r.state, 0, 0, 0, 0, 0, 0⟩ r.tasks = viewR r := by simp [addC, viewR]
theorem tin_len (ts : List Task) (s : Int) : (tasksIn ts s).length ≤ ts.length := tasksTo_len ts s ts.length
theorem tin_step (ts : List Task) (s : Int) {k : Nat} (h : k < ts.length) : (tasksIn (ts.take (k + 1)) s).length = (tasksIn (ts.take k) s).length + (if ts[k].state = s then 1 else 0) := by
  rw [tasksIn_count, tasksIn_count, List.take_succ_eq_append_getElem h, List.countP_append]
  by_cases hs : ts[k].state = s <;> simp [hs]
theorem addC_0 (v : View) (ts : List Task) : addC v (ts.take 0) = v := by simp [addC, tasksIn, tasksTo]
def View.small (v : View) (n : Nat) : Prop := (0 ≤ v.waits ∧ v.waits ≤ n) ∧ (0 ≤ v.ready ∧ v.ready ≤ n) ∧ (0 ≤ v.runs ∧ v.runs ≤ n) ∧ (0 ≤ v.done ∧ v.done ≤ n) ∧ (0 ≤ v.failed ∧ v.failed ≤ n) ∧ (0 ≤ v.left ∧ v.left ≤ n)
theorem addC_small {v : View} {n : Nat} (h : v.small n) (ts : List Task) : (addC v ts).small (n + ts.length) := by
  have h1 := tin_len ts 1
  have h2 := tin_len ts 2
  have h3 := tin_len ts 3
  have h4 := tin_len ts 4
  have h5 := tin_len ts 5
  have h6 := tin_len ts 6
  unfold View.small addC at *
  simp only
  omega
theorem addC_take {v : View} {n : Nat} (h : v.small n) (ts : List Task) (k : Nat) : (addC v (ts.take k)).small (n + k) := by
  have h1 := addC_small h (ts.take k)
  have h2 := List.length_take_le k ts
  unfold View.small at *
  omega
theorem addC_ok {v : View} {n : Nat} (h : v.small n) (hs : I64 v.state) (ts : List Task) (hb : n + ts.length ≤ 4611686018427387904) : (addC v ts).ok := by
  have h1 := addC_small h ts
  have h2 : (addC v ts).state = v.state := rfl
  unfold View.small at h1
  unfold View.ok I64 at *
  omega
theorem viewR_ok {r : Run} (h : I64 r.state) (hl : r.tasks.length ≤ 1048576) : (viewR r).ok := by
  rw [← view_add]
  exact addC_ok (n := 0) (by simp [View.small]) h _ (by omega)
def zV : View := ⟨0, 0, 0, 0, 0, 0, 0⟩
theorem zV_ok : zV.ok := by simp [View.ok, zV, I64]
def viewY (y : Yard) (id : Int) : View × Bool :=
  match runIx y id with
  | none => (zV, false)
  | some k => match y.runs[k]? with
    | none => (zV, false)
    | some r => (viewR r, true)
def cntTo (y : Yard) : Nat → View
  | 0 => ⟨y.runs.length, 0, 0, 0, 0, 0, 0⟩
  | k + 1 => match y.runs[k]? with
    | some r => addC (cntTo y k) r.tasks
    | none => cntTo y k
theorem cntTo_s {y : Yard} {k : Nat} (h : k < y.runs.length) : cntTo y (k + 1) = addC (cntTo y k) y.runs[k].tasks := by rw [cntTo, List.getElem?_eq_getElem h]
theorem cntTo_state (y : Yard) : ∀ k, (cntTo y k).state = y.runs.length
  | 0 => rfl
  | k + 1 => by
    rw [cntTo]
    split
    · show (cntTo y k).state = _; exact cntTo_state y k
    · exact cntTo_state y k
def tlen (y : Yard) (k : Nat) : Nat := ((y.runs.take k).map (fun r => r.tasks.length)).sum
theorem cntTo_small (y : Yard) : ∀ k, k ≤ y.runs.length → (cntTo y k).small (tlen y k)
  | 0, _ => by simp [cntTo, View.small]
  | k + 1, h => by
    have ih := cntTo_small y k (by omega)
    rw [cntTo_s (by omega)]
    have h1 := addC_small ih y.runs[k].tasks
    have e : tlen y (k + 1) = tlen y k + y.runs[k].tasks.length := wtL_take (fun r : Run => r.tasks.length) y.runs k (by omega)
    rw [e]; exact h1
theorem tlen_le (y : Yard) (k : Nat) : tlen y k ≤ y.wt := by
  have h1 := wtL_take_le (fun r : Run => r.tasks.length) y.runs k
  have h2 : (y.runs.map (fun r => r.tasks.length)).sum ≤ (y.runs.map (fun r : Run => r.wt)).sum := sum_le (fun r => by unfold Run.wt; omega) y.runs
  unfold tlen Yard.wt wtL
  omega
/-- The ids of the runs that a test takes. -/
def idsOf (y : Yard) (p : Run → Bool) (k : Nat) : List Int := ((y.runs.take k).filter p).map Run.id
theorem idsOf_t {y : Yard} {p : Run → Bool} {k : Nat} (h : k < y.runs.length) (hp : p y.runs[k] = true) : idsOf y p (k + 1) = idsOf y p k ++ [y.runs[k].id] := by
  unfold idsOf; rw [filt_to h hp, List.map_append]; rfl
theorem idsOf_f {y : Yard} {p : Run → Bool} {k : Nat} (h : k < y.runs.length) (hp : p y.runs[k] = false) : idsOf y p (k + 1) = idsOf y p k := by
  unfold idsOf; rw [filt_to_f h hp]
theorem idsOf_len (y : Yard) (p : Run → Bool) (k : Nat) : (idsOf y p k).length ≤ y.runs.length := by
  unfold idsOf
  rw [List.length_map]
  have h1 := List.length_filter_le p (y.runs.take k)
  have h2 := List.length_take (i := k) (l := y.runs)
  omega
def isBusy (r : Run) : Bool := decide (0 < (tasksIn r.tasks 3).length)
def isStuck (r : Run) : Bool := decide (r.state = 1) && decide ((tasksIn r.tasks 3).length = 0) && decide ((tasksIn r.tasks 2).length = 0)
theorem addC_1 {v : View} {ts : List Task} {k : Nat} (h : k < ts.length) (hs : ts[k].state = 1) : addC v (ts.take (k + 1)) = { addC v (ts.take k) with waits := (addC v (ts.take k)).waits + 1 } := by
  simp only [addC, tin_step ts _ h, hs]
  simp [Int.add_assoc]
theorem addC_2 {v : View} {ts : List Task} {k : Nat} (h : k < ts.length) (hs : ts[k].state = 2) : addC v (ts.take (k + 1)) = { addC v (ts.take k) with ready := (addC v (ts.take k)).ready + 1 } := by
  simp only [addC, tin_step ts _ h, hs]
  simp [Int.add_assoc]
theorem addC_3 {v : View} {ts : List Task} {k : Nat} (h : k < ts.length) (hs : ts[k].state = 3) : addC v (ts.take (k + 1)) = { addC v (ts.take k) with runs := (addC v (ts.take k)).runs + 1 } := by
  simp only [addC, tin_step ts _ h, hs]
  simp [Int.add_assoc]
theorem addC_4 {v : View} {ts : List Task} {k : Nat} (h : k < ts.length) (hs : ts[k].state = 4) : addC v (ts.take (k + 1)) = { addC v (ts.take k) with done := (addC v (ts.take k)).done + 1 } := by
  simp only [addC, tin_step ts _ h, hs]
  simp [Int.add_assoc]
theorem addC_5 {v : View} {ts : List Task} {k : Nat} (h : k < ts.length) (hs : ts[k].state = 5) : addC v (ts.take (k + 1)) = { addC v (ts.take k) with failed := (addC v (ts.take k)).failed + 1 } := by
  simp only [addC, tin_step ts _ h, hs]
  simp [Int.add_assoc]
theorem addC_6 {v : View} {ts : List Task} {k : Nat} (h : k < ts.length) (hs : ts[k].state = 6) : addC v (ts.take (k + 1)) = { addC v (ts.take k) with left := (addC v (ts.take k)).left + 1 } := by
  simp only [addC, tin_step ts _ h, hs]
  simp [Int.add_assoc]
theorem addC_n {v : View} {ts : List Task} {k : Nat} (h : k < ts.length) (h1 : ¬ ts[k].state = 1) (h2 : ¬ ts[k].state = 2) (h3 : ¬ ts[k].state = 3) (h4 : ¬ ts[k].state = 4) (h5 : ¬ ts[k].state = 5) (h6 : ¬ ts[k].state = 6) : addC v (ts.take (k + 1)) = addC v (ts.take k) := by
  simp only [addC, tin_step ts _ h, if_neg h1, if_neg h2, if_neg h3, if_neg h4, if_neg h5, if_neg h6, Nat.add_zero]

theorem run_ok {w : World} {cs : List Value} {r : Run} {fp : List Nat} (h : Shape.C w cs r fp) : r.ok := by obtain ⟨_, _, _, _, _, hok, _⟩ := h; exact hok
theorem yard_get {w : World} {cs : List Value} {y : Yard} {fp : List Nat} (h : Shape.C w cs y fp) {k : Nat} (hk : k < y.runs.length) : y.runs[k].ok := by
  obtain ⟨_, _, _, _, _, _, _, h2, _⟩ := h
  obtain ⟨_, _, _, _, _, _, hc, _⟩ := idx h2 hk
  exact run_ok hc
theorem yard_state {w : World} {cs : List Value} {y : Yard} {fp : List Nat} (h : Shape.C w cs y fp) {k : Nat} (hk : k < y.runs.length) : I64 y.runs[k].state := (yard_get h hk).2.2
theorem yard_id {w : World} {cs : List Value} {y : Yard} {fp : List Nat} (h : Shape.C w cs y fp) {k : Nat} (hk : k < y.runs.length) : I64 y.runs[k].id := (yard_get h hk).1

set_option maxHeartbeats 2000000 in
theorem StuckOfI (w : World) {y : Yard} {cs : List Value} {fp : List Nat} (hc : Shape.C w cs y fp)  (hw : y.wt ≤ 1048576) :
    Calls Try.prog 9 #[.agg cs.toArray] w fun e w' => ∃ (v : Value) (fp' : List Nat), e = .returned v ∧ St w w' [Res.own v (idsOf y isStuck y.runs.length) fp'] := by
  have hyr : y.runs.length ≤ y.wt := by unfold Yard.wt wtL; omega
  refine enter1 Try.func9 rfl Try.ntmps9 (by decide) ?_
  refine wp_seq ?_
  refine sx_region ?_
  refine sx rfl (stp_box_agg (cs := cs) rfl (St.start w) ?_); intro b1 W2 hb3 st4
  refine sx rfl (stp_assign (v := .slice none 0 0) rfl ?_)
  refine sx_nil ?_
  refine wp_seq ?_
  refine sx_region ?_
  refine sx rfl (stp_assign (v := .slice none 0 0) rfl ?_)
  refine sx_nil ?_
  refine wp_seq ?_
  refine wp_seq ?_
  refine sx_region ?_
  refine sx rfl (stp_fieldAddr fa_Yard_3 rfl ?_)
  have hk6 := hc
  obtain ⟨v6_0, v6_1, g6_0, g6_1, rfl, hok6, h6_0, h6_1, rfl⟩ := hk6
  refine sx rfl (stp_load_bx ld_RunS rfl rfl (st4.get 0 rfl) (i := 3) rfl rfl ?_)
  refine sx rfl (stp_len sl_RunS rfl h6_1 ?_)
  refine sx rfl (stp_move (v := I 0) rfl ?_)
  refine sx_nil ?_
  refine wp_block ?_
  have st8 := st4.row_nil (α := Int) 3
  refine sx_loop (fun (m : Nat) (f : Nat → Value) (W : World) => ∃ (k : Nat) (v7 : Value), k ≤ y.runs.length ∧ m = y.runs.length - k ∧ f 3 = v7 ∧ f 7 = v6_1 ∧ f 8 = I (y.runs.length : Int) ∧ f 9 = I (k : Int) ∧ St w W ([Res.row (α := Int) 3 v7 (idsOf y isStuck k) [], Res.bx b1 [I y.now, I y.seq, v6_0, v6_1] 32])) (y.runs.length - 0) ?_ ?_
  · exact ⟨0, (.slice none 0 0), (by first | omega | simp), rfl, rfl, rfl, rfl, rfl, st8⟩
  intro m10 f11 W12 hJ13
  obtain ⟨k, v7, hcd15_0, rfl, hs15_3, hs15_7, hs15_8, hs15_9, st14⟩ := hJ13
  have hil := idsOf_len y isStuck k
  refine wp_seq ?_
  refine sx_region ?_
  refine sx rfl (stp_lss hs15_9 hs15_8 ?_)
  refine sx_nil ?_
  refine wp_seq ?_
  refine sx_if rfl (fun h16 => ?_) (fun h16 => ?_)
  · skip
    have h16p := of_decide_eq_true h16
    refine wp_skip ?_
    refine wp_seq ?_
    refine wp_block ?_
    refine wp_seq ?_
    refine sx_region ?_
    have hyk := yard_run (y := y) (k := k) (by omega)
    have hrw : (y.runs[k]'(by omega)).tasks.length ≤ (y.runs[k]'(by omega)).wt := by unfold Run.wt; omega
    have ht2 := tin_len (y.runs[k]'(by omega)).tasks 2
    have ht3 := tin_len (y.runs[k]'(by omega)).tasks 3
    have hi24e2d : k < y.runs.length := (by omega)
    have hq_ := idx h6_1 (i := k) hi24e2d
    obtain ⟨b17, o17, cs17, f17, hp17, hr17, hc17, hm17⟩ := hq_
    refine sx rfl (stp_indexAddr sl_RunS hs15_7 hp17 hs15_9 rfl ?_)
    refine sx rfl (stp_load_rga ld_Run rfl rfl hr17 st14.below (Shape.len hc17) ?_)
    refine sx rfl (stp_alloc zz_Run st14 ?_); intro b18 W19 hb20 st21
    refine sx rfl (stp_store_all (cs := cs17) ld_Run hc17 rfl rfl st21 rfl ?_); intro W23 st24
    refine sx_nil ?_
    refine wp_seq ?_
    refine sx_region ?_
    refine sx rfl (stp_fieldAddr fa_Run_2 rfl ?_)
    have hk25 := hc17
    obtain ⟨v25_0, v25_1, g25_0, g25_1, rfl, hok25, h25_0, h25_1, rfl⟩ := hk25
    refine sx rfl (stp_load_bx ld_int rfl rfl (st24.get 0 rfl) (i := 6) rfl rfl ?_)
    refine sx rfl (stp_eql rfl rfl ?_)
    refine sx rfl (stp_move (v := .bool (decide ((y.runs[k]'hi24e2d).state = 1))) rfl ?_)
    rcases bd (decide ((y.runs[k]'hi24e2d).state = 1)) with h26 | h26
    · skip
      have h26p := of_decide_eq_false h26
      iterate 4 refine sx_off (j := 3) (dd := 16) rfl rfl (by decide) (yl_off (e := decide ((y.runs[k]'hi24e2d).state = 1)) rfl h26) ?_
      refine sx rfl (stp_pick_f (v := .bool false) ((rfl : _ = (.bool (decide ((y.runs[k]'hi24e2d).state = 1)) : Value)).trans (congrArg Value.bool h26)) rfl ?_)
      refine sx rfl (stp_move (v := .bool false) rfl ?_)
      iterate 4 refine sx_off (j := 9) (dd := 22) rfl rfl (by decide) (yl_off (e := false) rfl rfl) ?_
      refine sx rfl (stp_pick_f (v := .bool false) rfl rfl ?_)
      refine sx_nil ?_
      refine sx_f rfl rfl ?_
      refine wp_skip ?_
      refine sx_region ?_
      refine sx rfl (stp_add hs15_9 rfl (by (simp only [I64] at *; omega)) ?_)
      refine sx rfl (stp_move (v := I ((k : Int) + 1)) rfl ?_)
      refine sx_nil ?_
      have st27 := st24.f2
      have st28 := st27.f2
      have st29 := st28.d2
      exact ⟨_, y.runs.length - (k + 1), (by omega), rfl, k + 1, v7, (by omega), rfl, hs15_3, hs15_7, hs15_8, rfl, (by rw [idsOf_f (by omega) (by simp only [isStuck, Bool.and_eq_true, Bool.and_eq_false_iff, decide_eq_true_eq, decide_eq_false_iff_not]; omega)]; exact st29)⟩
    · skip
      have h26p := of_decide_eq_true h26
      refine sx_on (j := 3) (dd := 16) rfl rfl (by decide) (yl_on (e := decide ((y.runs[k]'hi24e2d).state = 1)) rfl h26) (stp_load_bxs (cs := [I (y.runs[k]'hi24e2d).id, I (y.runs[k]'hi24e2d).plan.prio, I (y.runs[k]'hi24e2d).plan.most, I (y.runs[k]'hi24e2d).plan.wait, I (y.runs[k]'hi24e2d).plan.tasks, v25_0, I (y.runs[k]'hi24e2d).state, v25_1]) ld_Run rfl rfl (st24.get 0 rfl) rfl rfl ?_)
      refine sx_on (j := 3) (dd := 16) rfl rfl (by decide) (yl_on (e := decide ((y.runs[k]'hi24e2d).state = 1)) rfl h26) (stp_call2 Try.func30 rfl rfl rfl ((TasksInI W23 (C_below hc17 st24.below) 3 (by omega)).mono ?_)); rintro _ W32 ⟨v30, fp30, rfl, hk33⟩; refine ⟨_, rfl, ?_⟩
      have st34 := St.call st24 hk33
      refine sx_on (j := 3) (dd := 16) rfl rfl (by decide) (yl_on (e := decide ((y.runs[k]'hi24e2d).state = 1)) rfl h26) (stp_len sl_IntS rfl (own_Sl (st34.get 0 rfl)) ?_)
      refine sx_on (j := 3) (dd := 16) rfl rfl (by decide) (yl_on (e := decide ((y.runs[k]'hi24e2d).state = 1)) rfl h26) (stp_eql rfl rfl ?_)
      refine sx rfl (stp_pick_t (v := .bool (decide (((tasksIn (y.runs[k]'hi24e2d).tasks 3).length : Int) = 0))) ((rfl : _ = (.bool (decide ((y.runs[k]'hi24e2d).state = 1)) : Value)).trans (congrArg Value.bool h26)) rfl ?_)
      refine sx rfl (stp_move (v := .bool (decide (((tasksIn (y.runs[k]'hi24e2d).tasks 3).length : Int) = 0))) rfl ?_)
      rcases bd (decide (((tasksIn (y.runs[k]'hi24e2d).tasks 3).length : Int) = 0)) with h36 | h36
      · skip
        have h36p := of_decide_eq_false h36
        iterate 4 refine sx_off (j := 9) (dd := 22) rfl rfl (by decide) (yl_off (e := decide (((tasksIn (y.runs[k]'hi24e2d).tasks 3).length : Int) = 0)) rfl h36) ?_
        refine sx rfl (stp_pick_f (v := .bool false) ((rfl : _ = (.bool (decide (((tasksIn (y.runs[k]'hi24e2d).tasks 3).length : Int) = 0)) : Value)).trans (congrArg Value.bool h36)) rfl ?_)
        refine sx_nil ?_
        refine sx_f rfl rfl ?_
        refine wp_skip ?_
        refine sx_region ?_
        refine sx rfl (stp_add hs15_9 rfl (by (simp only [I64] at *; omega)) ?_)
        refine sx rfl (stp_move (v := I ((k : Int) + 1)) rfl ?_)
        refine sx_nil ?_
        have st37 := st34.f3
        have st38 := st37.f3
        have st39 := st38.d2
        have st40 := st39.d2
        exact ⟨_, y.runs.length - (k + 1), (by omega), rfl, k + 1, v7, (by omega), rfl, hs15_3, hs15_7, hs15_8, rfl, (by rw [idsOf_f (by omega) (by simp only [isStuck, Bool.and_eq_true, Bool.and_eq_false_iff, decide_eq_true_eq, decide_eq_false_iff_not]; omega)]; exact st40)⟩
      · skip
        have h36p := of_decide_eq_true h36
        refine sx_on (j := 9) (dd := 22) rfl rfl (by decide) (yl_on (e := decide (((tasksIn (y.runs[k]'hi24e2d).tasks 3).length : Int) = 0)) rfl h36) (stp_load_bxs (cs := [I (y.runs[k]'hi24e2d).id, I (y.runs[k]'hi24e2d).plan.prio, I (y.runs[k]'hi24e2d).plan.most, I (y.runs[k]'hi24e2d).plan.wait, I (y.runs[k]'hi24e2d).plan.tasks, v25_0, I (y.runs[k]'hi24e2d).state, v25_1]) ld_Run rfl rfl (st34.get 1 rfl) rfl rfl ?_)
        refine sx_on (j := 9) (dd := 22) rfl rfl (by decide) (yl_on (e := decide (((tasksIn (y.runs[k]'hi24e2d).tasks 3).length : Int) = 0)) rfl h36) (stp_call2 Try.func30 rfl rfl rfl ((TasksInI W32 (C_below hc17 st34.below) 2 (by omega)).mono ?_)); rintro _ W43 ⟨v41, fp41, rfl, hk44⟩; refine ⟨_, rfl, ?_⟩
        have st45 := St.call st34 hk44
        refine sx_on (j := 9) (dd := 22) rfl rfl (by decide) (yl_on (e := decide (((tasksIn (y.runs[k]'hi24e2d).tasks 3).length : Int) = 0)) rfl h36) (stp_len sl_IntS rfl (own_Sl (st45.get 0 rfl)) ?_)
        refine sx_on (j := 9) (dd := 22) rfl rfl (by decide) (yl_on (e := decide (((tasksIn (y.runs[k]'hi24e2d).tasks 3).length : Int) = 0)) rfl h36) (stp_eql rfl rfl ?_)
        refine sx rfl (stp_pick_t (v := .bool (decide (((tasksIn (y.runs[k]'hi24e2d).tasks 2).length : Int) = 0))) ((rfl : _ = (.bool (decide (((tasksIn (y.runs[k]'hi24e2d).tasks 3).length : Int) = 0)) : Value)).trans (congrArg Value.bool h36)) rfl ?_)
        refine sx_nil ?_
        refine sx_if rfl (fun h47 => ?_) (fun h47 => ?_)
        · skip
          have h47p := of_decide_eq_true h47
          refine sx_region ?_
          refine sx rfl (stp_move (v := v7) hs15_3 ?_)
          refine sx rfl (stp_fieldAddr fa_Run_0 rfl ?_)
          refine sx rfl (stp_load_bx ld_int rfl rfl (st45.get 2 rfl) (i := 0) rfl rfl ?_)
          refine sx rfl (stp_buildSlice (cs := [I (y.runs[k]'hi24e2d).id]) (e := 3) (pcons (v := I (y.runs[k]'hi24e2d).id) rfl pnil) (run_buildSlice1 ap_IntS _ _ rfl rfl (by decide)) st45 ?_); intro b48 W49 hb50 st51
          have st53 := st51.f4
          refine sx rfl (stp_append_bx (ys := [(y.runs[k]'hi24e2d).id]) ap_IntS rfl rfl rfl st53 (Elems.int1 (yard_id hc (by omega))) (by unfold maxLen; omega) (by omega) ?_); intro v54 W55 st56
          refine sx rfl (stp_assign (v := v54) rfl ?_)
          refine sx_nil ?_
          refine sx_region ?_
          refine sx rfl (stp_add hs15_9 rfl (by (simp only [I64] at *; omega)) ?_)
          refine sx rfl (stp_move (v := I ((k : Int) + 1)) rfl ?_)
          refine sx_nil ?_
          have st57 := st56.f4
          have st58 := st57.f1
          have st59 := st58.d2
          have st60 := st59.d2
          have st61 := st60.d2
          exact ⟨_, y.runs.length - (k + 1), (by omega), rfl, k + 1, v54, (by omega), rfl, rfl, hs15_7, hs15_8, rfl, (by rw [idsOf_t (by omega) (by simp only [isStuck, Bool.and_eq_true, Bool.and_eq_false_iff, decide_eq_true_eq, decide_eq_false_iff_not]; omega)]; exact st61)⟩
        · skip
          have h47p := of_decide_eq_false h47
          refine wp_skip ?_
          refine sx_region ?_
          refine sx rfl (stp_add hs15_9 rfl (by (simp only [I64] at *; omega)) ?_)
          refine sx rfl (stp_move (v := I ((k : Int) + 1)) rfl ?_)
          refine sx_nil ?_
          have st62 := st45.f4
          have st63 := st62.f4
          have st64 := st63.d2
          have st65 := st64.d2
          have st66 := st65.d2
          exact ⟨_, y.runs.length - (k + 1), (by omega), rfl, k + 1, v7, (by omega), rfl, hs15_3, hs15_7, hs15_8, rfl, (by rw [idsOf_f (by omega) (by simp only [isStuck, Bool.and_eq_true, Bool.and_eq_false_iff, decide_eq_true_eq, decide_eq_false_iff_not]; omega)]; exact st66)⟩
  · skip
    have h16p := of_decide_eq_false h16
    refine wp_exit ?_
    refine wp_seq ?_
    refine sx_region ?_
    refine sx rfl (stp_move (v := v7) hs15_3 ?_)
    refine sx rfl (stp_assign (v := v7) rfl ?_)
    refine sx_nil ?_
    refine wp_ret ?_; repeat (first | refine then_ret ?_ | refine blk_ret ?_)
    refine ret1 Try.results9 rfl ?_
    obtain rfl : k = y.runs.length := by omega
    have hq_ := st14.shut
    obtain ⟨fpz, stz⟩ := hq_
    exact ⟨_, fpz, rfl, stz.only 0 rfl⟩
set_option maxHeartbeats 2000000 in
theorem StuckOfS (w : World) {y : Yard} {cs : List Value} {fp : List Nat} (hc : Shape.C w cs y fp)  (hw : y.wt ≤ 1048576) :
    Calls Try.prog 7 #[.agg cs.toArray] w fun e w' => ∃ (v : Value) (fp' : List Nat), e = .returned v ∧ St w w' [Res.own v (idsOf y isStuck y.runs.length) fp'] := by
  have hyr : y.runs.length ≤ y.wt := by unfold Yard.wt wtL; omega
  refine enter1 Try.func7 rfl Try.ntmps7 (by decide) ?_
  refine wp_seq ?_
  refine sx_region ?_
  refine sx rfl (stp_box_agg (cs := cs) rfl (St.start w) ?_); intro b1 W2 hb3 st4
  refine sx rfl (stp_assign (v := .slice none 0 0) rfl ?_)
  refine sx_nil ?_
  refine wp_seq ?_
  refine sx_region ?_
  refine sx rfl (stp_buildSlice (cs := []) (e := 3) pnil (run_buildSlice0 ap_IntS _) st4 ?_); intro b6 W7 hb8 st9
  have st9 := st9.row_empty (α := Int)
  refine sx rfl (stp_assign (v := (.slice (some ⟨b6, 0, none⟩) 0 0)) rfl ?_)
  refine sx_nil ?_
  refine wp_seq ?_
  refine wp_seq ?_
  refine sx_region ?_
  refine sx rfl (stp_assign (v := I 0) rfl ?_)
  refine sx_nil ?_
  refine wp_block ?_
  refine sx_loop (fun (m : Nat) (f : Nat → Value) (W : World) => ∃ (k : Nat) (v11 : Value), k ≤ y.runs.length ∧ m = y.runs.length - k ∧ f 1 = .pointer (some ⟨b1, 0, none⟩) ∧ f 3 = v11 ∧ f 4 = I (k : Int) ∧ St w W ([Res.row (α := Int) 3 v11 (idsOf y isStuck k) [], Res.bx b1 cs 32])) (y.runs.length - 0) ?_ ?_
  · exact ⟨0, (.slice (some ⟨b6, 0, none⟩) 0 0), (by first | omega | simp), rfl, rfl, rfl, rfl, st9⟩
  intro m12 f13 W14 hJ15
  obtain ⟨k, v11, hcd17_0, rfl, hs17_1, hs17_3, hs17_4, st16⟩ := hJ15
  have hil := idsOf_len y isStuck k
  refine wp_seq ?_
  refine wp_seq ?_
  refine sx_region ?_
  refine sx rfl (stp_move (v := I (k : Int)) hs17_4 ?_)
  refine sx rfl (stp_fieldAddr fa_Yard_3 hs17_1 ?_)
  have hk18 := hc
  obtain ⟨v18_0, v18_1, g18_0, g18_1, rfl, hok18, h18_0, h18_1, rfl⟩ := hk18
  refine sx rfl (stp_load_bx ld_RunS rfl rfl (st16.get 1 rfl) (i := 3) rfl rfl ?_)
  refine sx rfl (stp_len sl_RunS rfl h18_1 ?_)
  refine sx rfl (stp_lss rfl rfl ?_)
  refine sx_nil ?_
  refine sx_if rfl (fun h19 => ?_) (fun h19 => ?_)
  · skip
    have h19p := of_decide_eq_true h19
    refine wp_skip ?_
    refine wp_seq ?_
    refine wp_block ?_
    refine wp_seq ?_
    refine sx_region ?_
    refine sx rfl (stp_fieldAddr fa_Yard_3 hs17_1 ?_)
    refine sx rfl (stp_load_bx ld_RunS rfl rfl (st16.get 1 rfl) (i := 3) rfl rfl ?_)
    refine sx rfl (stp_move (v := I (k : Int)) hs17_4 ?_)
    have hyk := yard_run (y := y) (k := k) (by omega)
    have hrw : (y.runs[k]'(by omega)).tasks.length ≤ (y.runs[k]'(by omega)).wt := by unfold Run.wt; omega
    have ht2 := tin_len (y.runs[k]'(by omega)).tasks 2
    have ht3 := tin_len (y.runs[k]'(by omega)).tasks 3
    have hi24e2d : k < y.runs.length := (by omega)
    have hq_ := idx h18_1 (i := k) hi24e2d
    obtain ⟨b20, o20, cs20, f20, hp20, hr20, hc20, hm20⟩ := hq_
    refine sx rfl (stp_indexAddr sl_RunS rfl hp20 rfl rfl ?_)
    refine sx rfl (stp_load_rga ld_Run rfl rfl hr20 st16.below (Shape.len hc20) ?_)
    refine sx rfl (stp_alloc zz_Run st16 ?_); intro b21 W22 hb23 st24
    refine sx rfl (stp_store_all (cs := cs20) ld_Run hc20 rfl rfl st24 rfl ?_); intro W26 st27
    refine sx_nil ?_
    refine wp_seq ?_
    have hk28 := hc20
    obtain ⟨v28_0, v28_1, g28_0, g28_1, rfl, hok28, h28_0, h28_1, rfl⟩ := hk28
    rcases bd (decide ((y.runs[k]'hi24e2d).state = 1)) with h29 | h29
    · skip
      have h29p := of_decide_eq_false h29
      refine sx_any [Pl.is (.pointer (some ⟨b21, 0 + 6, none⟩)), Pl.is (I (y.runs[k]'hi24e2d).state), Pl.bool false, Pl.bool false, Pl.off, Pl.off, Pl.off, Pl.off, Pl.off, Pl.off, Pl.off, Pl.off, Pl.bool false] mix (by rfl) st27 ⟨(fun f W hst hbl hd hf => stp_fieldAddr fa_Run_2 ((hf 5 rfl).trans (show _ = (.pointer (some ⟨b21, 0, none⟩) : Value) from rfl)) ⟨Below.refl _ _, rfl⟩), (fun f W hst hbl hd hf => stp_load_bx ld_int rfl (hd 0 19 rfl rfl) (hst.get 0 rfl) (i := 6) rfl rfl ⟨Below.refl _ _, rfl⟩), (fun f W hst hbl hd hf => stp_eql (hd 1 20 rfl rfl) rfl ⟨Below.refl _ _, congrArg Value.bool h29⟩), (fun f W hst hbl hd hf => stp_move (v := .bool false) (hd 2 21 rfl rfl) ⟨Below.refl _ _, rfl⟩), (fun f W hst hbl hd hf => rfl), (fun f W hst hbl hd hf => rfl), (fun f W hst hbl hd hf => rfl), (fun f W hst hbl hd hf => rfl), (fun f W hst hbl hd hf => rfl), (fun f W hst hbl hd hf => rfl), (fun f W hst hbl hd hf => rfl), (fun f W hst hbl hd hf => rfl), (fun f W hst hbl hd hf => stp_pick_f (v := .bool false) (hd 3 22 rfl rfl) rfl ⟨Below.refl _ _, rfl⟩), trivial⟩ ?_
      intro f30 W31 st32 hb33 hv34 hf35
      refine sx_f (hv34 12 31 (by decide) rfl) rfl ?_
      refine wp_skip ?_
      refine sx_region ?_
      refine sx rfl (stp_move (v := I (k : Int)) ((hf35 4 rfl).trans hs17_4) ?_)
      refine sx rfl (stp_add rfl rfl (by (simp only [I64] at *; omega)) ?_)
      refine sx rfl (stp_assign (v := I ((k : Int) + 1)) rfl ?_)
      refine sx_nil ?_
      have st36 := st32.f2
      have st37 := st36.f2
      have st38 := st37.d2
      exact ⟨_, y.runs.length - (k + 1), (by omega), rfl, k + 1, v11, (by omega), rfl, ((hf35 1 rfl).trans hs17_1), ((hf35 3 rfl).trans hs17_3), rfl, (by rw [idsOf_f (by omega) (by simp only [isStuck, Bool.and_eq_true, Bool.and_eq_false_iff, decide_eq_true_eq, decide_eq_false_iff_not]; omega)]; exact st38)⟩
    · skip
      have h29p := of_decide_eq_true h29
      refine sx_any [Pl.is (.pointer (some ⟨b21, 0 + 6, none⟩)), Pl.is (I (y.runs[k]'hi24e2d).state), Pl.bool true, Pl.bool true, Pl.is (.agg #[I (y.runs[k]'hi24e2d).id, I (y.runs[k]'hi24e2d).plan.prio, I (y.runs[k]'hi24e2d).plan.most, I (y.runs[k]'hi24e2d).plan.wait, I (y.runs[k]'hi24e2d).plan.tasks, v28_0, I (y.runs[k]'hi24e2d).state, v28_1]), Pl.ssl (α := Int) (tasksIn (y.runs[k]'hi24e2d).tasks 3), Pl.is (I ((tasksIn (y.runs[k]'hi24e2d).tasks 3).length : Int)), Pl.is (.agg #[I (y.runs[k]'hi24e2d).id, I (y.runs[k]'hi24e2d).plan.prio, I (y.runs[k]'hi24e2d).plan.most, I (y.runs[k]'hi24e2d).plan.wait, I (y.runs[k]'hi24e2d).plan.tasks, v28_0, I (y.runs[k]'hi24e2d).state, v28_1]), Pl.ssl (α := Int) (tasksIn (y.runs[k]'hi24e2d).tasks 2), Pl.is (I ((tasksIn (y.runs[k]'hi24e2d).tasks 2).length : Int)), Pl.is (I (((tasksIn (y.runs[k]'hi24e2d).tasks 3).length : Int) + ((tasksIn (y.runs[k]'hi24e2d).tasks 2).length : Int))), Pl.bool (decide ((((tasksIn (y.runs[k]'hi24e2d).tasks 3).length : Int) + ((tasksIn (y.runs[k]'hi24e2d).tasks 2).length : Int)) = 0)), Pl.bool (decide ((((tasksIn (y.runs[k]'hi24e2d).tasks 3).length : Int) + ((tasksIn (y.runs[k]'hi24e2d).tasks 2).length : Int)) = 0))] mix (by rfl) st27 ⟨(fun f W hst hbl hd hf => stp_fieldAddr fa_Run_2 ((hf 5 rfl).trans (show _ = (.pointer (some ⟨b21, 0, none⟩) : Value) from rfl)) ⟨Below.refl _ _, rfl⟩), (fun f W hst hbl hd hf => stp_load_bx ld_int rfl (hd 0 19 rfl rfl) (hst.get 0 rfl) (i := 6) rfl rfl ⟨Below.refl _ _, rfl⟩), (fun f W hst hbl hd hf => stp_eql (hd 1 20 rfl rfl) rfl ⟨Below.refl _ _, congrArg Value.bool h29⟩), (fun f W hst hbl hd hf => stp_move (v := .bool true) (hd 2 21 rfl rfl) ⟨Below.refl _ _, rfl⟩), (fun f W hst hbl hd hf => stp_load_bxs (cs := [I (y.runs[k]'hi24e2d).id, I (y.runs[k]'hi24e2d).plan.prio, I (y.runs[k]'hi24e2d).plan.most, I (y.runs[k]'hi24e2d).plan.wait, I (y.runs[k]'hi24e2d).plan.tasks, v28_0, I (y.runs[k]'hi24e2d).state, v28_1]) ld_Run rfl ((hf 5 rfl).trans (show _ = (.pointer (some ⟨b21, 0, none⟩) : Value) from rfl)) (hst.get 0 rfl) rfl rfl ⟨Below.refl _ _, rfl⟩), (fun f W hst hbl hd hf => stp_call2 Try.func27 rfl (hd 4 23 rfl rfl) rfl ((TasksInS W (C_below hc20 hst.below) 3 (by omega)).mono (by rintro e W2 ⟨v, fp, rfl, hk⟩; exact ⟨_, rfl, hk.below, fp, own_Sl (hk.get 0 rfl)⟩))), (fun f W hst hbl hd hf => by obtain ⟨fp41, h41⟩ := hd 5 24 rfl rfl; exact stp_len sl_IntS rfl h41 ⟨Below.refl _ _, rfl⟩), (fun f W hst hbl hd hf => stp_load_bxs (cs := [I (y.runs[k]'hi24e2d).id, I (y.runs[k]'hi24e2d).plan.prio, I (y.runs[k]'hi24e2d).plan.most, I (y.runs[k]'hi24e2d).plan.wait, I (y.runs[k]'hi24e2d).plan.tasks, v28_0, I (y.runs[k]'hi24e2d).state, v28_1]) ld_Run rfl ((hf 5 rfl).trans (show _ = (.pointer (some ⟨b21, 0, none⟩) : Value) from rfl)) (hst.get 0 rfl) rfl rfl ⟨Below.refl _ _, rfl⟩), (fun f W hst hbl hd hf => stp_call2 Try.func27 rfl (hd 7 26 rfl rfl) rfl ((TasksInS W (C_below hc20 hst.below) 2 (by omega)).mono (by rintro e W2 ⟨v, fp, rfl, hk⟩; exact ⟨_, rfl, hk.below, fp, own_Sl (hk.get 0 rfl)⟩))), (fun f W hst hbl hd hf => by obtain ⟨fp44, h44⟩ := hd 8 27 rfl rfl; exact stp_len sl_IntS rfl h44 ⟨Below.refl _ _, rfl⟩), (fun f W hst hbl hd hf => stp_add (hd 6 25 rfl rfl) (hd 9 28 rfl rfl) (by (simp only [I64] at *; omega)) ⟨Below.refl _ _, rfl⟩), (fun f W hst hbl hd hf => stp_eql (hd 10 29 rfl rfl) rfl ⟨Below.refl _ _, rfl⟩), (fun f W hst hbl hd hf => stp_pick_t (v := .bool (decide ((((tasksIn (y.runs[k]'hi24e2d).tasks 3).length : Int) + ((tasksIn (y.runs[k]'hi24e2d).tasks 2).length : Int)) = 0))) (hd 3 22 rfl rfl) (hd 11 30 rfl rfl) ⟨Below.refl _ _, rfl⟩), trivial⟩ ?_
      intro f45 W46 st47 hb48 hv49 hf50
      refine sx_if (hv49 12 31 (by decide) rfl) (fun h51 => ?_) (fun h51 => ?_)
      · skip
        have h51p := of_decide_eq_true h51
        refine sx_region ?_
        refine sx rfl (stp_move (v := v11) ((hf50 3 rfl).trans hs17_3) ?_)
        refine sx rfl (stp_fieldAddr fa_Run_0 ((hf50 5 rfl).trans (show _ = (.pointer (some ⟨b21, 0, none⟩) : Value) from rfl)) ?_)
        refine sx rfl (stp_load_bx ld_int rfl rfl (st47.get 0 rfl) (i := 0) rfl rfl ?_)
        refine sx rfl (stp_buildSlice (cs := [I (y.runs[k]'hi24e2d).id]) (e := 3) (pcons (v := I (y.runs[k]'hi24e2d).id) rfl pnil) (run_buildSlice1 ap_IntS _ _ rfl rfl (by decide)) st47 ?_); intro b52 W53 hb54 st55
        have st57 := st55.f2
        refine sx rfl (stp_append_bx (ys := [(y.runs[k]'hi24e2d).id]) ap_IntS rfl rfl rfl st57 (Elems.int1 (yard_id hc (by omega))) (by unfold maxLen; omega) (by omega) ?_); intro v58 W59 st60
        refine sx rfl (stp_assign (v := v58) rfl ?_)
        refine sx_nil ?_
        refine sx_region ?_
        refine sx rfl (stp_move (v := I (k : Int)) ((hf50 4 rfl).trans hs17_4) ?_)
        refine sx rfl (stp_add rfl rfl (by (simp only [I64] at *; omega)) ?_)
        refine sx rfl (stp_assign (v := I ((k : Int) + 1)) rfl ?_)
        refine sx_nil ?_
        have st61 := st60.f2
        have st62 := st61.f1
        have st63 := st62.d2
        exact ⟨_, y.runs.length - (k + 1), (by omega), rfl, k + 1, v58, (by omega), rfl, ((hf50 1 rfl).trans hs17_1), rfl, rfl, (by rw [idsOf_t (by omega) (by simp only [isStuck, Bool.and_eq_true, Bool.and_eq_false_iff, decide_eq_true_eq, decide_eq_false_iff_not]; omega)]; exact st63)⟩
      · skip
        have h51p := of_decide_eq_false h51
        refine wp_skip ?_
        refine sx_region ?_
        refine sx rfl (stp_move (v := I (k : Int)) ((hf50 4 rfl).trans hs17_4) ?_)
        refine sx rfl (stp_add rfl rfl (by (simp only [I64] at *; omega)) ?_)
        refine sx rfl (stp_assign (v := I ((k : Int) + 1)) rfl ?_)
        refine sx_nil ?_
        have st64 := st47.f2
        have st65 := st64.f2
        have st66 := st65.d2
        exact ⟨_, y.runs.length - (k + 1), (by omega), rfl, k + 1, v11, (by omega), rfl, ((hf50 1 rfl).trans hs17_1), ((hf50 3 rfl).trans hs17_3), rfl, (by rw [idsOf_f (by omega) (by simp only [isStuck, Bool.and_eq_true, Bool.and_eq_false_iff, decide_eq_true_eq, decide_eq_false_iff_not]; omega)]; exact st66)⟩
  · skip
    have h19p := of_decide_eq_false h19
    refine wp_exit ?_
    refine wp_seq ?_
    refine sx_region ?_
    refine sx rfl (stp_move (v := v11) hs17_3 ?_)
    refine sx rfl (stp_assign (v := v11) rfl ?_)
    refine sx_nil ?_
    refine wp_ret ?_; repeat (first | refine then_ret ?_ | refine blk_ret ?_)
    refine ret1 Try.results7 rfl ?_
    obtain rfl : k = y.runs.length := by omega
    have hq_ := st16.shut
    obtain ⟨fpz, stz⟩ := hq_
    exact ⟨_, fpz, rfl, stz.only 0 rfl⟩
end Go.Proofs.Ytpkfgalpjaoebaa
