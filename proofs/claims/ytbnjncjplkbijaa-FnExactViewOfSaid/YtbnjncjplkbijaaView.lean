/-
  ViewOf, CountsOf, BusyOf, StuckOf, of the program and of the reference. (Printed by a program of this project's.)
-/
import Derived.Test.YtbnjncjplkbijaaReady
namespace Go.Proofs.Ytbnjncjplkbijaa
set_option linter.unusedSimpArgs false
set_option linter.unusedVariables false
set_option maxRecDepth 100000
open Go.RowKit


/-- The counts of the tasks, added to a view. -/
def addC (v : View) (ts : List Task) : View := ⟨v.state, v.waits + (tasksIn ts 1).length, v.ready + (tasksIn ts 2).length, v.runs + (tasksIn ts 3).length, v.done + (tasksIn ts 4).length, v.failed + (tasksIn ts 5).length, v.left + (tasksIn ts 6).length⟩
def viewR (r : Run) : View := ⟨r.state, (tasksIn r.tasks 1).length, (tasksIn r.tasks 2).length, (tasksIn r.tasks 3).length, (tasksIn r.tasks 4).length, (tasksIn r.tasks 5).length, (tasksIn r.tasks 6).length⟩
theorem view_add (r : Run) : addC ⟨r.state, 0, 0, 0, 0, 0, 0⟩ r.tasks = viewR r := by simp [addC, viewR]
theorem tin_len (ts : List Task) (s : Int) : (tasksIn ts s).length ≤ ts.length := tasksTo_len ts s ts.length
theorem tin_step (ts : List Task) (s : Int) {k : Nat} (h : k < ts.length) : (tasksIn (ts.take (k + 1)) s).length = (tasksIn (ts.take k) s).length + (if ts[k].state = s then 1 else 0) := by
  rw [tasksIn_count, tasksIn_count, List.take_succ_eq_append_getElem h, List.countP_append]
  by_cases hs : ts[k].state = s <;> simp [hs]
theorem addC_0 (v : View) (ts : List Task) : addC v (ts.take 0) = v := by simp [addC, tasksIn, tasksTo]
def View.small (v : View) (n : Nat) : Prop := (0 ≤ v.waits ∧ v.waits ≤ n) ∧ (0 ≤ v.ready ∧ v.ready ≤ n) ∧ (0 ≤ v.runs ∧ v.runs ≤ n) ∧ (0 ≤ v.done ∧ v.done ≤ n) ∧ (0 ≤ v.failed ∧ v.failed ≤ n) ∧ (0 ≤ v.left ∧ v.left ≤ n)
theorem addC_small {v : View} {n : Nat} (h : v.small n) (ts : List Task) : (addC v ts).small (n + ts.length) := by
  have h1 := tin_len ts 1
  have h2 := tin_len ts 2
  have h3 := tin_len ts 3
  have h4 := tin_len ts 4
  have h5 := tin_len ts 5
  have h6 := tin_len ts 6
  unfold View.small addC at *
  simp only
  omega
theorem addC_take {v : View} {n : Nat} (h : v.small n) (ts : List Task) (k : Nat) : (addC v (ts.take k)).small (n + k) := by
  have h1 := addC_small h (ts.take k)
  have h2 := List.length_take_le k ts
  unfold View.small at *
  omega
theorem addC_ok {v : View} {n : Nat} (h : v.small n) (hs : I64 v.state) (ts : List Task) (hb : n + ts.length ≤ 4611686018427387904) : (addC v ts).ok := by
  have h1 := addC_small h ts
  have h2 : (addC v ts).state = v.state := rfl
  unfold View.small at h1
  unfold View.ok I64 at *
  omega
theorem viewR_ok {r : Run} (h : I64 r.state) (hl : r.tasks.length ≤ 1048576) : (viewR r).ok := by
  rw [← view_add]
  exact addC_ok (n := 0) (by simp [View.small]) h _ (by omega)
def zV : View := ⟨0, 0, 0, 0, 0, 0, 0⟩
theorem zV_ok : zV.ok := by simp [View.ok, zV, I64]
def viewY (y : Yard) (id : Int) : View × Bool :=
  match runIx y id with
  | none => (zV, false)
  | some k => match y.runs[k]? with
    | none => (zV, false)
    | some r => (viewR r, true)
def cntTo (y : Yard) : Nat → View
  | 0 => ⟨y.runs.length, 0, 0, 0, 0, 0, 0⟩
  | k + 1 => match y.runs[k]? with
    | some r => addC (cntTo y k) r.tasks
    | none => cntTo y k
theorem cntTo_s {y : Yard} {k : Nat} (h : k < y.runs.length) : cntTo y (k + 1) = addC (cntTo y k) y.runs[k].tasks := by rw [cntTo, List.getElem?_eq_getElem h]
theorem cntTo_state (y : Yard) : ∀ k, (cntTo y k).state = y.runs.length
  | 0 => rfl
  | k + 1 => by
    rw [cntTo]
    split
    · show (cntTo y k).state = _; exact cntTo_state y k
    · exact cntTo_state y k
def tlen (y : Yard) (k : Nat) : Nat := ((y.runs.take k).map (fun r => r.tasks.length)).sum
theorem cntTo_small (y : Yard) : ∀ k, k ≤ y.runs.length → (cntTo y k).small (tlen y k)
  | 0, _ => by simp [cntTo, View.small]
  | k + 1, h => by
    have ih := cntTo_small y k (by omega)
    rw [cntTo_s (by omega)]
    have h1 := addC_small ih y.runs[k].tasks
    have e : tlen y (k + 1) = tlen y k + y.runs[k].tasks.length := wtL_take (fun r : Run => r.tasks.length) y.runs k (by omega)
    rw [e]; exact h1
theorem tlen_le (y : Yard) (k : Nat) : tlen y k ≤ y.wt := by
  have h1 := wtL_take_le (fun r : Run => r.tasks.length) y.runs k
  have h2 : (y.runs.map (fun r => r.tasks.length)).sum ≤ (y.runs.map (fun r : Run => r.wt)).sum := sum_le (fun r => by unfold Run.wt; omega) y.runs
  unfold tlen Yard.wt wtL
  omega
/-- The ids of the runs that a test takes. -/
def idsOf (y : Yard) (p : Run → Bool) (k : Nat) : List Int := ((y.runs.take k).filter p).map Run.id
theorem idsOf_t {y : Yard} {p : Run → Bool} {k : Nat} (h : k < y.runs.length) (hp : p y.runs[k] = true) : idsOf y p (k + 1) = idsOf y p k ++ [y.runs[k].id] := by
  unfold idsOf; rw [filt_to h hp, List.map_append]; rfl
theorem idsOf_f {y : Yard} {p : Run → Bool} {k : Nat} (h : k < y.runs.length) (hp : p y.runs[k] = false) : idsOf y p (k + 1) = idsOf y p k := by
  unfold idsOf; rw [filt_to_f h hp]
theorem idsOf_len (y : Yard) (p : Run → Bool) (k : Nat) : (idsOf y p k).length ≤ y.runs.length := by
  unfold idsOf
  rw [List.length_map]
  have h1 := List.length_filter_le p (y.runs.take k)
  have h2 := List.length_take (i := k) (l := y.runs)
  omega
def isBusy (r : Run) : Bool := decide (0 < (tasksIn r.tasks 3).length)
def isStuck (r : Run) : Bool := decide (r.state = 1) && decide ((tasksIn r.tasks 3).length = 0) && decide ((tasksIn r.tasks 2).length = 0)
theorem addC_1 {v : View} {ts : List Task} {k : Nat} (h : k < ts.length) (hs : ts[k].state = 1) : addC v (ts.take (k + 1)) = { addC v (ts.take k) with waits := (addC v (ts.take k)).waits + 1 } := by
  simp only [addC, tin_step ts _ h, hs]
  simp [Int.add_assoc]
theorem addC_2 {v : View} {ts : List Task} {k : Nat} (h : k < ts.length) (hs : ts[k].state = 2) : addC v (ts.take (k + 1)) = { addC v (ts.take k) with ready := (addC v (ts.take k)).ready + 1 } := by
  simp only [addC, tin_step ts _ h, hs]
  simp [Int.add_assoc]
theorem addC_3 {v : View} {ts : List Task} {k : Nat} (h : k < ts.length) (hs : ts[k].state = 3) : addC v (ts.take (k + 1)) = { addC v (ts.take k) with runs := (addC v (ts.take k)).runs + 1 } := by
  simp only [addC, tin_step ts _ h, hs]
  simp [Int.add_assoc]
theorem addC_4 {v : View} {ts : List Task} {k : Nat} (h : k < ts.length) (hs : ts[k].state = 4) : addC v (ts.take (k + 1)) = { addC v (ts.take k) with done := (addC v (ts.take k)).done + 1 } := by
  simp only [addC, tin_step ts _ h, hs]
  simp [Int.add_assoc]
theorem addC_5 {v : View} {ts : List Task} {k : Nat} (h : k < ts.length) (hs : ts[k].state = 5) : addC v (ts.take (k + 1)) = { addC v (ts.take k) with failed := (addC v (ts.take k)).failed + 1 } := by
  simp only [addC, tin_step ts _ h, hs]
  simp [Int.add_assoc]
theorem addC_6 {v : View} {ts : List Task} {k : Nat} (h : k < ts.length) (hs : ts[k].state = 6) : addC v (ts.take (k + 1)) = { addC v (ts.take k) with left := (addC v (ts.take k)).left + 1 } := by
  simp only [addC, tin_step ts _ h, hs]
  simp [Int.add_assoc]
theorem addC_n {v : View} {ts : List Task} {k : Nat} (h : k < ts.length) (h1 : ¬ ts[k].state = 1) (h2 : ¬ ts[k].state = 2) (h3 : ¬ ts[k].state = 3) (h4 : ¬ ts[k].state = 4) (h5 : ¬ ts[k].state = 5) (h6 : ¬ ts[k].state = 6) : addC v (ts.take (k + 1)) = addC v (ts.take k) := by
  simp only [addC, tin_step ts _ h, if_neg h1, if_neg h2, if_neg h3, if_neg h4, if_neg h5, if_neg h6, Nat.add_zero]

theorem run_ok {w : World} {cs : List Value} {r : Run} {fp : List Nat} (h : Shape.C w cs r fp) : r.ok := by obtain ⟨_, _, _, _, _, hok, _⟩ := h; exact hok
theorem yard_get {w : World} {cs : List Value} {y : Yard} {fp : List Nat} (h : Shape.C w cs y fp) {k : Nat} (hk : k < y.runs.length) : y.runs[k].ok := by
  obtain ⟨_, _, _, _, _, _, _, h2, _⟩ := h
  obtain ⟨_, _, _, _, _, _, hc, _⟩ := idx h2 hk
  exact run_ok hc
theorem yard_state {w : World} {cs : List Value} {y : Yard} {fp : List Nat} (h : Shape.C w cs y fp) {k : Nat} (hk : k < y.runs.length) : I64 y.runs[k].state := (yard_get h hk).2.2
theorem yard_id {w : World} {cs : List Value} {y : Yard} {fp : List Nat} (h : Shape.C w cs y fp) {k : Nat} (hk : k < y.runs.length) : I64 y.runs[k].id := (yard_get h hk).1

set_option maxHeartbeats 2000000 in
theorem viewC (w : World) {r : Run} {cs : List Value} {fp : List Nat} (hc : Shape.C w cs r fp) {b : Nat} {t : TypeId} (hB : (Res.bx b cs t).holds w) (s : Int) (hl : r.tasks.length ≤ 1048576) :
    Calls Try.prog 103 #[I s, .pointer (some ⟨b, 0, none⟩)] w fun e w' => e = .returned (I ((tasksIn r.tasks s).length : Int)) ∧ St w w' [] := by
  refine enter2 Try.func103 rfl Try.ntmps103 (by decide) ?_
  refine wp_seq ?_
  refine sx_region ?_
  refine sx rfl (stp_assign rfl ?_)
  refine sx_nil ?_
  refine wp_seq ?_
  refine sx_region ?_
  refine sx rfl (stp_load_rga ld_Run rfl rfl (range_of_heap hB) (Below.refl _ _) (Shape.len hc) ?_)
  refine sx rfl (stp_move rfl ?_)
  refine sx rfl (stp_call2 Try.func76 rfl rfl rfl ((TasksInI w hc s (by omega)).mono ?_)); rintro _ W3 ⟨v1, fp1, rfl, hk4⟩; refine ⟨_, rfl, ?_⟩
  have st5 := St.call (St.start w) hk4
  refine sx rfl (stp_len sl_IntS rfl (own_Sl (st5.get 0 rfl)) ?_)
  refine sx rfl (stp_assign rfl ?_)
  refine sx_nil ?_
  refine wp_ret ?_; repeat (first | refine then_ret ?_ | refine blk_ret ?_)
  refine ret1 Try.results103 rfl ?_
  exact ⟨rfl, st5.bare⟩
set_option maxHeartbeats 2000000 in
theorem viewI (w : World) {r : Run} {cs : List Value} {fp : List Nat} (hc : Shape.C w cs r fp) (hl : r.tasks.length ≤ 1048576) :
    Calls Try.prog 80 #[.agg cs.toArray] w fun e w' => e = .returned (.agg #[I (viewR r).state, I (viewR r).waits, I (viewR r).ready, I (viewR r).runs, I (viewR r).done, I (viewR r).failed, I (viewR r).left]) ∧ (viewR r).ok ∧ St w w' [] := by
  refine enter1 Try.func80 rfl Try.ntmps80 (by decide) ?_
  refine wp_seq ?_
  refine sx_region ?_
  refine sx rfl (stp_box_agg (cs := cs) rfl (St.start w) ?_); intro b1 W2 hb3 st4
  refine sx rfl (stp_alloc zz_View st4 ?_); intro b6 W7 hb8 st9
  refine sx_nil ?_
  refine wp_seq ?_
  refine sx_region ?_
  refine sx rfl (stp_makeFunc mnil (mcons (v := .pointer (some ⟨b1, 0, none⟩)) rfl mnil) ?_)
  refine sx rfl (stp_assign rfl ?_)
  refine sx_nil ?_
  refine wp_seq ?_
  have hk11 := hc
  obtain ⟨v11_0, v11_1, g11_0, g11_1, rfl, hok11, h11_0, h11_1, rfl⟩ := hk11
  refine sx_anyK 15 [Pl.is (.pointer (some ⟨b1, 0 + 6, none⟩)), Pl.is (I r.state), Pl.is (.func (.func 103) #[] #[.pointer (some ⟨b1, 0, none⟩)]), Pl.is (I ((tasksIn r.tasks 1).length : Int)), Pl.is (.func (.func 103) #[] #[.pointer (some ⟨b1, 0, none⟩)]), Pl.is (I ((tasksIn r.tasks 2).length : Int)), Pl.is (.func (.func 103) #[] #[.pointer (some ⟨b1, 0, none⟩)]), Pl.is (I ((tasksIn r.tasks 3).length : Int)), Pl.is (.func (.func 103) #[] #[.pointer (some ⟨b1, 0, none⟩)]), Pl.is (I ((tasksIn r.tasks 4).length : Int)), Pl.is (.func (.func 103) #[] #[.pointer (some ⟨b1, 0, none⟩)]), Pl.is (I ((tasksIn r.tasks 5).length : Int)), Pl.is (.func (.func 103) #[] #[.pointer (some ⟨b1, 0, none⟩)]), Pl.is (I ((tasksIn r.tasks 6).length : Int)), Pl.is (.agg #[I r.state, I ((tasksIn r.tasks 1).length : Int), I ((tasksIn r.tasks 2).length : Int), I ((tasksIn r.tasks 3).length : Int), I ((tasksIn r.tasks 4).length : Int), I ((tasksIn r.tasks 5).length : Int), I ((tasksIn r.tasks 6).length : Int)])] mix (by rfl) (by rfl) st9 ⟨(fun f W hst hbl hd hf => stp_fieldAddr fa_Run_2 ((hf 1 rfl).trans (show _ = (.pointer (some ⟨b1, 0, none⟩) : Value) from rfl)) ⟨Below.refl _ _, rfl⟩), (fun f W hst hbl hd hf => stp_load_bx ld_int rfl (hd 0 5 rfl rfl) (hst.get 1 rfl) (i := 6) rfl rfl ⟨Below.refl _ _, rfl⟩), (fun f W hst hbl hd hf => stp_move ((hf 3 rfl).trans (show _ = (.func (.func 103) #[] #[.pointer (some ⟨b1, 0, none⟩)] : Value) from rfl)) ⟨Below.refl _ _, rfl⟩), (fun f W hst hbl hd hf => stp_callf (first := []) (capt := [.pointer (some ⟨b1, 0, none⟩)]) Try.func103 rfl (hd 2 7 rfl rfl) (mcons (v := I 1) rfl mnil) ((viewC W (C_below hc hst.below) (hst.get 1 rfl) 1 hl).mono (by rintro e W2 ⟨rfl, hk⟩; exact ⟨_, rfl, hk.below, rfl⟩))), (fun f W hst hbl hd hf => stp_move ((hf 3 rfl).trans (show _ = (.func (.func 103) #[] #[.pointer (some ⟨b1, 0, none⟩)] : Value) from rfl)) ⟨Below.refl _ _, rfl⟩), (fun f W hst hbl hd hf => stp_callf (first := []) (capt := [.pointer (some ⟨b1, 0, none⟩)]) Try.func103 rfl (hd 4 9 rfl rfl) (mcons (v := I 2) rfl mnil) ((viewC W (C_below hc hst.below) (hst.get 1 rfl) 2 hl).mono (by rintro e W2 ⟨rfl, hk⟩; exact ⟨_, rfl, hk.below, rfl⟩))), (fun f W hst hbl hd hf => stp_move ((hf 3 rfl).trans (show _ = (.func (.func 103) #[] #[.pointer (some ⟨b1, 0, none⟩)] : Value) from rfl)) ⟨Below.refl _ _, rfl⟩), (fun f W hst hbl hd hf => stp_callf (first := []) (capt := [.pointer (some ⟨b1, 0, none⟩)]) Try.func103 rfl (hd 6 11 rfl rfl) (mcons (v := I 3) rfl mnil) ((viewC W (C_below hc hst.below) (hst.get 1 rfl) 3 hl).mono (by rintro e W2 ⟨rfl, hk⟩; exact ⟨_, rfl, hk.below, rfl⟩))), (fun f W hst hbl hd hf => stp_move ((hf 3 rfl).trans (show _ = (.func (.func 103) #[] #[.pointer (some ⟨b1, 0, none⟩)] : Value) from rfl)) ⟨Below.refl _ _, rfl⟩), (fun f W hst hbl hd hf => stp_callf (first := []) (capt := [.pointer (some ⟨b1, 0, none⟩)]) Try.func103 rfl (hd 8 13 rfl rfl) (mcons (v := I 4) rfl mnil) ((viewC W (C_below hc hst.below) (hst.get 1 rfl) 4 hl).mono (by rintro e W2 ⟨rfl, hk⟩; exact ⟨_, rfl, hk.below, rfl⟩))), (fun f W hst hbl hd hf => stp_move ((hf 3 rfl).trans (show _ = (.func (.func 103) #[] #[.pointer (some ⟨b1, 0, none⟩)] : Value) from rfl)) ⟨Below.refl _ _, rfl⟩), (fun f W hst hbl hd hf => stp_callf (first := []) (capt := [.pointer (some ⟨b1, 0, none⟩)]) Try.func103 rfl (hd 10 15 rfl rfl) (mcons (v := I 5) rfl mnil) ((viewC W (C_below hc hst.below) (hst.get 1 rfl) 5 hl).mono (by rintro e W2 ⟨rfl, hk⟩; exact ⟨_, rfl, hk.below, rfl⟩))), (fun f W hst hbl hd hf => stp_move ((hf 3 rfl).trans (show _ = (.func (.func 103) #[] #[.pointer (some ⟨b1, 0, none⟩)] : Value) from rfl)) ⟨Below.refl _ _, rfl⟩), (fun f W hst hbl hd hf => stp_callf (first := []) (capt := [.pointer (some ⟨b1, 0, none⟩)]) Try.func103 rfl (hd 12 17 rfl rfl) (mcons (v := I 6) rfl mnil) ((viewC W (C_below hc hst.below) (hst.get 1 rfl) 6 hl).mono (by rintro e W2 ⟨rfl, hk⟩; exact ⟨_, rfl, hk.below, rfl⟩))), (fun f W hst hbl hd hf => stp_build (vs := [(0, I r.state), (1, I ((tasksIn r.tasks 1).length : Int)), (2, I ((tasksIn r.tasks 2).length : Int)), (3, I ((tasksIn r.tasks 3).length : Int)), (4, I ((tasksIn r.tasks 4).length : Int)), (5, I ((tasksIn r.tasks 5).length : Int)), (6, I ((tasksIn r.tasks 6).length : Int))]) (cs := [I r.state, I ((tasksIn r.tasks 1).length : Int), I ((tasksIn r.tasks 2).length : Int), I ((tasksIn r.tasks 3).length : Int), I ((tasksIn r.tasks 4).length : Int), I ((tasksIn r.tasks 5).length : Int), I ((tasksIn r.tasks 6).length : Int)]) (pcons (v := I r.state) (hd 1 6 rfl rfl) (pcons (v := I ((tasksIn r.tasks 1).length : Int)) (hd 3 8 rfl rfl) (pcons (v := I ((tasksIn r.tasks 2).length : Int)) (hd 5 10 rfl rfl) (pcons (v := I ((tasksIn r.tasks 3).length : Int)) (hd 7 12 rfl rfl) (pcons (v := I ((tasksIn r.tasks 4).length : Int)) (hd 9 14 rfl rfl) (pcons (v := I ((tasksIn r.tasks 5).length : Int)) (hd 11 16 rfl rfl) (pcons (v := I ((tasksIn r.tasks 6).length : Int)) (hd 13 18 rfl rfl) pnil))))))) (by kernel_rfl) ⟨Below.refl _ _, rfl⟩), trivial⟩ ?_
  intro f12 W13 st14 hb15 hv16 hf17
  refine sx rfl (stp_store_agg (cs := [I r.state, I ((tasksIn r.tasks 1).length : Int), I ((tasksIn r.tasks 2).length : Int), I ((tasksIn r.tasks 3).length : Int), I ((tasksIn r.tasks 4).length : Int), I ((tasksIn r.tasks 5).length : Int), I ((tasksIn r.tasks 6).length : Int)]) (C' := [I r.state, I ((tasksIn r.tasks 1).length : Int), I ((tasksIn r.tasks 2).length : Int), I ((tasksIn r.tasks 3).length : Int), I ((tasksIn r.tasks 4).length : Int), I ((tasksIn r.tasks 5).length : Int), I ((tasksIn r.tasks 6).length : Int)]) (by kernel_rfl) ((hf17 2 rfl).trans (show _ = (.pointer (some ⟨b6, 0, none⟩) : Value) from rfl)) (hv16 14 19 (by decide) rfl) (one_cons rfl (one_cons rfl (one_cons rfl (one_cons rfl (one_cons rfl (one_cons rfl (one_cons rfl one_nil))))))) st14 (Nat.le_of_ble_eq_true rfl) rfl ?_); intro W18 st19
  refine sx_nil ?_
  refine wp_ret ?_; repeat (first | refine then_ret ?_ | refine blk_ret ?_)
  refine retc1 ld_View rfl Try.results80 ((hf17 2 rfl).trans (show _ = (.pointer (some ⟨b6, 0, none⟩) : Value) from rfl)) (st19.get 0 rfl) rfl ?_
  exact ⟨rfl, viewR_ok (run_ok hc).2.2 hl, st19.bare⟩
set_option maxHeartbeats 2000000 in
theorem viewS (w : World) {v : View} {vs : List Value} {vp : List Nat} (hcv : Shape.C w vs v vp) {r : Run} {cs : List Value} {fp : List Nat} (hc : Shape.C w cs r fp) {n : Nat} (hv : v.small n) (hs : I64 v.state) (hl : r.tasks.length ≤ 1048576) (hn : n ≤ 1048576) :
    Calls Try.prog 79 #[.agg vs.toArray, .agg cs.toArray] w fun e w' => e = .returned (.agg #[I (addC v r.tasks).state, I (addC v r.tasks).waits, I (addC v r.tasks).ready, I (addC v r.tasks).runs, I (addC v r.tasks).done, I (addC v r.tasks).failed, I (addC v r.tasks).left]) ∧ (addC v r.tasks).ok ∧ St w w' [] := by
  refine enter2 Try.func79 rfl Try.ntmps79 (by decide) ?_
  refine wp_seq ?_
  refine sx_region ?_
  refine sx rfl (stp_box_agg (cs := vs) rfl (St.start w) ?_); intro b1 W2 hb3 st4
  refine sx rfl (stp_box_agg (cs := cs) rfl st4 ?_); intro b6 W7 hb8 st9
  refine sx rfl (stp_alloc zz_View st9 ?_); intro b11 W12 hb13 st14
  refine sx_nil ?_
  refine wp_seq ?_
  refine wp_seq ?_
  refine sx_region ?_
  refine sx rfl (stp_assign rfl ?_)
  refine sx_nil ?_
  refine wp_block ?_
  refine sx_loop (fun (m : Nat) (f : Nat → Value) (W : World) => ∃ (k : Nat), k ≤ r.tasks.length ∧ m = r.tasks.length - k ∧ f 2 = .pointer (some ⟨b1, 0, none⟩) ∧ f 3 = .pointer (some ⟨b6, 0, none⟩) ∧ f 4 = .pointer (some ⟨b11, 0, none⟩) ∧ f 5 = I (k : Int) ∧ St w W ([Res.bx b11 [I 0, I 0, I 0, I 0, I 0, I 0, I 0] 85, Res.bx b6 cs 109, Res.bx b1 [I (addC v (r.tasks.take k)).state, I (addC v (r.tasks.take k)).waits, I (addC v (r.tasks.take k)).ready, I (addC v (r.tasks.take k)).runs, I (addC v (r.tasks.take k)).done, I (addC v (r.tasks.take k)).failed, I (addC v (r.tasks.take k)).left] 85])) (r.tasks.length - 0) ?_ ?_
  have hk22 := hcv
  obtain ⟨he22, rfl, hok22⟩ := hk22
  have he22 : _ = [I v.state, I v.waits, I v.ready, I v.runs, I v.done, I v.failed, I v.left] := he22
  subst he22
  · exact ⟨0, Nat.zero_le _, rfl, rfl, rfl, rfl, rfl, (by rw [addC_0]; exact st14)⟩
  intro m16 f17 W18 hJ19
  obtain ⟨k, hk, rfl, hs21_2, hs21_3, hs21_4, hs21_5, st20⟩ := hJ19
  have hsm := addC_take hv r.tasks k
  unfold View.small at hsm
  refine wp_seq ?_
  refine wp_seq ?_
  refine sx_region ?_
  refine sx rfl (stp_move hs21_5 ?_)
  refine sx rfl (stp_fieldAddr fa_Run_3 hs21_3 ?_)
  have hk23 := hc
  obtain ⟨v23_0, v23_1, g23_0, g23_1, rfl, hok23, h23_0, h23_1, rfl⟩ := hk23
  refine sx rfl (stp_load_bx ld_TaskS rfl rfl (st20.get 1 rfl) (i := 7) rfl rfl ?_)
  refine sx rfl (stp_len sl_TaskS rfl h23_1 ?_)
  refine sx rfl (stp_lss rfl rfl ?_)
  refine sx_nil ?_
  refine sx_if rfl (fun h24 => ?_) (fun h24 => ?_)
  · skip
    have h24p := of_decide_eq_true h24
    refine wp_skip ?_
    refine wp_seq ?_
    refine wp_block ?_
    refine wp_seq ?_
    refine sx_region ?_
    refine sx rfl (stp_fieldAddr fa_Run_3 hs21_3 ?_)
    refine sx rfl (stp_load_bx ld_TaskS rfl rfl (st20.get 1 rfl) (i := 7) rfl rfl ?_)
    refine sx rfl (stp_move hs21_5 ?_)
    have hif4d94 : k < r.tasks.length := (by omega)
    have hq_ := idx h23_1 (i := k) hif4d94
    obtain ⟨b25, o25, cs25, f25, hp25, hr25, hc25, hm25⟩ := hq_
    refine sx rfl (stp_indexAddr sl_TaskS rfl hp25 rfl rfl ?_)
    refine sx rfl (stp_fieldAddr fa_Task_0 rfl ?_)
    have hk26 := hc25
    obtain ⟨he26, rfl, hok26⟩ := hk26
    have he26 : _ = [I (r.tasks[k]'hif4d94).state, I (r.tasks[k]'hif4d94).need, I (r.tasks[k]'hif4d94).try_, I (r.tasks[k]'hif4d94).until_] := he26
    subst he26
    refine sx rfl (stp_load_rg ld_int rfl rfl hr25 st20.below (i := 0) rfl rfl ?_)
    refine sx_nil ?_
    refine wp_block ?_
    refine wp_seq ?_
    refine sx_region ?_
    refine sx rfl (stp_eql rfl rfl ?_)
    refine sx rfl (stp_assign rfl ?_)
    refine sx_nil ?_
    refine sx_if rfl (fun h27 => ?_) (fun h27 => ?_)
    · skip
      have h27p := of_decide_eq_true h27
      refine sx_region ?_
      refine sx rfl (stp_fieldAddr fa_View_1 hs21_2 ?_)
      refine sx rfl (stp_load_bx ld_int rfl rfl (st20.get 2 rfl) (i := 1) rfl rfl ?_)
      refine sx rfl (stp_add rfl rfl (by (simp only [I64] at *; omega)) ?_)
      refine sx rfl (stp_fieldAddr fa_View_1 hs21_2 ?_)
      have st28 := st20.f2
      refine sx rfl (stp_store_one (v := I ((addC v (r.tasks.take k)).waits + 1)) (C' := [I (addC v (r.tasks.take k)).state, I ((addC v (r.tasks.take k)).waits + 1), I (addC v (r.tasks.take k)).ready, I (addC v (r.tasks.take k)).runs, I (addC v (r.tasks.take k)).done, I (addC v (r.tasks.take k)).failed, I (addC v (r.tasks.take k)).left]) (by kernel_rfl) rfl rfl rfl rfl st28 (Nat.le_of_ble_eq_true rfl) rfl ?_); intro W29 st30
      refine sx_nil ?_
      refine sx_region ?_
      refine sx rfl (stp_move hs21_5 ?_)
      refine sx rfl (stp_add rfl rfl (by (simp only [I64] at *; omega)) ?_)
      refine sx rfl (stp_assign rfl ?_)
      refine sx_nil ?_
      have st31 := st30.f2
      have st32 := st31.f2
      exact ⟨_, r.tasks.length - (k + 1), (by omega), rfl, k + 1, (by omega), rfl, hs21_2, hs21_3, hs21_4, rfl, (by rw [addC_1 (by omega) h27p]; exact st32)⟩
    · skip
      have h27p := of_decide_eq_false h27
      refine wp_seq ?_
      refine sx_region ?_
      refine sx rfl (stp_eql rfl rfl ?_)
      refine sx rfl (stp_assign rfl ?_)
      refine sx_nil ?_
      refine sx_if rfl (fun h33 => ?_) (fun h33 => ?_)
      · skip
        have h33p := of_decide_eq_true h33
        refine sx_region ?_
        refine sx rfl (stp_fieldAddr fa_View_2 hs21_2 ?_)
        refine sx rfl (stp_load_bx ld_int rfl rfl (st20.get 2 rfl) (i := 2) rfl rfl ?_)
        refine sx rfl (stp_add rfl rfl (by (simp only [I64] at *; omega)) ?_)
        refine sx rfl (stp_fieldAddr fa_View_2 hs21_2 ?_)
        have st34 := st20.f2
        refine sx rfl (stp_store_one (v := I ((addC v (r.tasks.take k)).ready + 1)) (C' := [I (addC v (r.tasks.take k)).state, I (addC v (r.tasks.take k)).waits, I ((addC v (r.tasks.take k)).ready + 1), I (addC v (r.tasks.take k)).runs, I (addC v (r.tasks.take k)).done, I (addC v (r.tasks.take k)).failed, I (addC v (r.tasks.take k)).left]) (by kernel_rfl) rfl rfl rfl rfl st34 (Nat.le_of_ble_eq_true rfl) rfl ?_); intro W35 st36
        refine sx_nil ?_
        refine sx_region ?_
        refine sx rfl (stp_move hs21_5 ?_)
        refine sx rfl (stp_add rfl rfl (by (simp only [I64] at *; omega)) ?_)
        refine sx rfl (stp_assign rfl ?_)
        refine sx_nil ?_
        have st37 := st36.f2
        have st38 := st37.f2
        exact ⟨_, r.tasks.length - (k + 1), (by omega), rfl, k + 1, (by omega), rfl, hs21_2, hs21_3, hs21_4, rfl, (by rw [addC_2 (by omega) h33p]; exact st38)⟩
      · skip
        have h33p := of_decide_eq_false h33
        refine wp_seq ?_
        refine sx_region ?_
        refine sx rfl (stp_eql rfl rfl ?_)
        refine sx rfl (stp_assign rfl ?_)
        refine sx_nil ?_
        refine sx_if rfl (fun h39 => ?_) (fun h39 => ?_)
        · skip
          have h39p := of_decide_eq_true h39
          refine sx_region ?_
          refine sx rfl (stp_fieldAddr fa_View_3 hs21_2 ?_)
          refine sx rfl (stp_load_bx ld_int rfl rfl (st20.get 2 rfl) (i := 3) rfl rfl ?_)
          refine sx rfl (stp_add rfl rfl (by (simp only [I64] at *; omega)) ?_)
          refine sx rfl (stp_fieldAddr fa_View_3 hs21_2 ?_)
          have st40 := st20.f2
          refine sx rfl (stp_store_one (v := I ((addC v (r.tasks.take k)).runs + 1)) (C' := [I (addC v (r.tasks.take k)).state, I (addC v (r.tasks.take k)).waits, I (addC v (r.tasks.take k)).ready, I ((addC v (r.tasks.take k)).runs + 1), I (addC v (r.tasks.take k)).done, I (addC v (r.tasks.take k)).failed, I (addC v (r.tasks.take k)).left]) (by kernel_rfl) rfl rfl rfl rfl st40 (Nat.le_of_ble_eq_true rfl) rfl ?_); intro W41 st42
          refine sx_nil ?_
          refine sx_region ?_
          refine sx rfl (stp_move hs21_5 ?_)
          refine sx rfl (stp_add rfl rfl (by (simp only [I64] at *; omega)) ?_)
          refine sx rfl (stp_assign rfl ?_)
          refine sx_nil ?_
          have st43 := st42.f2
          have st44 := st43.f2
          exact ⟨_, r.tasks.length - (k + 1), (by omega), rfl, k + 1, (by omega), rfl, hs21_2, hs21_3, hs21_4, rfl, (by rw [addC_3 (by omega) h39p]; exact st44)⟩
        · skip
          have h39p := of_decide_eq_false h39
          refine wp_seq ?_
          refine sx_region ?_
          refine sx rfl (stp_eql rfl rfl ?_)
          refine sx rfl (stp_assign rfl ?_)
          refine sx_nil ?_
          refine sx_if rfl (fun h45 => ?_) (fun h45 => ?_)
          · skip
            have h45p := of_decide_eq_true h45
            refine sx_region ?_
            refine sx rfl (stp_fieldAddr fa_View_4 hs21_2 ?_)
            refine sx rfl (stp_load_bx ld_int rfl rfl (st20.get 2 rfl) (i := 4) rfl rfl ?_)
            refine sx rfl (stp_add rfl rfl (by (simp only [I64] at *; omega)) ?_)
            refine sx rfl (stp_fieldAddr fa_View_4 hs21_2 ?_)
            have st46 := st20.f2
            refine sx rfl (stp_store_one (v := I ((addC v (r.tasks.take k)).done + 1)) (C' := [I (addC v (r.tasks.take k)).state, I (addC v (r.tasks.take k)).waits, I (addC v (r.tasks.take k)).ready, I (addC v (r.tasks.take k)).runs, I ((addC v (r.tasks.take k)).done + 1), I (addC v (r.tasks.take k)).failed, I (addC v (r.tasks.take k)).left]) (by kernel_rfl) rfl rfl rfl rfl st46 (Nat.le_of_ble_eq_true rfl) rfl ?_); intro W47 st48
            refine sx_nil ?_
            refine sx_region ?_
            refine sx rfl (stp_move hs21_5 ?_)
            refine sx rfl (stp_add rfl rfl (by (simp only [I64] at *; omega)) ?_)
            refine sx rfl (stp_assign rfl ?_)
            refine sx_nil ?_
            have st49 := st48.f2
            have st50 := st49.f2
            exact ⟨_, r.tasks.length - (k + 1), (by omega), rfl, k + 1, (by omega), rfl, hs21_2, hs21_3, hs21_4, rfl, (by rw [addC_4 (by omega) h45p]; exact st50)⟩
          · skip
            have h45p := of_decide_eq_false h45
            refine wp_seq ?_
            refine sx_region ?_
            refine sx rfl (stp_eql rfl rfl ?_)
            refine sx rfl (stp_assign rfl ?_)
            refine sx_nil ?_
            refine sx_if rfl (fun h51 => ?_) (fun h51 => ?_)
            · skip
              have h51p := of_decide_eq_true h51
              refine sx_region ?_
              refine sx rfl (stp_fieldAddr fa_View_5 hs21_2 ?_)
              refine sx rfl (stp_load_bx ld_int rfl rfl (st20.get 2 rfl) (i := 5) rfl rfl ?_)
              refine sx rfl (stp_add rfl rfl (by (simp only [I64] at *; omega)) ?_)
              refine sx rfl (stp_fieldAddr fa_View_5 hs21_2 ?_)
              have st52 := st20.f2
              refine sx rfl (stp_store_one (v := I ((addC v (r.tasks.take k)).failed + 1)) (C' := [I (addC v (r.tasks.take k)).state, I (addC v (r.tasks.take k)).waits, I (addC v (r.tasks.take k)).ready, I (addC v (r.tasks.take k)).runs, I (addC v (r.tasks.take k)).done, I ((addC v (r.tasks.take k)).failed + 1), I (addC v (r.tasks.take k)).left]) (by kernel_rfl) rfl rfl rfl rfl st52 (Nat.le_of_ble_eq_true rfl) rfl ?_); intro W53 st54
              refine sx_nil ?_
              refine sx_region ?_
              refine sx rfl (stp_move hs21_5 ?_)
              refine sx rfl (stp_add rfl rfl (by (simp only [I64] at *; omega)) ?_)
              refine sx rfl (stp_assign rfl ?_)
              refine sx_nil ?_
              have st55 := st54.f2
              have st56 := st55.f2
              exact ⟨_, r.tasks.length - (k + 1), (by omega), rfl, k + 1, (by omega), rfl, hs21_2, hs21_3, hs21_4, rfl, (by rw [addC_5 (by omega) h51p]; exact st56)⟩
            · skip
              have h51p := of_decide_eq_false h51
              refine wp_seq ?_
              refine sx_region ?_
              refine sx rfl (stp_eql rfl rfl ?_)
              refine sx rfl (stp_assign rfl ?_)
              refine sx_nil ?_
              refine sx_if rfl (fun h57 => ?_) (fun h57 => ?_)
              · skip
                have h57p := of_decide_eq_true h57
                refine sx_region ?_
                refine sx rfl (stp_fieldAddr fa_View_6 hs21_2 ?_)
                refine sx rfl (stp_load_bx ld_int rfl rfl (st20.get 2 rfl) (i := 6) rfl rfl ?_)
                refine sx rfl (stp_add rfl rfl (by (simp only [I64] at *; omega)) ?_)
                refine sx rfl (stp_fieldAddr fa_View_6 hs21_2 ?_)
                have st58 := st20.f2
                refine sx rfl (stp_store_one (v := I ((addC v (r.tasks.take k)).left + 1)) (C' := [I (addC v (r.tasks.take k)).state, I (addC v (r.tasks.take k)).waits, I (addC v (r.tasks.take k)).ready, I (addC v (r.tasks.take k)).runs, I (addC v (r.tasks.take k)).done, I (addC v (r.tasks.take k)).failed, I ((addC v (r.tasks.take k)).left + 1)]) (by kernel_rfl) rfl rfl rfl rfl st58 (Nat.le_of_ble_eq_true rfl) rfl ?_); intro W59 st60
                refine sx_nil ?_
                refine sx_region ?_
                refine sx rfl (stp_move hs21_5 ?_)
                refine sx rfl (stp_add rfl rfl (by (simp only [I64] at *; omega)) ?_)
                refine sx rfl (stp_assign rfl ?_)
                refine sx_nil ?_
                have st61 := st60.f2
                have st62 := st61.f2
                exact ⟨_, r.tasks.length - (k + 1), (by omega), rfl, k + 1, (by omega), rfl, hs21_2, hs21_3, hs21_4, rfl, (by rw [addC_6 (by omega) h57p]; exact st62)⟩
              · skip
                have h57p := of_decide_eq_false h57
                refine wp_skip ?_
                refine sx_region ?_
                refine sx rfl (stp_move hs21_5 ?_)
                refine sx rfl (stp_add rfl rfl (by (simp only [I64] at *; omega)) ?_)
                refine sx rfl (stp_assign rfl ?_)
                refine sx_nil ?_
                exact ⟨_, r.tasks.length - (k + 1), (by omega), rfl, k + 1, (by omega), rfl, hs21_2, hs21_3, hs21_4, rfl, (by rw [addC_n (by omega) h27p h33p h39p h45p h51p h57p]; exact st20)⟩
  · skip
    have h24p := of_decide_eq_false h24
    refine wp_exit ?_
    refine wp_seq ?_
    refine sx_region ?_
    refine sx rfl (stp_load_bxs (cs := [I (addC v (r.tasks.take k)).state, I (addC v (r.tasks.take k)).waits, I (addC v (r.tasks.take k)).ready, I (addC v (r.tasks.take k)).runs, I (addC v (r.tasks.take k)).done, I (addC v (r.tasks.take k)).failed, I (addC v (r.tasks.take k)).left]) ld_View rfl hs21_2 (st20.get 2 rfl) rfl rfl ?_)
    refine sx rfl (stp_store_agg (cs := [I (addC v (r.tasks.take k)).state, I (addC v (r.tasks.take k)).waits, I (addC v (r.tasks.take k)).ready, I (addC v (r.tasks.take k)).runs, I (addC v (r.tasks.take k)).done, I (addC v (r.tasks.take k)).failed, I (addC v (r.tasks.take k)).left]) (C' := [I (addC v (r.tasks.take k)).state, I (addC v (r.tasks.take k)).waits, I (addC v (r.tasks.take k)).ready, I (addC v (r.tasks.take k)).runs, I (addC v (r.tasks.take k)).done, I (addC v (r.tasks.take k)).failed, I (addC v (r.tasks.take k)).left]) (by kernel_rfl) hs21_4 rfl (one_cons rfl (one_cons rfl (one_cons rfl (one_cons rfl (one_cons rfl (one_cons rfl (one_cons rfl one_nil))))))) st20 (Nat.le_of_ble_eq_true rfl) rfl ?_); intro W63 st64
    refine sx_nil ?_
    refine wp_ret ?_; repeat (first | refine then_ret ?_ | refine blk_ret ?_)
    refine retc1 ld_View rfl Try.results79 hs21_4 (st64.get 0 rfl) rfl ?_
    obtain rfl : k = r.tasks.length := by omega
    rw [List.take_length] at *
    exact ⟨rfl, addC_ok hv hs _ (by omega), st64.bare⟩
set_option maxHeartbeats 2000000 in
theorem ViewOfI_n (w : World) {y : Yard} {cs : List Value} {fp : List Nat} (hc : Shape.C w cs y fp) (id : Int) (hw : y.wt ≤ 1048576) (hix : runIx y id = none) :
    Calls Try.prog 52 #[.agg cs.toArray, I id] w fun e w' => e = .returned (.tuple #[.agg #[I (viewY y id).1.state, I (viewY y id).1.waits, I (viewY y id).1.ready, I (viewY y id).1.runs, I (viewY y id).1.done, I (viewY y id).1.failed, I (viewY y id).1.left], .bool (viewY y id).2]) ∧ (viewY y id).1.ok ∧ St w w' [] := by
  refine enter2 Try.func52 rfl Try.ntmps52 (by decide) ?_
  refine wp_seq ?_
  refine sx_region ?_
  refine sx rfl (stp_box_agg (cs := cs) rfl (St.start w) ?_); intro b1 W2 hb3 st4
  refine sx rfl (stp_alloc zz_View st4 ?_); intro b6 W7 hb8 st9
  refine sx rfl (stp_assign rfl ?_)
  refine sx_nil ?_
  refine wp_seq ?_
  refine sx_region ?_
  refine sx rfl (stp_load_bxa ld_Yard rfl rfl (st9.get 1 rfl) (Shape.len hc) ?_)
  refine sx rfl (stp_move rfl ?_)
  refine sx rfl (stp_call2 Try.func84 rfl rfl rfl ((RunAtI_n W7 (C_below hc st9.below) id hw hix).mono ?_)); rintro _ W11 ⟨rfl, hk12⟩; refine ⟨_, rfl, ?_⟩
  have st13 := St.call st9 hk12
  refine sx rfl (stp_assign rfl ?_)
  refine sx_nil ?_
  refine wp_seq ?_
  refine wp_seq ?_
  refine sx_region ?_
  refine sx rfl (stp_move rfl ?_)
  refine sx rfl (stp_lss rfl rfl ?_)
  refine sx_nil ?_
  refine sx_if rfl (fun h15 => ?_) (fun h15 => ?_)
  · skip
    have h15p := of_decide_eq_true h15
    refine wp_seq ?_
    refine sx_region ?_
    refine sx rfl (stp_build (vs := []) (cs := [I 0, I 0, I 0, I 0, I 0, I 0, I 0]) pnil (by kernel_rfl) ?_)
    refine sx rfl (stp_store_agg (cs := [I 0, I 0, I 0, I 0, I 0, I 0, I 0]) (C' := [I 0, I 0, I 0, I 0, I 0, I 0, I 0]) (by kernel_rfl) rfl rfl (one_cons rfl (one_cons rfl (one_cons rfl (one_cons rfl (one_cons rfl (one_cons rfl (one_cons rfl one_nil))))))) st13 (Nat.le_of_ble_eq_true rfl) rfl ?_); intro W16 st17
    refine sx rfl (stp_assign rfl ?_)
    refine sx_nil ?_
    refine wp_ret ?_; repeat (first | refine then_ret ?_ | refine blk_ret ?_)
    refine retct ld_View rfl Try.results52 rfl (st17.get 0 rfl) rfl rfl ?_
    have hv : viewY y id = (zV, false) := by unfold viewY; rw [hix]
    rw [hv]
    exact ⟨rfl, zV_ok, st17.bare⟩
  · skip
    have h15p := of_decide_eq_false h15
    omega
set_option maxHeartbeats 2000000 in
theorem ViewOfI_s (w : World) {y : Yard} {cs : List Value} {fp : List Nat} (hc : Shape.C w cs y fp) (id : Int) (hw : y.wt ≤ 1048576) {i : Nat} (hix : runIx y id = some i) :
    Calls Try.prog 52 #[.agg cs.toArray, I id] w fun e w' => e = .returned (.tuple #[.agg #[I (viewY y id).1.state, I (viewY y id).1.waits, I (viewY y id).1.ready, I (viewY y id).1.runs, I (viewY y id).1.done, I (viewY y id).1.failed, I (viewY y id).1.left], .bool (viewY y id).2]) ∧ (viewY y id).1.ok ∧ St w w' [] := by
  have hil := runIx_lt hix
  have hyk := yard_run hil
  have hrw : y.runs[i].tasks.length ≤ y.runs[i].wt := by unfold Run.wt; omega
  refine enter2 Try.func52 rfl Try.ntmps52 (by decide) ?_
  refine wp_seq ?_
  refine sx_region ?_
  refine sx rfl (stp_box_agg (cs := cs) rfl (St.start w) ?_); intro b1 W2 hb3 st4
  refine sx rfl (stp_alloc zz_View st4 ?_); intro b6 W7 hb8 st9
  refine sx rfl (stp_assign rfl ?_)
  refine sx_nil ?_
  refine wp_seq ?_
  refine sx_region ?_
  refine sx rfl (stp_load_bxa ld_Yard rfl rfl (st9.get 1 rfl) (Shape.len hc) ?_)
  refine sx rfl (stp_move rfl ?_)
  refine sx rfl (stp_call2 Try.func84 rfl rfl rfl ((RunAtI_s W7 (C_below hc st9.below) id hw hix).mono ?_)); rintro _ W11 ⟨rfl, hk12⟩; refine ⟨_, rfl, ?_⟩
  have st13 := St.call st9 hk12
  refine sx rfl (stp_assign rfl ?_)
  refine sx_nil ?_
  refine wp_seq ?_
  refine wp_seq ?_
  refine sx_region ?_
  refine sx rfl (stp_move rfl ?_)
  refine sx rfl (stp_lss rfl rfl ?_)
  refine sx_nil ?_
  refine sx_if rfl (fun h15 => ?_) (fun h15 => ?_)
  · skip
    have h15p := of_decide_eq_true h15
    omega
  · skip
    have h15p := of_decide_eq_false h15
    refine wp_skip ?_
    refine wp_seq ?_
    refine sx_region ?_
    refine sx rfl (stp_fieldAddr fa_Yard_3 rfl ?_)
    have hk16 := hc
    obtain ⟨v16_0, v16_1, g16_0, g16_1, rfl, hok16, h16_0, h16_1, rfl⟩ := hk16
    refine sx rfl (stp_load_bx ld_RunS rfl rfl (st13.get 1 rfl) (i := 3) rfl rfl ?_)
    refine sx rfl (stp_move rfl ?_)
    have hia2a90 : i < y.runs.length := (by omega)
    have hq_ := idx h16_1 (i := i) hia2a90
    obtain ⟨b17, o17, cs17, f17, hp17, hr17, hc17, hm17⟩ := hq_
    refine sx rfl (stp_indexAddr sl_RunS rfl hp17 rfl rfl ?_)
    refine sx rfl (stp_load_rga ld_Run rfl rfl hr17 st13.below (Shape.len hc17) ?_)
    refine sx rfl (stp_call1 Try.func80 rfl rfl ((viewI W11 (C_below hc17 st13.below) (by omega)).mono ?_)); rintro _ W18 ⟨rfl, hokf21, hk19⟩; refine ⟨_, rfl, ?_⟩
    have st20 := St.call st13 hk19
    refine sx rfl (stp_store_agg (cs := [I (viewR (y.runs[i]'hia2a90)).state, I (viewR (y.runs[i]'hia2a90)).waits, I (viewR (y.runs[i]'hia2a90)).ready, I (viewR (y.runs[i]'hia2a90)).runs, I (viewR (y.runs[i]'hia2a90)).done, I (viewR (y.runs[i]'hia2a90)).failed, I (viewR (y.runs[i]'hia2a90)).left]) (C' := [I (viewR (y.runs[i]'hia2a90)).state, I (viewR (y.runs[i]'hia2a90)).waits, I (viewR (y.runs[i]'hia2a90)).ready, I (viewR (y.runs[i]'hia2a90)).runs, I (viewR (y.runs[i]'hia2a90)).done, I (viewR (y.runs[i]'hia2a90)).failed, I (viewR (y.runs[i]'hia2a90)).left]) (by kernel_rfl) rfl rfl (one_cons rfl (one_cons rfl (one_cons rfl (one_cons rfl (one_cons rfl (one_cons rfl (one_cons rfl one_nil))))))) st20 (Nat.le_of_ble_eq_true rfl) rfl ?_); intro W22 st23
    refine sx rfl (stp_assign rfl ?_)
    refine sx_nil ?_
    refine wp_ret ?_; repeat (first | refine then_ret ?_ | refine blk_ret ?_)
    refine retct ld_View rfl Try.results52 rfl (st23.get 0 rfl) rfl rfl ?_
    have hv : viewY y id = (viewR y.runs[i], true) := by unfold viewY; rw [hix]; simp only [List.getElem?_eq_getElem hil]
    rw [hv]
    exact ⟨rfl, (by first | assumption | exact (show (addC _ _).ok from by rw [view_add]; exact viewR_ok (yard_state hc hil) (by omega))), st23.bare⟩
theorem ViewOfI (w : World) {y : Yard} {cs : List Value} {fp : List Nat} (hc : Shape.C w cs y fp) (id : Int) (hw : y.wt ≤ 1048576) :
    Calls Try.prog 52 #[.agg cs.toArray, I id] w fun e w' => e = .returned (.tuple #[.agg #[I (viewY y id).1.state, I (viewY y id).1.waits, I (viewY y id).1.ready, I (viewY y id).1.runs, I (viewY y id).1.done, I (viewY y id).1.failed, I (viewY y id).1.left], .bool (viewY y id).2]) ∧ (viewY y id).1.ok ∧ St w w' [] := by
  cases hix : runIx y id with
  | none => exact ViewOfI_n w hc id hw hix
  | some i => exact ViewOfI_s w hc id hw hix
set_option maxHeartbeats 2000000 in
theorem CountsOfI (w : World) {y : Yard} {cs : List Value} {fp : List Nat} (hc : Shape.C w cs y fp)  (hw : y.wt ≤ 1048576) :
    Calls Try.prog 46 #[.agg cs.toArray] w fun e w' => e = .returned (.agg #[I (cntTo y y.runs.length).state, I (cntTo y y.runs.length).waits, I (cntTo y y.runs.length).ready, I (cntTo y y.runs.length).runs, I (cntTo y y.runs.length).done, I (cntTo y y.runs.length).failed, I (cntTo y y.runs.length).left]) ∧ (cntTo y y.runs.length).ok ∧ St w w' [] := by
  have hyr : y.runs.length ≤ y.wt := by unfold Yard.wt wtL; omega
  refine enter1 Try.func46 rfl Try.ntmps46 (by decide) ?_
  refine wp_seq ?_
  refine sx_region ?_
  refine sx rfl (stp_box_agg (cs := cs) rfl (St.start w) ?_); intro b1 W2 hb3 st4
  refine sx rfl (stp_alloc zz_View st4 ?_); intro b6 W7 hb8 st9
  refine sx_nil ?_
  refine wp_seq ?_
  refine sx_region ?_
  refine sx rfl (stp_fieldAddr fa_Yard_3 rfl ?_)
  have hk11 := hc
  obtain ⟨v11_0, v11_1, g11_0, g11_1, rfl, hok11, h11_0, h11_1, rfl⟩ := hk11
  refine sx rfl (stp_load_bx ld_RunS rfl rfl (st9.get 1 rfl) (i := 3) rfl rfl ?_)
  refine sx rfl (stp_len sl_RunS rfl h11_1 ?_)
  refine sx rfl (stp_build (vs := [(0, I (y.runs.length : Int))]) (cs := [I (y.runs.length : Int), I 0, I 0, I 0, I 0, I 0, I 0]) (pcons (v := I (y.runs.length : Int)) rfl pnil) (by kernel_rfl) ?_)
  refine sx rfl (stp_alloc zz_View st9 ?_); intro b12 W13 hb14 st15
  refine sx rfl (stp_store_agg (cs := [I (y.runs.length : Int), I 0, I 0, I 0, I 0, I 0, I 0]) (C' := [I (y.runs.length : Int), I 0, I 0, I 0, I 0, I 0, I 0]) (by kernel_rfl) rfl rfl (one_cons rfl (one_cons rfl (one_cons rfl (one_cons rfl (one_cons rfl (one_cons rfl (one_cons rfl one_nil))))))) st15 (Nat.le_of_ble_eq_true rfl) rfl ?_); intro W17 st18
  refine sx_nil ?_
  refine wp_seq ?_
  refine wp_seq ?_
  refine sx_region ?_
  refine sx rfl (stp_fieldAddr fa_Yard_3 rfl ?_)
  refine sx rfl (stp_load_bx ld_RunS rfl rfl (st18.get 2 rfl) (i := 3) rfl rfl ?_)
  refine sx rfl (stp_len sl_RunS rfl h11_1 ?_)
  refine sx rfl (stp_move rfl ?_)
  refine sx_nil ?_
  refine wp_block ?_
  refine sx_loop (fun (m : Nat) (f : Nat → Value) (W : World) => ∃ (k : Nat), k ≤ y.runs.length ∧ m = y.runs.length - k ∧ f 2 = .pointer (some ⟨b6, 0, none⟩) ∧ f 3 = .pointer (some ⟨b12, 0, none⟩) ∧ f 12 = v11_1 ∧ f 13 = I (y.runs.length : Int) ∧ f 14 = I (k : Int) ∧ St w W ([Res.bx b12 [I (cntTo y k).state, I (cntTo y k).waits, I (cntTo y k).ready, I (cntTo y k).runs, I (cntTo y k).done, I (cntTo y k).failed, I (cntTo y k).left] 85, Res.bx b6 [I 0, I 0, I 0, I 0, I 0, I 0, I 0] 85, Res.bx b1 [I y.now, I y.seq, v11_0, v11_1] 60])) (y.runs.length - 0) ?_ ?_
  · exact ⟨0, Nat.zero_le _, rfl, rfl, rfl, rfl, rfl, rfl, st18⟩
  intro m19 f20 W21 hJ22
  obtain ⟨k, hk, rfl, hs24_2, hs24_3, hs24_12, hs24_13, hs24_14, st23⟩ := hJ22
  have hsm0 := cntTo_small y k (by omega)
  have hst0 : I64 (cntTo y k).state := by rw [cntTo_state]; unfold I64; omega
  have htl := tlen_le y k
  have hok0 : (cntTo y k).ok := by have := hsm0; unfold View.small at this; unfold View.ok I64 at *; omega
  refine wp_seq ?_
  refine sx_region ?_
  refine sx rfl (stp_lss hs24_14 hs24_13 ?_)
  refine sx_nil ?_
  refine wp_seq ?_
  refine sx_if rfl (fun h25 => ?_) (fun h25 => ?_)
  · skip
    have h25p := of_decide_eq_true h25
    refine wp_skip ?_
    refine wp_seq ?_
    refine wp_block ?_
    refine wp_seq ?_
    refine sx_region ?_
    have hyk := yard_run (y := y) (k := k) (by omega)
    have hrw : (y.runs[k]'(by omega)).tasks.length ≤ (y.runs[k]'(by omega)).wt := by unfold Run.wt; omega
    have hsm1 := hsm0
    unfold View.small at hsm1
    have hi24e2d : k < y.runs.length := (by omega)
    have hq_ := idx h11_1 (i := k) hi24e2d
    obtain ⟨b26, o26, cs26, f26, hp26, hr26, hc26, hm26⟩ := hq_
    refine sx rfl (stp_indexAddr sl_RunS hs24_12 hp26 hs24_14 rfl ?_)
    refine sx rfl (stp_load_rga ld_Run rfl rfl hr26 st23.below (Shape.len hc26) ?_)
    refine sx rfl (stp_alloc zz_Run st23 ?_); intro b27 W28 hb29 st30
    refine sx rfl (stp_store_all (cs := cs26) ld_Run hc26 rfl rfl st30 rfl ?_); intro W32 st33
    refine sx_nil ?_
    refine wp_seq ?_
    refine sx_region ?_
    refine sx rfl (stp_load_bxa ld_Run rfl rfl (st33.get 0 rfl) (Shape.len hc26) ?_)
    refine sx rfl (stp_call1 Try.func80 rfl rfl ((viewI W32 (C_below hc26 st33.below) (by omega)).mono ?_)); rintro _ W34 ⟨rfl, hokf37, hk35⟩; refine ⟨_, rfl, ?_⟩
    have st36 := St.call st33 hk35
    refine sx rfl (stp_alloc zz_View st36 ?_); intro b38 W39 hb40 st41
    refine sx rfl (stp_store_agg (cs := [I (viewR (y.runs[k]'hi24e2d)).state, I (viewR (y.runs[k]'hi24e2d)).waits, I (viewR (y.runs[k]'hi24e2d)).ready, I (viewR (y.runs[k]'hi24e2d)).runs, I (viewR (y.runs[k]'hi24e2d)).done, I (viewR (y.runs[k]'hi24e2d)).failed, I (viewR (y.runs[k]'hi24e2d)).left]) (C' := [I (viewR (y.runs[k]'hi24e2d)).state, I (viewR (y.runs[k]'hi24e2d)).waits, I (viewR (y.runs[k]'hi24e2d)).ready, I (viewR (y.runs[k]'hi24e2d)).runs, I (viewR (y.runs[k]'hi24e2d)).done, I (viewR (y.runs[k]'hi24e2d)).failed, I (viewR (y.runs[k]'hi24e2d)).left]) (by kernel_rfl) rfl rfl (one_cons rfl (one_cons rfl (one_cons rfl (one_cons rfl (one_cons rfl (one_cons rfl (one_cons rfl one_nil))))))) st41 (Nat.le_of_ble_eq_true rfl) rfl ?_); intro W43 st44
    refine sx_nil ?_
    refine wp_seq ?_
    refine sx_region ?_
    refine sx rfl (stp_fieldAddr fa_View_1 hs24_3 ?_)
    refine sx rfl (stp_load_bx ld_int rfl rfl (st44.get 2 rfl) (i := 1) rfl rfl ?_)
    refine sx rfl (stp_fieldAddr fa_View_1 rfl ?_)
    refine sx rfl (stp_load_bx ld_int rfl rfl (st44.get 0 rfl) (i := 1) rfl rfl ?_)
    have hvs := addC_small (v := ⟨0, 0, 0, 0, 0, 0, 0⟩) (n := 0) (by simp [View.small]) (y.runs[k]'(by omega)).tasks
    have hvs2 : (viewR (y.runs[k]'(by omega))).small (y.runs[k]'(by omega)).tasks.length := by rw [← view_add]; unfold View.small addC at *; simp only at *; omega
    unfold View.small at hvs2
    refine sx rfl (stp_add rfl rfl (by (simp only [I64] at *; omega)) ?_)
    refine sx rfl (stp_fieldAddr fa_View_1 hs24_3 ?_)
    have st45 := st44.f2
    refine sx rfl (stp_store_one (v := I ((cntTo y k).waits + (viewR (y.runs[k]'hi24e2d)).waits)) (C' := [I (cntTo y k).state, I ((cntTo y k).waits + (viewR (y.runs[k]'hi24e2d)).waits), I (cntTo y k).ready, I (cntTo y k).runs, I (cntTo y k).done, I (cntTo y k).failed, I (cntTo y k).left]) (by kernel_rfl) rfl rfl rfl rfl st45 (Nat.le_of_ble_eq_true rfl) rfl ?_); intro W46 st47
    refine sx_nil ?_
    refine wp_seq ?_
    refine sx_region ?_
    refine sx rfl (stp_fieldAddr fa_View_2 hs24_3 ?_)
    refine sx rfl (stp_load_bx ld_int rfl rfl (st47.get 0 rfl) (i := 2) rfl rfl ?_)
    refine sx rfl (stp_fieldAddr fa_View_2 rfl ?_)
    refine sx rfl (stp_load_bx ld_int rfl rfl (st47.get 1 rfl) (i := 2) rfl rfl ?_)
    refine sx rfl (stp_add rfl rfl (by (simp only [I64] at *; omega)) ?_)
    refine sx rfl (stp_fieldAddr fa_View_2 hs24_3 ?_)
    refine sx rfl (stp_store_one (v := I ((cntTo y k).ready + (viewR (y.runs[k]'hi24e2d)).ready)) (C' := [I (cntTo y k).state, I ((cntTo y k).waits + (viewR (y.runs[k]'hi24e2d)).waits), I ((cntTo y k).ready + (viewR (y.runs[k]'hi24e2d)).ready), I (cntTo y k).runs, I (cntTo y k).done, I (cntTo y k).failed, I (cntTo y k).left]) (by kernel_rfl) rfl rfl rfl rfl st47 (Nat.le_of_ble_eq_true rfl) rfl ?_); intro W48 st49
    refine sx_nil ?_
    refine wp_seq ?_
    refine sx_region ?_
    refine sx rfl (stp_fieldAddr fa_View_3 hs24_3 ?_)
    refine sx rfl (stp_load_bx ld_int rfl rfl (st49.get 0 rfl) (i := 3) rfl rfl ?_)
    refine sx rfl (stp_fieldAddr fa_View_3 rfl ?_)
    refine sx rfl (stp_load_bx ld_int rfl rfl (st49.get 1 rfl) (i := 3) rfl rfl ?_)
    refine sx rfl (stp_add rfl rfl (by (simp only [I64] at *; omega)) ?_)
    refine sx rfl (stp_fieldAddr fa_View_3 hs24_3 ?_)
    refine sx rfl (stp_store_one (v := I ((cntTo y k).runs + (viewR (y.runs[k]'hi24e2d)).runs)) (C' := [I (cntTo y k).state, I ((cntTo y k).waits + (viewR (y.runs[k]'hi24e2d)).waits), I ((cntTo y k).ready + (viewR (y.runs[k]'hi24e2d)).ready), I ((cntTo y k).runs + (viewR (y.runs[k]'hi24e2d)).runs), I (cntTo y k).done, I (cntTo y k).failed, I (cntTo y k).left]) (by kernel_rfl) rfl rfl rfl rfl st49 (Nat.le_of_ble_eq_true rfl) rfl ?_); intro W50 st51
    refine sx_nil ?_
    refine wp_seq ?_
    refine sx_region ?_
    refine sx rfl (stp_fieldAddr fa_View_4 hs24_3 ?_)
    refine sx rfl (stp_load_bx ld_int rfl rfl (st51.get 0 rfl) (i := 4) rfl rfl ?_)
    refine sx rfl (stp_fieldAddr fa_View_4 rfl ?_)
    refine sx rfl (stp_load_bx ld_int rfl rfl (st51.get 1 rfl) (i := 4) rfl rfl ?_)
    refine sx rfl (stp_add rfl rfl (by (simp only [I64] at *; omega)) ?_)
    refine sx rfl (stp_fieldAddr fa_View_4 hs24_3 ?_)
    refine sx rfl (stp_store_one (v := I ((cntTo y k).done + (viewR (y.runs[k]'hi24e2d)).done)) (C' := [I (cntTo y k).state, I ((cntTo y k).waits + (viewR (y.runs[k]'hi24e2d)).waits), I ((cntTo y k).ready + (viewR (y.runs[k]'hi24e2d)).ready), I ((cntTo y k).runs + (viewR (y.runs[k]'hi24e2d)).runs), I ((cntTo y k).done + (viewR (y.runs[k]'hi24e2d)).done), I (cntTo y k).failed, I (cntTo y k).left]) (by kernel_rfl) rfl rfl rfl rfl st51 (Nat.le_of_ble_eq_true rfl) rfl ?_); intro W52 st53
    refine sx_nil ?_
    refine wp_seq ?_
    refine sx_region ?_
    refine sx rfl (stp_fieldAddr fa_View_5 hs24_3 ?_)
    refine sx rfl (stp_load_bx ld_int rfl rfl (st53.get 0 rfl) (i := 5) rfl rfl ?_)
    refine sx rfl (stp_fieldAddr fa_View_5 rfl ?_)
    refine sx rfl (stp_load_bx ld_int rfl rfl (st53.get 1 rfl) (i := 5) rfl rfl ?_)
    refine sx rfl (stp_add rfl rfl (by (simp only [I64] at *; omega)) ?_)
    refine sx rfl (stp_fieldAddr fa_View_5 hs24_3 ?_)
    refine sx rfl (stp_store_one (v := I ((cntTo y k).failed + (viewR (y.runs[k]'hi24e2d)).failed)) (C' := [I (cntTo y k).state, I ((cntTo y k).waits + (viewR (y.runs[k]'hi24e2d)).waits), I ((cntTo y k).ready + (viewR (y.runs[k]'hi24e2d)).ready), I ((cntTo y k).runs + (viewR (y.runs[k]'hi24e2d)).runs), I ((cntTo y k).done + (viewR (y.runs[k]'hi24e2d)).done), I ((cntTo y k).failed + (viewR (y.runs[k]'hi24e2d)).failed), I (cntTo y k).left]) (by kernel_rfl) rfl rfl rfl rfl st53 (Nat.le_of_ble_eq_true rfl) rfl ?_); intro W54 st55
    refine sx_nil ?_
    refine sx_region ?_
    refine sx rfl (stp_fieldAddr fa_View_6 hs24_3 ?_)
    refine sx rfl (stp_load_bx ld_int rfl rfl (st55.get 0 rfl) (i := 6) rfl rfl ?_)
    refine sx rfl (stp_fieldAddr fa_View_6 rfl ?_)
    refine sx rfl (stp_load_bx ld_int rfl rfl (st55.get 1 rfl) (i := 6) rfl rfl ?_)
    refine sx rfl (stp_add rfl rfl (by (simp only [I64] at *; omega)) ?_)
    refine sx rfl (stp_fieldAddr fa_View_6 hs24_3 ?_)
    refine sx rfl (stp_store_one (v := I ((cntTo y k).left + (viewR (y.runs[k]'hi24e2d)).left)) (C' := [I (cntTo y k).state, I ((cntTo y k).waits + (viewR (y.runs[k]'hi24e2d)).waits), I ((cntTo y k).ready + (viewR (y.runs[k]'hi24e2d)).ready), I ((cntTo y k).runs + (viewR (y.runs[k]'hi24e2d)).runs), I ((cntTo y k).done + (viewR (y.runs[k]'hi24e2d)).done), I ((cntTo y k).failed + (viewR (y.runs[k]'hi24e2d)).failed), I ((cntTo y k).left + (viewR (y.runs[k]'hi24e2d)).left)]) (by kernel_rfl) rfl rfl rfl rfl st55 (Nat.le_of_ble_eq_true rfl) rfl ?_); intro W56 st57
    refine sx_nil ?_
    refine sx_region ?_
    refine sx rfl (stp_add hs24_14 rfl (by (simp only [I64] at *; omega)) ?_)
    refine sx rfl (stp_move rfl ?_)
    refine sx_nil ?_
    have st58 := st57.f4
    have st59 := st58.f4
    have st60 := st59.f2
    have st61 := st60.d3
    have st62 := st61.d3
    exact ⟨_, y.runs.length - (k + 1), (by omega), rfl, k + 1, (by omega), rfl, hs24_2, hs24_3, hs24_12, hs24_13, rfl, (by rw [cntTo_s (by omega)]; exact st62)⟩
  · skip
    have h25p := of_decide_eq_false h25
    refine wp_exit ?_
    refine wp_seq ?_
    refine sx_region ?_
    refine sx rfl (stp_load_bxs (cs := [I (cntTo y k).state, I (cntTo y k).waits, I (cntTo y k).ready, I (cntTo y k).runs, I (cntTo y k).done, I (cntTo y k).failed, I (cntTo y k).left]) ld_View rfl hs24_3 (st23.get 0 rfl) rfl rfl ?_)
    have st63 := st23.f1
    refine sx rfl (stp_store_agg (cs := [I (cntTo y k).state, I (cntTo y k).waits, I (cntTo y k).ready, I (cntTo y k).runs, I (cntTo y k).done, I (cntTo y k).failed, I (cntTo y k).left]) (C' := [I (cntTo y k).state, I (cntTo y k).waits, I (cntTo y k).ready, I (cntTo y k).runs, I (cntTo y k).done, I (cntTo y k).failed, I (cntTo y k).left]) (by kernel_rfl) hs24_2 rfl (one_cons rfl (one_cons rfl (one_cons rfl (one_cons rfl (one_cons rfl (one_cons rfl (one_cons rfl one_nil))))))) st63 (Nat.le_of_ble_eq_true rfl) rfl ?_); intro W64 st65
    refine sx_nil ?_
    refine wp_ret ?_; repeat (first | refine then_ret ?_ | refine blk_ret ?_)
    refine retc1 ld_View rfl Try.results46 hs24_2 (st65.get 0 rfl) rfl ?_
    obtain rfl : k = y.runs.length := by omega
    exact ⟨rfl, by assumption, st65.bare⟩
set_option maxHeartbeats 2000000 in
theorem BusyOfI (w : World) {y : Yard} {cs : List Value} {fp : List Nat} (hc : Shape.C w cs y fp)  (hw : y.wt ≤ 1048576) :
    Calls Try.prog 54 #[.agg cs.toArray] w fun e w' => ∃ (v : Value) (fp' : List Nat), e = .returned v ∧ St w w' [Res.own v (idsOf y isBusy y.runs.length) fp'] := by
  have hyr : y.runs.length ≤ y.wt := by unfold Yard.wt wtL; omega
  refine enter1 Try.func54 rfl Try.ntmps54 (by decide) ?_
  refine wp_seq ?_
  refine sx_region ?_
  refine sx rfl (stp_box_agg (cs := cs) rfl (St.start w) ?_); intro b1 W2 hb3 st4
  refine sx rfl (stp_assign rfl ?_)
  refine sx_nil ?_
  refine wp_seq ?_
  refine sx_region ?_
  refine sx rfl (stp_assign rfl ?_)
  refine sx_nil ?_
  refine wp_seq ?_
  refine wp_seq ?_
  refine sx_region ?_
  refine sx rfl (stp_fieldAddr fa_Yard_3 rfl ?_)
  have hk6 := hc
  obtain ⟨v6_0, v6_1, g6_0, g6_1, rfl, hok6, h6_0, h6_1, rfl⟩ := hk6
  refine sx rfl (stp_load_bx ld_RunS rfl rfl (st4.get 0 rfl) (i := 3) rfl rfl ?_)
  refine sx rfl (stp_len sl_RunS rfl h6_1 ?_)
  refine sx rfl (stp_move rfl ?_)
  refine sx_nil ?_
  refine wp_block ?_
  have st8 := st4.row_nil (α := Int) 3
  refine sx_loop (fun (m : Nat) (f : Nat → Value) (W : World) => ∃ (k : Nat) (v7 : Value), k ≤ y.runs.length ∧ m = y.runs.length - k ∧ f 3 = v7 ∧ f 7 = v6_1 ∧ f 8 = I (y.runs.length : Int) ∧ f 9 = I (k : Int) ∧ St w W ([Res.row (α := Int) 3 v7 (idsOf y isBusy k) [], Res.bx b1 [I y.now, I y.seq, v6_0, v6_1] 60])) (y.runs.length - 0) ?_ ?_
  · exact ⟨0, (.slice none 0 0), (by first | omega | simp), rfl, rfl, rfl, rfl, rfl, st8⟩
  intro m10 f11 W12 hJ13
  obtain ⟨k, v7, hcd15_0, rfl, hs15_3, hs15_7, hs15_8, hs15_9, st14⟩ := hJ13
  have hil := idsOf_len y isBusy k
  refine wp_seq ?_
  refine sx_region ?_
  refine sx rfl (stp_lss hs15_9 hs15_8 ?_)
  refine sx_nil ?_
  refine wp_seq ?_
  refine sx_if rfl (fun h16 => ?_) (fun h16 => ?_)
  · skip
    have h16p := of_decide_eq_true h16
    refine wp_skip ?_
    refine wp_seq ?_
    refine wp_block ?_
    refine wp_seq ?_
    refine sx_region ?_
    have hyk := yard_run (y := y) (k := k) (by omega)
    have hrw : (y.runs[k]'(by omega)).tasks.length ≤ (y.runs[k]'(by omega)).wt := by unfold Run.wt; omega
    have hi24e2d : k < y.runs.length := (by omega)
    have hq_ := idx h6_1 (i := k) hi24e2d
    obtain ⟨b17, o17, cs17, f17, hp17, hr17, hc17, hm17⟩ := hq_
    refine sx rfl (stp_indexAddr sl_RunS hs15_7 hp17 hs15_9 rfl ?_)
    refine sx rfl (stp_load_rga ld_Run rfl rfl hr17 st14.below (Shape.len hc17) ?_)
    refine sx rfl (stp_alloc zz_Run st14 ?_); intro b18 W19 hb20 st21
    refine sx rfl (stp_store_all (cs := cs17) ld_Run hc17 rfl rfl st21 rfl ?_); intro W23 st24
    refine sx_nil ?_
    refine wp_seq ?_
    refine sx_region ?_
    refine sx rfl (stp_load_bxa ld_Run rfl rfl (st24.get 0 rfl) (Shape.len hc17) ?_)
    refine sx rfl (stp_call2 Try.func76 rfl rfl rfl ((TasksInI W23 (C_below hc17 st24.below) 3 (by omega)).mono ?_)); rintro _ W27 ⟨v25, fp25, rfl, hk28⟩; refine ⟨_, rfl, ?_⟩
    have st29 := St.call st24 hk28
    refine sx rfl (stp_len sl_IntS rfl (own_Sl (st29.get 0 rfl)) ?_)
    refine sx rfl (stp_gtr rfl rfl ?_)
    refine sx_nil ?_
    refine sx_if rfl (fun h31 => ?_) (fun h31 => ?_)
    · skip
      have h31p := of_decide_eq_true h31
      refine sx_region ?_
      refine sx rfl (stp_move hs15_3 ?_)
      refine sx rfl (stp_fieldAddr fa_Run_0 rfl ?_)
      have hk32 := hc17
      obtain ⟨v32_0, v32_1, g32_0, g32_1, rfl, hok32, h32_0, h32_1, rfl⟩ := hk32
      refine sx rfl (stp_load_bx ld_int rfl rfl (st29.get 1 rfl) (i := 0) rfl rfl ?_)
      refine sx rfl (stp_buildSlice (cs := [I (y.runs[k]'hi24e2d).id]) (e := 3) (pcons (v := I (y.runs[k]'hi24e2d).id) rfl pnil) (run_buildSlice1 ap_IntS _ _ rfl rfl (by decide)) st29 ?_); intro b33 W34 hb35 st36
      have st38 := st36.f3
      refine sx rfl (stp_append_bx (ys := [(y.runs[k]'hi24e2d).id]) ap_IntS rfl rfl rfl st38 (Elems.int1 (yard_id hc (by omega))) (by unfold maxLen; omega) (by omega) ?_); intro v39 W40 st41
      refine sx rfl (stp_assign rfl ?_)
      refine sx_nil ?_
      refine sx_region ?_
      refine sx rfl (stp_add hs15_9 rfl (by (simp only [I64] at *; omega)) ?_)
      refine sx rfl (stp_move rfl ?_)
      refine sx_nil ?_
      have st42 := st41.f3
      have st43 := st42.f1
      have st44 := st43.d2
      have st45 := st44.d2
      exact ⟨_, y.runs.length - (k + 1), (by omega), rfl, k + 1, v39, (by omega), rfl, rfl, hs15_7, hs15_8, rfl, (by rw [idsOf_t (by omega) (by simp only [isBusy, Bool.and_eq_true, Bool.and_eq_false_iff, decide_eq_true_eq, decide_eq_false_iff_not]; omega)]; exact st45)⟩
    · skip
      have h31p := of_decide_eq_false h31
      refine wp_skip ?_
      refine sx_region ?_
      refine sx rfl (stp_add hs15_9 rfl (by (simp only [I64] at *; omega)) ?_)
      refine sx rfl (stp_move rfl ?_)
      refine sx_nil ?_
      have st46 := st29.f3
      have st47 := st46.f3
      have st48 := st47.d2
      have st49 := st48.d2
      exact ⟨_, y.runs.length - (k + 1), (by omega), rfl, k + 1, v7, (by omega), rfl, hs15_3, hs15_7, hs15_8, rfl, (by rw [idsOf_f (by omega) (by simp only [isBusy, Bool.and_eq_true, Bool.and_eq_false_iff, decide_eq_true_eq, decide_eq_false_iff_not]; omega)]; exact st49)⟩
  · skip
    have h16p := of_decide_eq_false h16
    refine wp_exit ?_
    refine wp_seq ?_
    refine sx_region ?_
    refine sx rfl (stp_move hs15_3 ?_)
    refine sx rfl (stp_assign rfl ?_)
    refine sx_nil ?_
    refine wp_ret ?_; repeat (first | refine then_ret ?_ | refine blk_ret ?_)
    refine ret1 Try.results54 rfl ?_
    obtain rfl : k = y.runs.length := by omega
    have hq_ := st14.shut
    obtain ⟨fpz, stz⟩ := hq_
    exact ⟨_, fpz, rfl, stz.only 0 rfl⟩
set_option maxHeartbeats 2000000 in
theorem ViewOfS_n (w : World) {y : Yard} {cs : List Value} {fp : List Nat} (hc : Shape.C w cs y fp) (id : Int) (hw : y.wt ≤ 1048576) (hix : runIx y id = none) :
    Calls Try.prog 51 #[.agg cs.toArray, I id] w fun e w' => e = .returned (.tuple #[.agg #[I (viewY y id).1.state, I (viewY y id).1.waits, I (viewY y id).1.ready, I (viewY y id).1.runs, I (viewY y id).1.done, I (viewY y id).1.failed, I (viewY y id).1.left], .bool (viewY y id).2]) ∧ (viewY y id).1.ok ∧ St w w' [] := by
  refine enter2 Try.func51 rfl Try.ntmps51 (by decide) ?_
  refine wp_seq ?_
  refine sx_region ?_
  refine sx rfl (stp_box_agg (cs := cs) rfl (St.start w) ?_); intro b1 W2 hb3 st4
  refine sx rfl (stp_alloc zz_View st4 ?_); intro b6 W7 hb8 st9
  refine sx rfl (stp_assign rfl ?_)
  refine sx_nil ?_
  refine wp_seq ?_
  refine sx_region ?_
  refine sx rfl (stp_load_bxa ld_Yard rfl rfl (st9.get 1 rfl) (Shape.len hc) ?_)
  refine sx rfl (stp_move rfl ?_)
  refine sx rfl (stp_call2 Try.func83 rfl rfl rfl ((RunAtS_n W7 (C_below hc st9.below) id hw hix).mono ?_)); rintro _ W11 ⟨rfl, hk12⟩; refine ⟨_, rfl, ?_⟩
  have st13 := St.call st9 hk12
  refine sx rfl (stp_assign rfl ?_)
  refine sx_nil ?_
  refine wp_seq ?_
  refine wp_seq ?_
  refine sx_region ?_
  refine sx rfl (stp_move rfl ?_)
  refine sx rfl (stp_lss rfl rfl ?_)
  refine sx_nil ?_
  refine sx_if rfl (fun h15 => ?_) (fun h15 => ?_)
  · skip
    have h15p := of_decide_eq_true h15
    refine wp_seq ?_
    refine sx_region ?_
    refine sx rfl (stp_build (vs := []) (cs := [I 0, I 0, I 0, I 0, I 0, I 0, I 0]) pnil (by kernel_rfl) ?_)
    refine sx rfl (stp_store_agg (cs := [I 0, I 0, I 0, I 0, I 0, I 0, I 0]) (C' := [I 0, I 0, I 0, I 0, I 0, I 0, I 0]) (by kernel_rfl) rfl rfl (one_cons rfl (one_cons rfl (one_cons rfl (one_cons rfl (one_cons rfl (one_cons rfl (one_cons rfl one_nil))))))) st13 (Nat.le_of_ble_eq_true rfl) rfl ?_); intro W16 st17
    refine sx rfl (stp_assign rfl ?_)
    refine sx_nil ?_
    refine wp_ret ?_; repeat (first | refine then_ret ?_ | refine blk_ret ?_)
    refine retct ld_View rfl Try.results51 rfl (st17.get 0 rfl) rfl rfl ?_
    have hv : viewY y id = (zV, false) := by unfold viewY; rw [hix]
    rw [hv]
    exact ⟨rfl, zV_ok, st17.bare⟩
  · skip
    have h15p := of_decide_eq_false h15
    omega
set_option maxHeartbeats 2000000 in
theorem ViewOfS_s (w : World) {y : Yard} {cs : List Value} {fp : List Nat} (hc : Shape.C w cs y fp) (id : Int) (hw : y.wt ≤ 1048576) {i : Nat} (hix : runIx y id = some i) :
    Calls Try.prog 51 #[.agg cs.toArray, I id] w fun e w' => e = .returned (.tuple #[.agg #[I (viewY y id).1.state, I (viewY y id).1.waits, I (viewY y id).1.ready, I (viewY y id).1.runs, I (viewY y id).1.done, I (viewY y id).1.failed, I (viewY y id).1.left], .bool (viewY y id).2]) ∧ (viewY y id).1.ok ∧ St w w' [] := by
  have hil := runIx_lt hix
  have hyk := yard_run hil
  have hrw : y.runs[i].tasks.length ≤ y.runs[i].wt := by unfold Run.wt; omega
  have hsm0 : (⟨y.runs[i].state, 0, 0, 0, 0, 0, 0⟩ : View).small 0 := by simp [View.small]
  have hst0 : I64 y.runs[i].state := yard_state hc hil
  refine enter2 Try.func51 rfl Try.ntmps51 (by decide) ?_
  refine wp_seq ?_
  refine sx_region ?_
  refine sx rfl (stp_box_agg (cs := cs) rfl (St.start w) ?_); intro b1 W2 hb3 st4
  refine sx rfl (stp_alloc zz_View st4 ?_); intro b6 W7 hb8 st9
  refine sx rfl (stp_assign rfl ?_)
  refine sx_nil ?_
  refine wp_seq ?_
  refine sx_region ?_
  refine sx rfl (stp_load_bxa ld_Yard rfl rfl (st9.get 1 rfl) (Shape.len hc) ?_)
  refine sx rfl (stp_move rfl ?_)
  refine sx rfl (stp_call2 Try.func83 rfl rfl rfl ((RunAtS_s W7 (C_below hc st9.below) id hw hix).mono ?_)); rintro _ W11 ⟨rfl, hk12⟩; refine ⟨_, rfl, ?_⟩
  have st13 := St.call st9 hk12
  refine sx rfl (stp_assign rfl ?_)
  refine sx_nil ?_
  refine wp_seq ?_
  refine wp_seq ?_
  refine sx_region ?_
  refine sx rfl (stp_move rfl ?_)
  refine sx rfl (stp_lss rfl rfl ?_)
  refine sx_nil ?_
  refine sx_if rfl (fun h15 => ?_) (fun h15 => ?_)
  · skip
    have h15p := of_decide_eq_true h15
    omega
  · skip
    have h15p := of_decide_eq_false h15
    refine wp_skip ?_
    refine wp_seq ?_
    have hk16 := hc
    obtain ⟨v16_0, v16_1, g16_0, g16_1, rfl, hok16, h16_0, h16_1, rfl⟩ := hk16
    have hia2a90 : i < y.runs.length := (by omega)
    have hq_ := idx h16_1 (i := i) hia2a90
    obtain ⟨b17, o17, cs17, f17, hp17, hr17, hc17, hm17⟩ := hq_
    have hk18 := hc17
    obtain ⟨v18_0, v18_1, g18_0, g18_1, rfl, hok18, h18_0, h18_1, rfl⟩ := hk18
    refine sx_anyK 13 [Pl.is (.pointer (some ⟨b1, 0 + 3, none⟩)), Pl.is (v16_1) (Sl.yl h16_1), Pl.is (I (i : Int)), Pl.is (.pointer (some ⟨b17, o17, none⟩)), Pl.is (.pointer (some ⟨b17, o17 + 6, none⟩)), Pl.is (I (y.runs[i]'hia2a90).state), Pl.is (.agg #[I (y.runs[i]'hia2a90).state, I 0, I 0, I 0, I 0, I 0, I 0]), Pl.is (.pointer (some ⟨b1, 0 + 3, none⟩)), Pl.is (v16_1) (Sl.yl h16_1), Pl.is (I (i : Int)), Pl.is (.pointer (some ⟨b17, o17, none⟩)), Pl.is (.agg #[I (y.runs[i]'hia2a90).id, I (y.runs[i]'hia2a90).plan.prio, I (y.runs[i]'hia2a90).plan.most, I (y.runs[i]'hia2a90).plan.wait, I (y.runs[i]'hia2a90).plan.tasks, v18_0, I (y.runs[i]'hia2a90).state, v18_1]), Pl.is (.agg #[I (addC (⟨(y.runs[i]'hia2a90).state, 0, 0, 0, 0, 0, 0⟩ : View) (y.runs[i]'hia2a90).tasks).state, I (addC (⟨(y.runs[i]'hia2a90).state, 0, 0, 0, 0, 0, 0⟩ : View) (y.runs[i]'hia2a90).tasks).waits, I (addC (⟨(y.runs[i]'hia2a90).state, 0, 0, 0, 0, 0, 0⟩ : View) (y.runs[i]'hia2a90).tasks).ready, I (addC (⟨(y.runs[i]'hia2a90).state, 0, 0, 0, 0, 0, 0⟩ : View) (y.runs[i]'hia2a90).tasks).runs, I (addC (⟨(y.runs[i]'hia2a90).state, 0, 0, 0, 0, 0, 0⟩ : View) (y.runs[i]'hia2a90).tasks).done, I (addC (⟨(y.runs[i]'hia2a90).state, 0, 0, 0, 0, 0, 0⟩ : View) (y.runs[i]'hia2a90).tasks).failed, I (addC (⟨(y.runs[i]'hia2a90).state, 0, 0, 0, 0, 0, 0⟩ : View) (y.runs[i]'hia2a90).tasks).left])] mix (by rfl) (by rfl) st13 ⟨(fun f W hst hbl hd hf => stp_fieldAddr fa_Yard_3 ((hf 2 rfl).trans (show _ = (.pointer (some ⟨b1, 0, none⟩) : Value) from rfl)) ⟨Below.refl _ _, rfl⟩), (fun f W hst hbl hd hf => stp_load_bx ld_RunS rfl (hd 0 13 rfl rfl) (hst.get 1 rfl) (i := 3) rfl rfl ⟨Below.refl _ _, rfl⟩), (fun f W hst hbl hd hf => stp_move ((hf 6 rfl).trans (show _ = I (i : Int) from rfl)) ⟨Below.refl _ _, rfl⟩), (fun f W hst hbl hd hf => stp_indexAddr sl_RunS (hd 1 14 rfl rfl) hp17 (hd 2 15 rfl rfl) rfl ⟨Below.refl _ _, rfl⟩), (fun f W hst hbl hd hf => stp_fieldAddr fa_Run_2 (hd 3 16 rfl rfl) ⟨Below.refl _ _, rfl⟩), (fun f W hst hbl hd hf => stp_load_rg ld_int rfl (hd 4 17 rfl rfl) hr17 hst.below (i := 6) rfl rfl ⟨Below.refl _ _, rfl⟩), (fun f W hst hbl hd hf => stp_build (vs := [(0, I (y.runs[i]'hia2a90).state)]) (cs := [I (y.runs[i]'hia2a90).state, I 0, I 0, I 0, I 0, I 0, I 0]) (pcons (v := I (y.runs[i]'hia2a90).state) (hd 5 18 rfl rfl) pnil) (by kernel_rfl) ⟨Below.refl _ _, rfl⟩), (fun f W hst hbl hd hf => stp_fieldAddr fa_Yard_3 ((hf 2 rfl).trans (show _ = (.pointer (some ⟨b1, 0, none⟩) : Value) from rfl)) ⟨Below.refl _ _, rfl⟩), (fun f W hst hbl hd hf => stp_load_bx ld_RunS rfl (hd 7 20 rfl rfl) (hst.get 1 rfl) (i := 3) rfl rfl ⟨Below.refl _ _, rfl⟩), (fun f W hst hbl hd hf => stp_move ((hf 6 rfl).trans (show _ = I (i : Int) from rfl)) ⟨Below.refl _ _, rfl⟩), (fun f W hst hbl hd hf => stp_indexAddr sl_RunS (hd 8 21 rfl rfl) hp17 (hd 9 22 rfl rfl) rfl ⟨Below.refl _ _, rfl⟩), (fun f W hst hbl hd hf => stp_load_rgs (cs := [I (y.runs[i]'hia2a90).id, I (y.runs[i]'hia2a90).plan.prio, I (y.runs[i]'hia2a90).plan.most, I (y.runs[i]'hia2a90).plan.wait, I (y.runs[i]'hia2a90).plan.tasks, v18_0, I (y.runs[i]'hia2a90).state, v18_1]) ld_Run rfl (hd 10 23 rfl rfl) hr17 hst.below (i := 0) rfl rfl rfl ⟨Below.refl _ _, rfl⟩), (fun f W hst hbl hd hf => stp_call2 Try.func79 rfl (hd 6 19 rfl rfl) (hd 11 24 rfl rfl) ((viewS W (show Shape.C _ [I (y.runs[i]'hia2a90).state, I 0, I 0, I 0, I 0, I 0, I 0] (⟨(y.runs[i]'hia2a90).state, 0, 0, 0, 0, 0, 0⟩ : View) [] from ⟨rfl, rfl, (by simp only [Edge.ok, Plan.ok, Entry.ok, Task.ok, Run.ok, Yard.ok, Reply.ok, Deed.ok, Note.ok, Wait.ok, File.ok, Disk.ok, Engine.ok, WorldD.ok, ActD.ok, Hand.ok, Span.ok, Crew.ok, View.ok, I64] at *; omega)⟩) (C_below hc17 hst.below) hsm0 hst0 (by omega) (by omega)).mono (by rintro e W2 ⟨rfl, _, hk⟩; exact ⟨_, rfl, hk.below, rfl⟩))), trivial⟩ ?_
    intro f19 W20 st21 hb22 hv23 hf24
    refine sx rfl (stp_store_agg (cs := [I (addC (⟨(y.runs[i]'hia2a90).state, 0, 0, 0, 0, 0, 0⟩ : View) (y.runs[i]'hia2a90).tasks).state, I (addC (⟨(y.runs[i]'hia2a90).state, 0, 0, 0, 0, 0, 0⟩ : View) (y.runs[i]'hia2a90).tasks).waits, I (addC (⟨(y.runs[i]'hia2a90).state, 0, 0, 0, 0, 0, 0⟩ : View) (y.runs[i]'hia2a90).tasks).ready, I (addC (⟨(y.runs[i]'hia2a90).state, 0, 0, 0, 0, 0, 0⟩ : View) (y.runs[i]'hia2a90).tasks).runs, I (addC (⟨(y.runs[i]'hia2a90).state, 0, 0, 0, 0, 0, 0⟩ : View) (y.runs[i]'hia2a90).tasks).done, I (addC (⟨(y.runs[i]'hia2a90).state, 0, 0, 0, 0, 0, 0⟩ : View) (y.runs[i]'hia2a90).tasks).failed, I (addC (⟨(y.runs[i]'hia2a90).state, 0, 0, 0, 0, 0, 0⟩ : View) (y.runs[i]'hia2a90).tasks).left]) (C' := [I (addC (⟨(y.runs[i]'hia2a90).state, 0, 0, 0, 0, 0, 0⟩ : View) (y.runs[i]'hia2a90).tasks).state, I (addC (⟨(y.runs[i]'hia2a90).state, 0, 0, 0, 0, 0, 0⟩ : View) (y.runs[i]'hia2a90).tasks).waits, I (addC (⟨(y.runs[i]'hia2a90).state, 0, 0, 0, 0, 0, 0⟩ : View) (y.runs[i]'hia2a90).tasks).ready, I (addC (⟨(y.runs[i]'hia2a90).state, 0, 0, 0, 0, 0, 0⟩ : View) (y.runs[i]'hia2a90).tasks).runs, I (addC (⟨(y.runs[i]'hia2a90).state, 0, 0, 0, 0, 0, 0⟩ : View) (y.runs[i]'hia2a90).tasks).done, I (addC (⟨(y.runs[i]'hia2a90).state, 0, 0, 0, 0, 0, 0⟩ : View) (y.runs[i]'hia2a90).tasks).failed, I (addC (⟨(y.runs[i]'hia2a90).state, 0, 0, 0, 0, 0, 0⟩ : View) (y.runs[i]'hia2a90).tasks).left]) (by kernel_rfl) ((hf24 4 rfl).trans (show _ = (.pointer (some ⟨b6, 0, none⟩) : Value) from rfl)) (hv23 12 25 (by decide) rfl) (one_cons rfl (one_cons rfl (one_cons rfl (one_cons rfl (one_cons rfl (one_cons rfl (one_cons rfl one_nil))))))) st21 (Nat.le_of_ble_eq_true rfl) rfl ?_); intro W25 st26
    refine sx rfl (stp_assign rfl ?_)
    refine sx_nil ?_
    refine wp_ret ?_; repeat (first | refine then_ret ?_ | refine blk_ret ?_)
    refine retct ld_View rfl Try.results51 ((hf24 4 rfl).trans (show _ = (.pointer (some ⟨b6, 0, none⟩) : Value) from rfl)) (st26.get 0 rfl) rfl rfl ?_
    have hv : viewY y id = (viewR y.runs[i], true) := by unfold viewY; rw [hix]; simp only [List.getElem?_eq_getElem hil]
    rw [← view_add] at hv
    rw [hv]
    exact ⟨rfl, (by first | assumption | exact (show (addC _ _).ok from by rw [view_add]; exact viewR_ok (yard_state hc hil) (by omega))), st26.bare⟩
theorem ViewOfS (w : World) {y : Yard} {cs : List Value} {fp : List Nat} (hc : Shape.C w cs y fp) (id : Int) (hw : y.wt ≤ 1048576) :
    Calls Try.prog 51 #[.agg cs.toArray, I id] w fun e w' => e = .returned (.tuple #[.agg #[I (viewY y id).1.state, I (viewY y id).1.waits, I (viewY y id).1.ready, I (viewY y id).1.runs, I (viewY y id).1.done, I (viewY y id).1.failed, I (viewY y id).1.left], .bool (viewY y id).2]) ∧ (viewY y id).1.ok ∧ St w w' [] := by
  cases hix : runIx y id with
  | none => exact ViewOfS_n w hc id hw hix
  | some i => exact ViewOfS_s w hc id hw hix
set_option maxHeartbeats 2000000 in
theorem CountsOfS (w : World) {y : Yard} {cs : List Value} {fp : List Nat} (hc : Shape.C w cs y fp)  (hw : y.wt ≤ 1048576) :
    Calls Try.prog 45 #[.agg cs.toArray] w fun e w' => e = .returned (.agg #[I (cntTo y y.runs.length).state, I (cntTo y y.runs.length).waits, I (cntTo y y.runs.length).ready, I (cntTo y y.runs.length).runs, I (cntTo y y.runs.length).done, I (cntTo y y.runs.length).failed, I (cntTo y y.runs.length).left]) ∧ (cntTo y y.runs.length).ok ∧ St w w' [] := by
  have hyr : y.runs.length ≤ y.wt := by unfold Yard.wt wtL; omega
  refine enter1 Try.func45 rfl Try.ntmps45 (by decide) ?_
  refine wp_seq ?_
  refine sx_region ?_
  refine sx rfl (stp_box_agg (cs := cs) rfl (St.start w) ?_); intro b1 W2 hb3 st4
  refine sx rfl (stp_alloc zz_View st4 ?_); intro b6 W7 hb8 st9
  refine sx_nil ?_
  refine wp_seq ?_
  refine sx_region ?_
  refine sx rfl (stp_fieldAddr fa_Yard_3 rfl ?_)
  have hk11 := hc
  obtain ⟨v11_0, v11_1, g11_0, g11_1, rfl, hok11, h11_0, h11_1, rfl⟩ := hk11
  refine sx rfl (stp_load_bx ld_RunS rfl rfl (st9.get 1 rfl) (i := 3) rfl rfl ?_)
  refine sx rfl (stp_len sl_RunS rfl h11_1 ?_)
  refine sx rfl (stp_build (vs := [(0, I (y.runs.length : Int))]) (cs := [I (y.runs.length : Int), I 0, I 0, I 0, I 0, I 0, I 0]) (pcons (v := I (y.runs.length : Int)) rfl pnil) (by kernel_rfl) ?_)
  refine sx rfl (stp_alloc zz_View st9 ?_); intro b12 W13 hb14 st15
  refine sx rfl (stp_store_agg (cs := [I (y.runs.length : Int), I 0, I 0, I 0, I 0, I 0, I 0]) (C' := [I (y.runs.length : Int), I 0, I 0, I 0, I 0, I 0, I 0]) (by kernel_rfl) rfl rfl (one_cons rfl (one_cons rfl (one_cons rfl (one_cons rfl (one_cons rfl (one_cons rfl (one_cons rfl one_nil))))))) st15 (Nat.le_of_ble_eq_true rfl) rfl ?_); intro W17 st18
  refine sx_nil ?_
  refine wp_seq ?_
  refine wp_seq ?_
  refine sx_region ?_
  refine sx rfl (stp_assign rfl ?_)
  refine sx_nil ?_
  refine wp_block ?_
  refine sx_loop (fun (m : Nat) (f : Nat → Value) (W : World) => ∃ (k : Nat), k ≤ y.runs.length ∧ m = y.runs.length - k ∧ f 1 = .pointer (some ⟨b1, 0, none⟩) ∧ f 2 = .pointer (some ⟨b6, 0, none⟩) ∧ f 3 = .pointer (some ⟨b12, 0, none⟩) ∧ f 4 = I (k : Int) ∧ St w W ([Res.bx b12 [I (cntTo y k).state, I (cntTo y k).waits, I (cntTo y k).ready, I (cntTo y k).runs, I (cntTo y k).done, I (cntTo y k).failed, I (cntTo y k).left] 85, Res.bx b6 [I 0, I 0, I 0, I 0, I 0, I 0, I 0] 85, Res.bx b1 [I y.now, I y.seq, v11_0, v11_1] 60])) (y.runs.length - 0) ?_ ?_
  · exact ⟨0, Nat.zero_le _, rfl, rfl, rfl, rfl, rfl, st18⟩
  intro m19 f20 W21 hJ22
  obtain ⟨k, hk, rfl, hs24_1, hs24_2, hs24_3, hs24_4, st23⟩ := hJ22
  have hsm0 := cntTo_small y k (by omega)
  have hst0 : I64 (cntTo y k).state := by rw [cntTo_state]; unfold I64; omega
  have htl := tlen_le y k
  have hok0 : (cntTo y k).ok := by have := hsm0; unfold View.small at this; unfold View.ok I64 at *; omega
  refine wp_seq ?_
  refine wp_seq ?_
  refine sx_region ?_
  refine sx rfl (stp_move hs24_4 ?_)
  refine sx rfl (stp_fieldAddr fa_Yard_3 hs24_1 ?_)
  refine sx rfl (stp_load_bx ld_RunS rfl rfl (st23.get 2 rfl) (i := 3) rfl rfl ?_)
  refine sx rfl (stp_len sl_RunS rfl h11_1 ?_)
  refine sx rfl (stp_lss rfl rfl ?_)
  refine sx_nil ?_
  refine sx_if rfl (fun h25 => ?_) (fun h25 => ?_)
  · skip
    have h25p := of_decide_eq_true h25
    refine wp_skip ?_
    refine wp_seq ?_
    refine wp_block ?_
    have hyk := yard_run (y := y) (k := k) (by omega)
    have hrw : (y.runs[k]'(by omega)).tasks.length ≤ (y.runs[k]'(by omega)).wt := by unfold Run.wt; omega
    have hsm1 := hsm0
    unfold View.small at hsm1
    have hi24e2d : k < y.runs.length := (by omega)
    have hq_ := idx h11_1 (i := k) hi24e2d
    obtain ⟨b26, o26, cs26, f26, hp26, hr26, hc26, hm26⟩ := hq_
    refine sx_anyK 7 [Pl.is (.agg #[I (cntTo y k).state, I (cntTo y k).waits, I (cntTo y k).ready, I (cntTo y k).runs, I (cntTo y k).done, I (cntTo y k).failed, I (cntTo y k).left]), Pl.is (.pointer (some ⟨b1, 0 + 3, none⟩)), Pl.is (v11_1) (Sl.yl h11_1), Pl.is (I (k : Int)), Pl.is (.pointer (some ⟨b26, o26, none⟩)), Pl.is (.agg cs26.toArray), Pl.is (.agg #[I (addC (cntTo y k) (y.runs[k]'hi24e2d).tasks).state, I (addC (cntTo y k) (y.runs[k]'hi24e2d).tasks).waits, I (addC (cntTo y k) (y.runs[k]'hi24e2d).tasks).ready, I (addC (cntTo y k) (y.runs[k]'hi24e2d).tasks).runs, I (addC (cntTo y k) (y.runs[k]'hi24e2d).tasks).done, I (addC (cntTo y k) (y.runs[k]'hi24e2d).tasks).failed, I (addC (cntTo y k) (y.runs[k]'hi24e2d).tasks).left])] mix (by rfl) (by rfl) st23 ⟨(fun f W hst hbl hd hf => stp_load_bxs (cs := [I (cntTo y k).state, I (cntTo y k).waits, I (cntTo y k).ready, I (cntTo y k).runs, I (cntTo y k).done, I (cntTo y k).failed, I (cntTo y k).left]) ld_View rfl ((hf 3 rfl).trans hs24_3) (hst.get 0 rfl) rfl rfl ⟨Below.refl _ _, rfl⟩), (fun f W hst hbl hd hf => stp_fieldAddr fa_Yard_3 ((hf 1 rfl).trans hs24_1) ⟨Below.refl _ _, rfl⟩), (fun f W hst hbl hd hf => stp_load_bx ld_RunS rfl (hd 1 17 rfl rfl) (hst.get 2 rfl) (i := 3) rfl rfl ⟨Below.refl _ _, rfl⟩), (fun f W hst hbl hd hf => stp_move ((hf 4 rfl).trans hs24_4) ⟨Below.refl _ _, rfl⟩), (fun f W hst hbl hd hf => stp_indexAddr sl_RunS (hd 2 18 rfl rfl) hp26 (hd 3 19 rfl rfl) rfl ⟨Below.refl _ _, rfl⟩), (fun f W hst hbl hd hf => stp_load_rga ld_Run rfl (hd 4 20 rfl rfl) hr26 hst.below (Shape.len hc26) ⟨Below.refl _ _, rfl⟩), (fun f W hst hbl hd hf => stp_call2 Try.func79 rfl (hd 0 16 rfl rfl) (hd 5 21 rfl rfl) ((viewS W (show Shape.C _ [I (cntTo y k).state, I (cntTo y k).waits, I (cntTo y k).ready, I (cntTo y k).runs, I (cntTo y k).done, I (cntTo y k).failed, I (cntTo y k).left] (cntTo y k) [] from ⟨rfl, rfl, hok0⟩) (C_below hc26 hst.below) hsm0 hst0 (by omega) (by omega)).mono (by rintro e W2 ⟨rfl, _, hk⟩; exact ⟨_, rfl, hk.below, rfl⟩))), trivial⟩ ?_
    intro f27 W28 st29 hb30 hv31 hf32
    refine sx rfl (stp_store_agg (cs := [I (addC (cntTo y k) (y.runs[k]'hi24e2d).tasks).state, I (addC (cntTo y k) (y.runs[k]'hi24e2d).tasks).waits, I (addC (cntTo y k) (y.runs[k]'hi24e2d).tasks).ready, I (addC (cntTo y k) (y.runs[k]'hi24e2d).tasks).runs, I (addC (cntTo y k) (y.runs[k]'hi24e2d).tasks).done, I (addC (cntTo y k) (y.runs[k]'hi24e2d).tasks).failed, I (addC (cntTo y k) (y.runs[k]'hi24e2d).tasks).left]) (C' := [I (addC (cntTo y k) (y.runs[k]'hi24e2d).tasks).state, I (addC (cntTo y k) (y.runs[k]'hi24e2d).tasks).waits, I (addC (cntTo y k) (y.runs[k]'hi24e2d).tasks).ready, I (addC (cntTo y k) (y.runs[k]'hi24e2d).tasks).runs, I (addC (cntTo y k) (y.runs[k]'hi24e2d).tasks).done, I (addC (cntTo y k) (y.runs[k]'hi24e2d).tasks).failed, I (addC (cntTo y k) (y.runs[k]'hi24e2d).tasks).left]) (by kernel_rfl) ((hf32 3 rfl).trans hs24_3) (hv31 6 22 (by decide) rfl) (one_cons rfl (one_cons rfl (one_cons rfl (one_cons rfl (one_cons rfl (one_cons rfl (one_cons rfl one_nil))))))) st29 (Nat.le_of_ble_eq_true rfl) rfl ?_); intro W33 st34
    refine sx_nil ?_
    refine sx_region ?_
    refine sx rfl (stp_move ((hf32 4 rfl).trans hs24_4) ?_)
    refine sx rfl (stp_add rfl rfl (by (simp only [I64] at *; omega)) ?_)
    refine sx rfl (stp_assign rfl ?_)
    refine sx_nil ?_
    exact ⟨_, y.runs.length - (k + 1), (by omega), rfl, k + 1, (by omega), rfl, ((hf32 1 rfl).trans hs24_1), ((hf32 2 rfl).trans hs24_2), ((hf32 3 rfl).trans hs24_3), rfl, (by rw [cntTo_s (by omega)]; exact st34)⟩
  · skip
    have h25p := of_decide_eq_false h25
    refine wp_exit ?_
    refine wp_seq ?_
    refine sx_region ?_
    refine sx rfl (stp_load_bxs (cs := [I (cntTo y k).state, I (cntTo y k).waits, I (cntTo y k).ready, I (cntTo y k).runs, I (cntTo y k).done, I (cntTo y k).failed, I (cntTo y k).left]) ld_View rfl hs24_3 (st23.get 0 rfl) rfl rfl ?_)
    have st35 := st23.f1
    refine sx rfl (stp_store_agg (cs := [I (cntTo y k).state, I (cntTo y k).waits, I (cntTo y k).ready, I (cntTo y k).runs, I (cntTo y k).done, I (cntTo y k).failed, I (cntTo y k).left]) (C' := [I (cntTo y k).state, I (cntTo y k).waits, I (cntTo y k).ready, I (cntTo y k).runs, I (cntTo y k).done, I (cntTo y k).failed, I (cntTo y k).left]) (by kernel_rfl) hs24_2 rfl (one_cons rfl (one_cons rfl (one_cons rfl (one_cons rfl (one_cons rfl (one_cons rfl (one_cons rfl one_nil))))))) st35 (Nat.le_of_ble_eq_true rfl) rfl ?_); intro W36 st37
    refine sx_nil ?_
    refine wp_ret ?_; repeat (first | refine then_ret ?_ | refine blk_ret ?_)
    refine retc1 ld_View rfl Try.results45 hs24_2 (st37.get 0 rfl) rfl ?_
    obtain rfl : k = y.runs.length := by omega
    exact ⟨rfl, by assumption, st37.bare⟩
set_option maxHeartbeats 2000000 in
theorem BusyOfS (w : World) {y : Yard} {cs : List Value} {fp : List Nat} (hc : Shape.C w cs y fp)  (hw : y.wt ≤ 1048576) :
    Calls Try.prog 53 #[.agg cs.toArray] w fun e w' => ∃ (v : Value) (fp' : List Nat), e = .returned v ∧ St w w' [Res.own v (idsOf y isBusy y.runs.length) fp'] := by
  have hyr : y.runs.length ≤ y.wt := by unfold Yard.wt wtL; omega
  refine enter1 Try.func53 rfl Try.ntmps53 (by decide) ?_
  refine wp_seq ?_
  refine sx_region ?_
  refine sx rfl (stp_box_agg (cs := cs) rfl (St.start w) ?_); intro b1 W2 hb3 st4
  refine sx rfl (stp_assign rfl ?_)
  refine sx_nil ?_
  refine wp_seq ?_
  refine sx_region ?_
  refine sx rfl (stp_buildSlice (cs := []) (e := 3) pnil (run_buildSlice0 ap_IntS _) st4 ?_); intro b6 W7 hb8 st9
  have st9 := st9.row_empty (α := Int)
  refine sx rfl (stp_assign rfl ?_)
  refine sx_nil ?_
  refine wp_seq ?_
  refine wp_seq ?_
  refine sx_region ?_
  refine sx rfl (stp_assign rfl ?_)
  refine sx_nil ?_
  refine wp_block ?_
  refine sx_loop (fun (m : Nat) (f : Nat → Value) (W : World) => ∃ (k : Nat) (v11 : Value), k ≤ y.runs.length ∧ m = y.runs.length - k ∧ f 1 = .pointer (some ⟨b1, 0, none⟩) ∧ f 3 = v11 ∧ f 4 = I (k : Int) ∧ St w W ([Res.row (α := Int) 3 v11 (idsOf y isBusy k) [], Res.bx b1 cs 60])) (y.runs.length - 0) ?_ ?_
  · exact ⟨0, (.slice (some ⟨b6, 0, none⟩) 0 0), (by first | omega | simp), rfl, rfl, rfl, rfl, st9⟩
  intro m12 f13 W14 hJ15
  obtain ⟨k, v11, hcd17_0, rfl, hs17_1, hs17_3, hs17_4, st16⟩ := hJ15
  have hil := idsOf_len y isBusy k
  refine wp_seq ?_
  refine wp_seq ?_
  refine sx_region ?_
  refine sx rfl (stp_move hs17_4 ?_)
  refine sx rfl (stp_fieldAddr fa_Yard_3 hs17_1 ?_)
  have hk18 := hc
  obtain ⟨v18_0, v18_1, g18_0, g18_1, rfl, hok18, h18_0, h18_1, rfl⟩ := hk18
  refine sx rfl (stp_load_bx ld_RunS rfl rfl (st16.get 1 rfl) (i := 3) rfl rfl ?_)
  refine sx rfl (stp_len sl_RunS rfl h18_1 ?_)
  refine sx rfl (stp_lss rfl rfl ?_)
  refine sx_nil ?_
  refine sx_if rfl (fun h19 => ?_) (fun h19 => ?_)
  · skip
    have h19p := of_decide_eq_true h19
    refine wp_skip ?_
    refine wp_seq ?_
    refine wp_block ?_
    refine wp_seq ?_
    refine sx_region ?_
    refine sx rfl (stp_fieldAddr fa_Yard_3 hs17_1 ?_)
    refine sx rfl (stp_load_bx ld_RunS rfl rfl (st16.get 1 rfl) (i := 3) rfl rfl ?_)
    refine sx rfl (stp_move hs17_4 ?_)
    have hyk := yard_run (y := y) (k := k) (by omega)
    have hrw : (y.runs[k]'(by omega)).tasks.length ≤ (y.runs[k]'(by omega)).wt := by unfold Run.wt; omega
    have hi24e2d : k < y.runs.length := (by omega)
    have hq_ := idx h18_1 (i := k) hi24e2d
    obtain ⟨b20, o20, cs20, f20, hp20, hr20, hc20, hm20⟩ := hq_
    refine sx rfl (stp_indexAddr sl_RunS rfl hp20 rfl rfl ?_)
    refine sx rfl (stp_load_rga ld_Run rfl rfl hr20 st16.below (Shape.len hc20) ?_)
    refine sx rfl (stp_call2 Try.func85 rfl rfl rfl ((TasksInS W14 (C_below hc20 st16.below) 3 (by omega)).mono ?_)); rintro _ W23 ⟨v21, fp21, rfl, hk24⟩; refine ⟨_, rfl, ?_⟩
    have st25 := St.call st16 hk24
    refine sx rfl (stp_len sl_IntS rfl (own_Sl (st25.get 0 rfl)) ?_)
    refine sx rfl (stp_gtr rfl rfl ?_)
    refine sx_nil ?_
    refine sx_if rfl (fun h27 => ?_) (fun h27 => ?_)
    · skip
      have h27p := of_decide_eq_true h27
      refine sx_region ?_
      refine sx rfl (stp_move hs17_3 ?_)
      refine sx rfl (stp_fieldAddr fa_Yard_3 hs17_1 ?_)
      refine sx rfl (stp_load_bx ld_RunS rfl rfl (st25.get 2 rfl) (i := 3) rfl rfl ?_)
      refine sx rfl (stp_move hs17_4 ?_)
      refine sx rfl (stp_indexAddr sl_RunS rfl hp20 rfl rfl ?_)
      refine sx rfl (stp_fieldAddr fa_Run_0 rfl ?_)
      have hk28 := hc20
      obtain ⟨v28_0, v28_1, g28_0, g28_1, rfl, hok28, h28_0, h28_1, rfl⟩ := hk28
      refine sx rfl (stp_load_rg ld_int rfl rfl hr20 st25.below (i := 0) rfl rfl ?_)
      refine sx rfl (stp_buildSlice (cs := [I (y.runs[k]'hi24e2d).id]) (e := 3) (pcons (v := I (y.runs[k]'hi24e2d).id) rfl pnil) (run_buildSlice1 ap_IntS _ _ rfl rfl (by decide)) st25 ?_); intro b29 W30 hb31 st32
      have st34 := st32.f2
      refine sx rfl (stp_append_bx (ys := [(y.runs[k]'hi24e2d).id]) ap_IntS rfl rfl rfl st34 (Elems.int1 (yard_id hc (by omega))) (by unfold maxLen; omega) (by omega) ?_); intro v35 W36 st37
      refine sx rfl (stp_assign rfl ?_)
      refine sx_nil ?_
      refine sx_region ?_
      refine sx rfl (stp_move hs17_4 ?_)
      refine sx rfl (stp_add rfl rfl (by (simp only [I64] at *; omega)) ?_)
      refine sx rfl (stp_assign rfl ?_)
      refine sx_nil ?_
      have st38 := st37.f2
      have st39 := st38.f1
      have st40 := st39.d2
      exact ⟨_, y.runs.length - (k + 1), (by omega), rfl, k + 1, v35, (by omega), rfl, hs17_1, rfl, rfl, (by rw [idsOf_t (by omega) (by simp only [isBusy, Bool.and_eq_true, Bool.and_eq_false_iff, decide_eq_true_eq, decide_eq_false_iff_not]; omega)]; exact st40)⟩
    · skip
      have h27p := of_decide_eq_false h27
      refine wp_skip ?_
      refine sx_region ?_
      refine sx rfl (stp_move hs17_4 ?_)
      refine sx rfl (stp_add rfl rfl (by (simp only [I64] at *; omega)) ?_)
      refine sx rfl (stp_assign rfl ?_)
      refine sx_nil ?_
      have st41 := st25.f2
      have st42 := st41.f2
      have st43 := st42.d2
      exact ⟨_, y.runs.length - (k + 1), (by omega), rfl, k + 1, v11, (by omega), rfl, hs17_1, hs17_3, rfl, (by rw [idsOf_f (by omega) (by simp only [isBusy, Bool.and_eq_true, Bool.and_eq_false_iff, decide_eq_true_eq, decide_eq_false_iff_not]; omega)]; exact st43)⟩
  · skip
    have h19p := of_decide_eq_false h19
    refine wp_exit ?_
    refine wp_seq ?_
    refine sx_region ?_
    refine sx rfl (stp_move hs17_3 ?_)
    refine sx rfl (stp_assign rfl ?_)
    refine sx_nil ?_
    refine wp_ret ?_; repeat (first | refine then_ret ?_ | refine blk_ret ?_)
    refine ret1 Try.results53 rfl ?_
    obtain rfl : k = y.runs.length := by omega
    have hq_ := st16.shut
    obtain ⟨fpz, stz⟩ := hq_
    exact ⟨_, fpz, rfl, stz.only 0 rfl⟩
end Go.Proofs.Ytbnjncjplkbijaa
