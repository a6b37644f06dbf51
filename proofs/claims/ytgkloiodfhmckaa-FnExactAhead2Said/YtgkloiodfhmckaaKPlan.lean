/-
  The walks of the helpers of the laws on the type Plan: they copy, weigh and compare. (Printed by a program of this project's: wip/gentypes.py.)
-/
import Derived.Test.YtgkloiodfhmckaaKEdge
namespace Go.Proofs.Ytgkloiodfhmckaa
set_option linter.unusedSimpArgs false
set_option linter.unusedVariables false
open Go.RowKit

set_option maxHeartbeats 1000000 in
theorem toPlan_any (x : Plan) (v1 : Value) (f1 : List Nat) (w : World) (hok : x.ok) (h1 : Sl w v1 x.edges f1) (hw : x.wt ≤ 1048576) : Calls Try.prog 47 #[.agg #[I x.prio, I x.most, I x.wait, I x.tasks, v1]] w fun e w' => ∃ (v1' : Value) (f1' : List Nat), e = .returned (.agg #[I x.prio, I x.most, I x.wait, I x.tasks, v1']) ∧ Below w.heap.size w w' ∧ (Sl w' v1' x.edges f1' ∧ ∀ b ∈ f1', w.heap.size ≤ b) := by
  unfold Plan.wt at hw
  go_enter Try.func47, Try.ntmps47
  go_wp2_with (first | ((with_reducible refine at_load 49 _ rfl ?_); refine wpList_load_blk rfl 49 _ rfl _ Try.underlying49 _ _ (by exact rfl) _ _ _ (by repeat (first | (refine heap_alloc_at _ _ _ ?_; first | (with_reducible rfl) | (simp only [size_alloc, after_size]; done)) | (refine (heap_alloc_past _ _ _ ?_).trans ?_; ((try simp only [size_alloc, after_size]); omega)) | (refine (heap_after _ _ _ ?_).trans ?_; ((try simp only [size_alloc, after_size]); omega)))) 5 (by kernel_rfl) _ (by first | (simp only [List.drop_succ_cons, List.drop_zero, List.take_succ_cons, List.take_zero]; done) | (simp only [List.drop_succ_cons, List.drop_zero, List.take_succ_cons, List.take_zero]; rfl)) (by exact rfl) ?_) | ((with_reducible refine at_store 49 _ _ rfl ?_); refine wpList_store_blk rfl 49 _ _ rfl _ Try.underlying49 _ _ (by exact rfl) _ (by exact rfl) _ _ (by repeat (first | (refine heap_alloc_at _ _ _ ?_; first | (with_reducible rfl) | (simp only [size_alloc, after_size]; done)) | (refine (heap_alloc_past _ _ _ ?_).trans ?_; ((try simp only [size_alloc, after_size]); omega)) | (refine (heap_after _ _ _ ?_).trans ?_; ((try simp only [size_alloc, after_size]); omega)))) (by kernel_rfl) (by intro v hv; simp at hv; rcases hv with rfl | rfl | rfl | rfl | rfl <;> rfl) (by simp) _ (by first | (simp only [splice]; done) | (simp only [splice]; rfl)) _ (by first | (simp only [putBlk_after, putBlk_alloc_past, putBlk_alloc_at, go_sem]; done) | (simp [go_sem]; rfl) | (simp [go_sem]; done)) ?_) | (go_at_call 50; refine (toEdgeS_any v1 x.edges f1 _ (h1.below (by repeat (first | with_reducible exact Below.refl _ _ | with_reducible assumption | with_reducible refine below_alloc ?_ | with_reducible refine below_after ?_ | ((with_reducible refine below_setCell ?_ ?_); rotate_left; omega) | with_reducible refine below_drewN ?_ _ | with_reducible refine Below.drew ?_))) (by omega)).mono ?_; rintro e w1 ⟨v1', f1', rfl, hb1, ⟨hs1_0, hfr1_0⟩⟩; obtain ⟨ao1_0, ca1_0, rfl⟩ := hs1_0.val; have hfs1_0 := hfr1_0; (try simp at hfs1_0); obtain ⟨p1, rfl⟩ := after_of_below hb1; clear hb1))
  refine bodyPost_ret (v := .agg #[I x.prio, I x.most, I x.wait, I x.tasks, .slice ao1_0 x.edges.length ca1_0]) (by simp [results, Try.results47, go_sem, *]) rfl ⟨_, f1', rfl, (by repeat (first | with_reducible exact Below.refl _ _ | with_reducible assumption | with_reducible refine below_alloc ?_ | with_reducible refine below_after ?_ | ((with_reducible refine below_setCell ?_ ?_); rotate_left; omega) | with_reducible refine below_drewN ?_ _ | with_reducible refine Below.drew ?_)), ?_⟩
  · exact ⟨Sl.toAfter hs1_0 (fun b hb => by have := hfs1_0 b hb; simp only [size_alloc, after_size]; omega) (by simp only [size_alloc, after_size]), fun b hb => by have := hfs1_0 b hb; omega⟩
theorem szPlan_any (x : Plan) (v1 : Value) (f1 : List Nat) (l : Int) (w : World) (hok : x.ok) (h1 : Sl w v1 x.edges f1) (hl : 0 ≤ l) (hl2 : l ≤ 1048576) : Calls Try.prog 46 #[.agg #[I x.prio, I x.most, I x.wait, I x.tasks, v1], I l] w fun e w' => e = .returned (I (szL l x.wt)) ∧ Below w.heap.size w w' := by
  have hwt : x.wt = x.edges.length := rfl
  by_cases c0 : l < (x.edges.length : Nat)
  · go_enter Try.func46, Try.ntmps46
    go_wp2_with fail
    refine (szEdgeS_any v1 x.edges f1 (l) _ (h1.below (by repeat (first | with_reducible exact Below.refl _ _ | with_reducible assumption | with_reducible refine below_alloc ?_ | with_reducible refine below_after ?_ | ((with_reducible refine below_setCell ?_ ?_); rotate_left; omega) | with_reducible refine below_drewN ?_ _ | with_reducible refine Below.drew ?_))) (by omega) (by omega)).mono ?_
    rintro e w1 ⟨rfl, hb1⟩
    obtain ⟨p1, rfl⟩ := after_of_below hb1
    clear hb1
    rw [szL_t (by omega)]
    go_wp2_with fail
    go_ret
    exact ⟨by rw [szL_t (by omega)] <;> rfl, (by repeat (first | with_reducible exact Below.refl _ _ | with_reducible assumption | with_reducible refine below_alloc ?_ | with_reducible refine below_after ?_ | ((with_reducible refine below_setCell ?_ ?_); rotate_left; omega) | with_reducible refine below_drewN ?_ _ | with_reducible refine Below.drew ?_))⟩
  · go_enter Try.func46, Try.ntmps46
    go_wp2_with fail
    refine (szEdgeS_any v1 x.edges f1 (l) _ (h1.below (by repeat (first | with_reducible exact Below.refl _ _ | with_reducible assumption | with_reducible refine below_alloc ?_ | with_reducible refine below_after ?_ | ((with_reducible refine below_setCell ?_ ?_); rotate_left; omega) | with_reducible refine below_drewN ?_ _ | with_reducible refine Below.drew ?_))) (by omega) (by omega)).mono ?_
    rintro e w1 ⟨rfl, hb1⟩
    obtain ⟨p1, rfl⟩ := after_of_below hb1
    clear hb1
    rw [szL_f (by omega)]
    go_wp2_with fail
    go_ret
    exact ⟨by rw [szL_f (by omega), hwt]; refine congrArg (fun z => Ending.returned (Value.int IntKind.i64 z)) ?_; first | omega | (simp; done) | (simp; omega), (by repeat (first | with_reducible exact Below.refl _ _ | with_reducible assumption | with_reducible refine below_alloc ?_ | with_reducible refine below_after ?_ | ((with_reducible refine below_setCell ?_ ?_); rotate_left; omega) | with_reducible refine below_drewN ?_ _ | with_reducible refine Below.drew ?_))⟩
set_option maxHeartbeats 1000000 in
theorem eqPlan_any (x : Plan) (va1 : Value) (fa1 : List Nat) (y : Plan) (vb1 : Value) (fb1 : List Nat) (w : World) (ha1 : Sl w va1 x.edges fa1) (hb1 : Sl w vb1 y.edges fb1) : Calls Try.prog 48 #[.agg #[I x.prio, I x.most, I x.wait, I x.tasks, va1], .agg #[I y.prio, I y.most, I y.wait, I y.tasks, vb1]] w fun e w' => e = .returned (.bool (eqB x y)) ∧ Below w.heap.size w w' := by
  go_enter Try.func48, Try.ntmps48
  go_wp2_with (first | (go_at_call 51; refine (eqEdgeS_any va1 vb1 x.edges y.edges fa1 fb1 _ (ha1.below (by repeat (first | with_reducible exact Below.refl _ _ | with_reducible assumption | with_reducible refine below_alloc ?_ | with_reducible refine below_after ?_ | ((with_reducible refine below_setCell ?_ ?_); rotate_left; omega) | with_reducible refine below_drewN ?_ _ | with_reducible refine Below.drew ?_))) (hb1.below (by repeat (first | with_reducible exact Below.refl _ _ | with_reducible assumption | with_reducible refine below_alloc ?_ | with_reducible refine below_after ?_ | ((with_reducible refine below_setCell ?_ ?_); rotate_left; omega) | with_reducible refine below_drewN ?_ _ | with_reducible refine Below.drew ?_)))).mono ?_; rintro e w1 ⟨rfl, hb1⟩; obtain ⟨p1, rfl⟩ := after_of_below hb1; clear hb1))
  all_goals
    go_ret
    refine ⟨?_, (by repeat (first | with_reducible exact Below.refl _ _ | with_reducible assumption | with_reducible refine below_alloc ?_ | with_reducible refine below_after ?_ | ((with_reducible refine below_setCell ?_ ?_); rotate_left; omega) | with_reducible refine below_drewN ?_ _ | with_reducible refine Below.drew ?_))⟩
    congr 2
    rcases x with ⟨x0, x1, x2, x3, x4⟩
    rcases y with ⟨y0, y1, y2, y3, y4⟩
    simp_all [eqB]
theorem toPlan_C (x : Plan) (cs : List Value) (fp : List Nat) (w : World) (hc : Shape.C w cs x fp) (hw : x.wt ≤ 1048576) : Calls Try.prog 47 #[.agg cs.toArray] w fun e w' => ∃ (cs' : List Value) (fp' : List Nat), e = .returned (.agg cs'.toArray) ∧ Below w.heap.size w w' ∧ Shape.C w' cs' x fp' ∧ ∀ b ∈ fp', w.heap.size ≤ b := by
  obtain ⟨v1, f1, rfl, hok, h1, hfp⟩ := hc
  refine (toPlan_any x v1 f1 w hok h1 hw).mono ?_
  rintro e w' ⟨v1', f1', rfl, hb, ⟨r0, q0⟩⟩
  refine ⟨_, _, rfl, hb, ⟨v1', f1', rfl, hok, r0, rfl⟩, ?_⟩
  intro b hb'
  exact q0 b hb'
theorem szPlan_C (x : Plan) (cs : List Value) (fp : List Nat) (l : Int) (w : World) (hc : Shape.C w cs x fp) (hl : 0 ≤ l) (hl2 : l ≤ 1048576) : Calls Try.prog 46 #[.agg cs.toArray, I l] w fun e w' => e = .returned (I (szL l x.wt)) ∧ Below w.heap.size w w' := by
  obtain ⟨v1, f1, rfl, hok, h1, hfp⟩ := hc
  exact szPlan_any x v1 f1 l w hok h1 hl hl2
theorem eqPlan_C (x y : Plan) (cs ds : List Value) (fp gp : List Nat) (w : World) (hc : Shape.C w cs x fp) (hd : Shape.C w ds y gp) : Calls Try.prog 48 #[.agg cs.toArray, .agg ds.toArray] w fun e w' => e = .returned (.bool (eqB x y)) ∧ Below w.heap.size w w' := by
  obtain ⟨va1, fa1, rfl, _, ha1, _⟩ := hc
  obtain ⟨vb1, fb1, rfl, _, hb1, _⟩ := hd
  exact eqPlan_any x va1 fa1 y vb1 fb1 w ha1 hb1
end Go.Proofs.Ytgkloiodfhmckaa
