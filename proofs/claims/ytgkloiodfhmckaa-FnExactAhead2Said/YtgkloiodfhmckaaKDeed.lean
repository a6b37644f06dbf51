/-
  The walks of the helpers of the laws on the type Deed: they copy, weigh and compare. (Printed by a program of this project's: wip/gentypes.py.)
-/
import Derived.Test.YtgkloiodfhmckaaKPlan
namespace Go.Proofs.Ytgkloiodfhmckaa
set_option linter.unusedSimpArgs false
set_option linter.unusedVariables false
open Go.RowKit

set_option maxHeartbeats 1000000 in
theorem toDeed_any (x : Deed) (v1 : Value) (f1 : List Nat) (w : World) (hok : x.ok) (h1 : Sl w v1 x.plan.edges f1) (hw : x.wt ≤ 1048576) : Calls Try.prog 42 #[.agg #[I x.kind, I x.run, I x.plan.prio, I x.plan.most, I x.plan.wait, I x.plan.tasks, v1, I x.task, I x.try_, I x.worker, I x.draw]] w fun e w' => ∃ (v1' : Value) (f1' : List Nat), e = .returned (.agg #[I x.kind, I x.run, I x.plan.prio, I x.plan.most, I x.plan.wait, I x.plan.tasks, v1', I x.task, I x.try_, I x.worker, I x.draw]) ∧ Below w.heap.size w w' ∧ (Sl w' v1' x.plan.edges f1' ∧ ∀ b ∈ f1', w.heap.size ≤ b) := by
  unfold Deed.wt at hw
  go_enter Try.func42, Try.ntmps42
  go_wp2_with (first | ((with_reducible refine at_load 38 _ rfl ?_); refine wpList_load_blk rfl 38 _ rfl _ Try.underlying38 _ _ (by exact rfl) _ _ _ (by repeat (first | (refine heap_alloc_at _ _ _ ?_; first | (with_reducible rfl) | (simp only [size_alloc, after_size]; done)) | (refine (heap_alloc_past _ _ _ ?_).trans ?_; ((try simp only [size_alloc, after_size]); omega)) | (refine (heap_after _ _ _ ?_).trans ?_; ((try simp only [size_alloc, after_size]); omega)))) 5 (by kernel_rfl) _ (by first | (simp only [List.drop_succ_cons, List.drop_zero, List.take_succ_cons, List.take_zero]; done) | (simp only [List.drop_succ_cons, List.drop_zero, List.take_succ_cons, List.take_zero]; rfl)) (by exact rfl) ?_) | ((with_reducible refine at_store 49 _ _ rfl ?_); refine wpList_store_blk rfl 49 _ _ rfl _ Try.underlying49 _ _ (by exact rfl) _ (by exact rfl) _ _ (by repeat (first | (refine heap_alloc_at _ _ _ ?_; first | (with_reducible rfl) | (simp only [size_alloc, after_size]; done)) | (refine (heap_alloc_past _ _ _ ?_).trans ?_; ((try simp only [size_alloc, after_size]); omega)) | (refine (heap_after _ _ _ ?_).trans ?_; ((try simp only [size_alloc, after_size]); omega)))) (by kernel_rfl) (by intro v hv; simp at hv; rcases hv with rfl | rfl | rfl | rfl | rfl <;> rfl) (by simp) _ (by first | (simp only [splice]; done) | (simp only [splice]; rfl)) _ (by first | (simp only [putBlk_after, putBlk_alloc_past, putBlk_alloc_at, go_sem]; done) | (simp [go_sem]; rfl) | (simp [go_sem]; done)) ?_) | ((with_reducible refine at_load 51 _ rfl ?_); refine wpList_load_blk rfl 51 _ rfl _ Try.underlying51 _ _ (by exact rfl) _ _ _ (by repeat (first | (refine heap_alloc_at _ _ _ ?_; first | (with_reducible rfl) | (simp only [size_alloc, after_size]; done)) | (refine (heap_alloc_past _ _ _ ?_).trans ?_; ((try simp only [size_alloc, after_size]); omega)) | (refine (heap_after _ _ _ ?_).trans ?_; ((try simp only [size_alloc, after_size]); omega)))) 11 (by kernel_rfl) _ (by first | (simp only [List.drop_succ_cons, List.drop_zero, List.take_succ_cons, List.take_zero]; done) | (simp only [List.drop_succ_cons, List.drop_zero, List.take_succ_cons, List.take_zero]; rfl)) (by exact rfl) ?_) | ((with_reducible refine at_store 51 _ _ rfl ?_); refine wpList_store_blk rfl 51 _ _ rfl _ Try.underlying51 _ _ (by exact rfl) _ (by exact rfl) _ _ (by repeat (first | (refine heap_alloc_at _ _ _ ?_; first | (with_reducible rfl) | (simp only [size_alloc, after_size]; done)) | (refine (heap_alloc_past _ _ _ ?_).trans ?_; ((try simp only [size_alloc, after_size]); omega)) | (refine (heap_after _ _ _ ?_).trans ?_; ((try simp only [size_alloc, after_size]); omega)))) (by kernel_rfl) (by intro v hv; simp at hv; rcases hv with rfl | rfl | rfl | rfl | rfl | rfl | rfl | rfl | rfl | rfl | rfl <;> rfl) (by simp) _ (by first | (simp only [splice]; done) | (simp only [splice]; rfl)) _ (by first | (simp only [putBlk_after, putBlk_alloc_past, putBlk_alloc_at, go_sem]; done) | (simp [go_sem]; rfl) | (simp [go_sem]; done)) ?_) | (go_at_call 47; refine (toPlan_any x.plan v1 f1 _ hok.2.2.1 (h1.below (by repeat (first | with_reducible exact Below.refl _ _ | with_reducible assumption | with_reducible refine below_alloc ?_ | with_reducible refine below_after ?_ | ((with_reducible refine below_setCell ?_ ?_); rotate_left; omega) | with_reducible refine below_drewN ?_ _ | with_reducible refine Below.drew ?_))) (by omega)).mono ?_; rintro e w1 ⟨v1', f1', rfl, hb1, ⟨hs1_0, hfr1_0⟩⟩; obtain ⟨ao1_0, ca1_0, rfl⟩ := hs1_0.val; have hfs1_0 := hfr1_0; (try simp at hfs1_0); obtain ⟨p1, rfl⟩ := after_of_below hb1; clear hb1))
  refine bodyPost_ret (v := .agg #[I x.kind, I x.run, I x.plan.prio, I x.plan.most, I x.plan.wait, I x.plan.tasks, .slice ao1_0 x.plan.edges.length ca1_0, I x.task, I x.try_, I x.worker, I x.draw]) (by simp [results, Try.results42, go_sem, *]) rfl ⟨_, f1', rfl, (by repeat (first | with_reducible exact Below.refl _ _ | with_reducible assumption | with_reducible refine below_alloc ?_ | with_reducible refine below_after ?_ | ((with_reducible refine below_setCell ?_ ?_); rotate_left; omega) | with_reducible refine below_drewN ?_ _ | with_reducible refine Below.drew ?_)), ?_⟩
  · exact ⟨Sl.toAfter hs1_0 (fun b hb => by have := hfs1_0 b hb; simp only [size_alloc, after_size]; omega) (by simp only [size_alloc, after_size]), fun b hb => by have := hfs1_0 b hb; omega⟩
theorem szDeed_any (x : Deed) (v1 : Value) (f1 : List Nat) (l : Int) (w : World) (hok : x.ok) (h1 : Sl w v1 x.plan.edges f1) (hl : 0 ≤ l) (hl2 : l ≤ 1048576) : Calls Try.prog 41 #[.agg #[I x.kind, I x.run, I x.plan.prio, I x.plan.most, I x.plan.wait, I x.plan.tasks, v1, I x.task, I x.try_, I x.worker, I x.draw], I l] w fun e w' => e = .returned (I (szL l x.wt)) ∧ Below w.heap.size w w' := by
  have hwt : x.wt = x.plan.wt := rfl
  by_cases c0 : l < (x.plan.wt : Nat)
  · go_enter Try.func41, Try.ntmps41
    go_wp2_with fail
    refine (szPlan_any x.plan v1 f1 (l) _ hok.2.2.1 (h1.below (by repeat (first | with_reducible exact Below.refl _ _ | with_reducible assumption | with_reducible refine below_alloc ?_ | with_reducible refine below_after ?_ | ((with_reducible refine below_setCell ?_ ?_); rotate_left; omega) | with_reducible refine below_drewN ?_ _ | with_reducible refine Below.drew ?_))) (by omega) (by omega)).mono ?_
    rintro e w1 ⟨rfl, hb1⟩
    obtain ⟨p1, rfl⟩ := after_of_below hb1
    clear hb1
    rw [szL_t (by omega)]
    go_wp2_with fail
    go_ret
    exact ⟨by rw [szL_t (by omega)] <;> rfl, (by repeat (first | with_reducible exact Below.refl _ _ | with_reducible assumption | with_reducible refine below_alloc ?_ | with_reducible refine below_after ?_ | ((with_reducible refine below_setCell ?_ ?_); rotate_left; omega) | with_reducible refine below_drewN ?_ _ | with_reducible refine Below.drew ?_))⟩
  · go_enter Try.func41, Try.ntmps41
    go_wp2_with fail
    refine (szPlan_any x.plan v1 f1 (l) _ hok.2.2.1 (h1.below (by repeat (first | with_reducible exact Below.refl _ _ | with_reducible assumption | with_reducible refine below_alloc ?_ | with_reducible refine below_after ?_ | ((with_reducible refine below_setCell ?_ ?_); rotate_left; omega) | with_reducible refine below_drewN ?_ _ | with_reducible refine Below.drew ?_))) (by omega) (by omega)).mono ?_
    rintro e w1 ⟨rfl, hb1⟩
    obtain ⟨p1, rfl⟩ := after_of_below hb1
    clear hb1
    rw [szL_f (by omega)]
    go_wp2_with fail
    go_ret
    exact ⟨by rw [szL_f (by omega), hwt]; refine congrArg (fun z => Ending.returned (Value.int IntKind.i64 z)) ?_; first | omega | (simp; done) | (simp; omega), (by repeat (first | with_reducible exact Below.refl _ _ | with_reducible assumption | with_reducible refine below_alloc ?_ | with_reducible refine below_after ?_ | ((with_reducible refine below_setCell ?_ ?_); rotate_left; omega) | with_reducible refine below_drewN ?_ _ | with_reducible refine Below.drew ?_))⟩
set_option maxHeartbeats 1000000 in
theorem eqDeed_any (x : Deed) (va1 : Value) (fa1 : List Nat) (y : Deed) (vb1 : Value) (fb1 : List Nat) (w : World) (ha1 : Sl w va1 x.plan.edges fa1) (hb1 : Sl w vb1 y.plan.edges fb1) : Calls Try.prog 44 #[.agg #[I x.kind, I x.run, I x.plan.prio, I x.plan.most, I x.plan.wait, I x.plan.tasks, va1, I x.task, I x.try_, I x.worker, I x.draw], .agg #[I y.kind, I y.run, I y.plan.prio, I y.plan.most, I y.plan.wait, I y.plan.tasks, vb1, I y.task, I y.try_, I y.worker, I y.draw]] w fun e w' => e = .returned (.bool (eqB x y)) ∧ Below w.heap.size w w' := by
  go_enter Try.func44, Try.ntmps44
  go_wp2_with (first | (go_at_call 48; refine (eqPlan_any x.plan va1 fa1 y.plan vb1 fb1 _ (ha1.below (by repeat (first | with_reducible exact Below.refl _ _ | with_reducible assumption | with_reducible refine below_alloc ?_ | with_reducible refine below_after ?_ | ((with_reducible refine below_setCell ?_ ?_); rotate_left; omega) | with_reducible refine below_drewN ?_ _ | with_reducible refine Below.drew ?_))) (hb1.below (by repeat (first | with_reducible exact Below.refl _ _ | with_reducible assumption | with_reducible refine below_alloc ?_ | with_reducible refine below_after ?_ | ((with_reducible refine below_setCell ?_ ?_); rotate_left; omega) | with_reducible refine below_drewN ?_ _ | with_reducible refine Below.drew ?_)))).mono ?_; rintro e w1 ⟨rfl, hb1⟩; obtain ⟨p1, rfl⟩ := after_of_below hb1; clear hb1))
  all_goals
    go_ret
    refine ⟨?_, (by repeat (first | with_reducible exact Below.refl _ _ | with_reducible assumption | with_reducible refine below_alloc ?_ | with_reducible refine below_after ?_ | ((with_reducible refine below_setCell ?_ ?_); rotate_left; omega) | with_reducible refine below_drewN ?_ _ | with_reducible refine Below.drew ?_))⟩
    congr 2
    rcases x with ⟨x0, x1, x2, x3, x4, x5, x6⟩
    rcases y with ⟨y0, y1, y2, y3, y4, y5, y6⟩
    simp_all [eqB]
theorem toDeed_C (x : Deed) (cs : List Value) (fp : List Nat) (w : World) (hc : Shape.C w cs x fp) (hw : x.wt ≤ 1048576) : Calls Try.prog 42 #[.agg cs.toArray] w fun e w' => ∃ (cs' : List Value) (fp' : List Nat), e = .returned (.agg cs'.toArray) ∧ Below w.heap.size w w' ∧ Shape.C w' cs' x fp' ∧ ∀ b ∈ fp', w.heap.size ≤ b := by
  obtain ⟨v1, f1, rfl, hok, h1, hfp⟩ := hc
  refine (toDeed_any x v1 f1 w hok h1 hw).mono ?_
  rintro e w' ⟨v1', f1', rfl, hb, ⟨r0, q0⟩⟩
  refine ⟨_, _, rfl, hb, ⟨v1', f1', rfl, hok, r0, rfl⟩, ?_⟩
  intro b hb'
  exact q0 b hb'
theorem szDeed_C (x : Deed) (cs : List Value) (fp : List Nat) (l : Int) (w : World) (hc : Shape.C w cs x fp) (hl : 0 ≤ l) (hl2 : l ≤ 1048576) : Calls Try.prog 41 #[.agg cs.toArray, I l] w fun e w' => e = .returned (I (szL l x.wt)) ∧ Below w.heap.size w w' := by
  obtain ⟨v1, f1, rfl, hok, h1, hfp⟩ := hc
  exact szDeed_any x v1 f1 l w hok h1 hl hl2
theorem eqDeed_C (x y : Deed) (cs ds : List Value) (fp gp : List Nat) (w : World) (hc : Shape.C w cs x fp) (hd : Shape.C w ds y gp) : Calls Try.prog 44 #[.agg cs.toArray, .agg ds.toArray] w fun e w' => e = .returned (.bool (eqB x y)) ∧ Below w.heap.size w w' := by
  obtain ⟨va1, fa1, rfl, _, ha1, _⟩ := hc
  obtain ⟨vb1, fb1, rfl, _, hb1, _⟩ := hd
  exact eqDeed_any x va1 fa1 y vb1 fb1 w ha1 hb1
theorem info_Deed : (Try.prog.info? 51).map (fun i => (i.zero, i.size, i.bytes)) = some (some (.agg #[I 0, I 0, I 0, I 0, I 0, I 0, .slice none 0 0, I 0, I 0, I 0, I 0]), 11, 104) := by kernel_rfl
set_option maxHeartbeats 1000000 in
theorem toDeedS_any (v : Value) (xs : List Deed) (fp : List Nat) (w : World) (h : Sl w v xs fp) (hw : wtL (fun y : Deed => y.wt) xs ≤ 1048576) : Calls Try.prog 32 #[v] w fun e w' => ∃ v' f', e = .returned v' ∧ Below w.heap.size w w' ∧ Sl w' v' xs f' ∧ ∀ b ∈ f', w.heap.size ≤ b := by
  unfold wtL at hw
  obtain ⟨ao, ca, rfl, ha1, ha2, ha3⟩ := h.openk 11 rfl
  obtain ⟨i0, hi, hz0, hz1, hz2⟩ := info_parts info_Deed
  have hmk := fun W => run_make (P := Try.prog) W 63 51 i0 _ Try.underlying63 hi hz0 .i64 .i64 xs.length xs.length (by omega) (by omega) (by rw [hz2]; omega) (by omega)
  go_enter Try.func32, Try.ntmps32
  go_wp2_with fail
  have hrow := Row.made w #[I 0, I 0, I 0, I 0, I 0, I 0, .slice none 0 0, I 0, I 0, I 0, I 0] (xs.length * 11) 51
  go_loopw [4] (fun i wr => ∃ (n : Nat) (fs : List Nat), n ≤ xs.length ∧ i = .int .i64 n ∧ Below w.heap.size w wr ∧ Row wr w.heap.size 51 (xs.length * 11) ∧ SlAt wr w.heap.size 0 (xs.take n) fs ∧ ∀ c ∈ fs, w.heap.size < c) (fun i _ => xs.length - (intOf i).toNat)
  case atStart => exact ⟨0, [], Nat.zero_le _, rfl, (Below.refl _ _).alloc (Nat.le_refl _) _, hrow, rfl, fun c hc => by cases hc⟩
  case round =>
    obtain ⟨n, fs, hn, rfl, hbw, hR, hS, hfs⟩ := hrel
    by_cases hlt : n < xs.length
    · obtain ⟨b1, o1, rfl, _, _, he1⟩ := ha3 (by omega)
      obtain ⟨_, f1x, hr1, ⟨v1, f1, rfl, hok, h1, _⟩, _⟩ := he1 n hlt
      obtain ⟨c0, c1, c2, c3, c4, c5, c6, c7, c8, c9, c10⟩ := cellsAt11 (rangeAt_below hr1 hbw)
      clear hr1 he1 ha3
      have hBs := hR.lt
      have hSlt := SlAt.lt hS
      have hwn := wtL_get (fun y : Deed => y.wt) xs n hlt
      go_wp2_with (first
        | (go_at_call 42; refine (toDeed_any xs[n] v1 f1 _ hok (h1.below hbw) (by omega)).mono ?_; rintro e w1 ⟨v1', f1', rfl, hb1, ⟨hs0, hfr0⟩⟩; have hR1 := hR.below hb1 hBs; have hS1 := SlAt.loc_row (b := w.heap.size) hb1.size (fun j _ _ => hb1.cell (p := ⟨_, j, none⟩) hBs) (fun c hc _ => hb1.cell (hSlt c hc)) hS)
        | (with_reducible refine wpList_store_elem rfl 51 (.tmp 21) (.tmp 20) rfl w.heap.size n 51 (xs.length * 11) 11 [I xs[n].kind, I xs[n].run, I xs[n].plan.prio, I xs[n].plan.most, I xs[n].plan.wait, I xs[n].plan.tasks, v1', I xs[n].task, I xs[n].try_, I xs[n].worker, I xs[n].draw] xs[n] (xs.take n) (f1') fs ?_ ?_ ?_ ?_ hR1 hS1 ?_ ?_ ?_ ?_ ?_; rotate_right; intro w2 hR2 hS2 hb2))
      · go_roundw
        case rel => exact ⟨n + 1, _, by omega, by go_num, (hbw.trans (hb1.mono hbw.size)).trans hb2, hR2, by rw [List.take_succ_eq_append_getElem hlt]; exact hS2, fun c hc => by
            simp only [List.mem_append] at hc
            rcases hc with hc | hc
            · exact hfs c hc
            · have := hfr0 c hc; omega⟩
        case measure => simp [intOf]; omega
      · rfl
      · rfl
      · rfl
      · simp; omega
      · exact ⟨v1', f1', rfl, hok, hs0, rfl⟩
      · omega
      · intro c hc
        simp only [List.mem_append] at hc
        rcases hc with hc | hc
        · have := hfs c hc; omega
        · have := hfr0 c hc; omega
      · kernel_rfl
    · go_wp2_with fail
      go_ret
      rw [List.take_of_length_le (by omega)] at hS
      exact ⟨_, _, rfl, hbw, Sl.of_row (by omega) hR hS, fp_row hfs⟩
theorem szDeedS_any (v : Value) (xs : List Deed) (fp : List Nat) (l : Int) (w : World) (h : Sl w v xs fp) (hl : 0 ≤ l) (hl2 : l ≤ 1048576) :
    Calls Try.prog 29 #[v, .int .i64 l] w fun e w' => e = .returned (.int .i64 (szL l (wtL (fun y : Deed => y.wt) xs))) ∧ Below w.heap.size w w' := by
  have hwt : wtL (fun y : Deed => y.wt) xs = xs.length + (xs.map (fun y : Deed => y.wt)).sum := rfl
  have HWT := Lib.hid hwt
  clear hwt
  obtain ⟨ao, ca, rfl, h1, h2, ha3⟩ := h.openk 11 rfl
  clear h
  by_cases hb : l < xs.length
  · go_enter Try.func29, Try.ntmps29
    go_wp2_with fail
    go_ret
    exact ⟨by rw [szL_t (by have := HWT.out; omega)] <;> rfl, Below.refl _ _⟩
  · go_enter Try.func29, Try.ntmps29
    go_wp2_with fail
    go_loopw [1, 5] (fun lv i wr => ∃ n : Nat, n ≤ xs.length ∧ i = .int .i64 n ∧ Below w.heap.size w wr ∧ lv = .int .i64 (l - xs.length - ((xs.take n).map (fun y : Deed => y.wt)).sum) ∧ 0 ≤ l - xs.length - ((xs.take n).map (fun y : Deed => y.wt)).sum) (fun _ i _ => xs.length - (intOf i).toNat)
    case atStart => exact ⟨0, Nat.zero_le _, rfl, Below.refl _ _, by simp, by simp; omega⟩
    case round =>
      obtain ⟨n, hn, rfl, hbw, rfl, hge⟩ := hrel
      by_cases hlt : n < xs.length
      · obtain ⟨b1, o1, rfl, _, _, he1⟩ := ha3 (by omega)
        obtain ⟨_, f1x, hr1, ⟨v1, f1, rfl, hok, h1, _⟩, _⟩ := he1 n hlt
        obtain ⟨c0, c1, c2, c3, c4, c5, c6, c7, c8, c9, c10⟩ := cellsAt11 (rangeAt_below hr1 hbw)
        clear hr1 he1 ha3
        have hstep := wtL_take (fun y : Deed => y.wt) xs n hlt
        have hle := wtL_take_le (fun y : Deed => y.wt) xs (n + 1)
        have HS := Lib.hid hstep
        have HLE := Lib.hid hle
        clear hstep hle
        obtain ⟨s, hs⟩ : ∃ s : Nat, ((xs.take n).map (fun y : Deed => y.wt)).sum = s := ⟨_, rfl⟩
        rw [hs] at HS hge ⊢
        clear hs
        by_cases hc : l - xs.length - s < (xs[n].wt : Nat)
        · go_wp2_with fail
          refine (szDeed_any xs[n] v1 f1 (l - xs.length - s) _ hok (h1.below hbw) (by omega) (by omega)).mono ?_
          rintro e w1 ⟨rfl, hb1⟩
          rw [szL_t (by omega)]
          go_wp2_with fail
          go_ret
          exact ⟨by rw [szL_t (by have := HWT.out; have := HS.out; have := HLE.out; (try simp only at *); omega)] <;> rfl, hbw.trans (hb1.mono hbw.size)⟩
        · go_wp2_with fail
          refine (szDeed_any xs[n] v1 f1 (l - xs.length - s) _ hok (h1.below hbw) (by omega) (by omega)).mono ?_
          rintro e w1 ⟨rfl, hb1⟩
          rw [szL_f (by omega)]
          go_wp2_with fail
          go_roundw
          case rel => exact ⟨n + 1, by omega, by go_num, hbw.trans (hb1.mono hbw.size), by have := HS.out; (try simp only at *); rw [this]; go_num, by have := HS.out; (try simp only at *); omega⟩
          case measure => simp [intOf]; omega
      · go_wp2_with fail
        go_ret
        obtain rfl : n = xs.length := by omega
        rw [List.take_length] at hge ⊢
        exact ⟨by rw [szL_f (by have := HWT.out; omega), HWT.out]; refine congrArg (fun z => Ending.returned (Value.int IntKind.i64 z)) ?_; first | omega | (simp; done) | (simp; omega), hbw⟩
set_option maxHeartbeats 1000000 in
theorem eqDeedS_any (va vb : Value) (xs ys : List Deed) (fa fb : List Nat) (w : World) (ha : Sl w va xs fa) (hb : Sl w vb ys fb) :
    Calls Try.prog 35 #[va, vb] w fun e w' => e = .returned (.bool (eqB xs ys)) ∧ Below w.heap.size w w' := by
  obtain ⟨ao, ca, rfl, ha1, ha2, ha3⟩ := ha.openk 11 rfl
  obtain ⟨bo, cb, rfl, hb1, hb2, hb3⟩ := hb.openk 11 rfl
  clear ha hb
  by_cases hl : xs.length = ys.length
  · have hl' : ((xs.length : Int) != (ys.length : Int)) = false := by simp [hl]
    have HL := Lib.hid hl
    clear hl
    go_enter Try.func35, Try.ntmps35
    go_wp2_with fail
    go_loopw [5] (fun i wr => ∃ n : Nat, n ≤ xs.length ∧ i = .int .i64 n ∧ Below w.heap.size w wr ∧ xs.take n = ys.take n) (fun i _ => xs.length - (intOf i).toNat)
    case atStart => exact ⟨0, Nat.zero_le _, rfl, Below.refl _ _, rfl⟩
    case round =>
      obtain ⟨n, hn, rfl, hbw, ht⟩ := hrel
      have HT := Lib.hid ht
      clear ht
      by_cases hlt : n < xs.length
      · obtain ⟨b1, o1, rfl, _, _, he1⟩ := ha3 (by omega)
        obtain ⟨b2, o2, rfl, _, _, he2⟩ := hb3 (by have := HL.out; omega)
        obtain ⟨_, f1, hr1, ⟨va1, fa1, rfl, _, ha1, _⟩, _⟩ := he1 n hlt
        obtain ⟨_, f2, hr2, ⟨vb1, fb1, rfl, _, hb1, _⟩, _⟩ := he2 n (by have := HL.out; omega)
        obtain ⟨c0, c1, c2, c3, c4, c5, c6, c7, c8, c9, c10⟩ := cellsAt11 (rangeAt_below hr1 hbw)
        obtain ⟨d0, d1, d2, d3, d4, d5, d6, d7, d8, d9, d10⟩ := cellsAt11 (rangeAt_below hr2 hbw)
        have k0 := cell_regrown c0
        have l0 := cell_regrown d0
        have k1 := cell_regrown c1
        have l1 := cell_regrown d1
        have k2 := cell_regrown c2
        have l2 := cell_regrown d2
        have k3 := cell_regrown c3
        have l3 := cell_regrown d3
        have k4 := cell_regrown c4
        have l4 := cell_regrown d4
        have k5 := cell_regrown c5
        have l5 := cell_regrown d5
        have k6 := cell_regrown c6
        have l6 := cell_regrown d6
        have k7 := cell_regrown c7
        have l7 := cell_regrown d7
        have k8 := cell_regrown c8
        have l8 := cell_regrown d8
        have k9 := cell_regrown c9
        have l9 := cell_regrown d9
        have k10 := cell_regrown c10
        have l10 := cell_regrown d10
        clear c0 c1 c2 c3 c4 c5 c6 c7 c8 c9 c10 d0 d1 d2 d3 d4 d5 d6 d7 d8 d9 d10 hr1 hr2 he1 he2 ha3 hb3
        have hlt2 : (n : Int) < ys.length := by have := HL.out; omega
        go_wp2_with fail
        refine wp_region_quiet_below (by kernel_rfl) (by kernel_rfl) ?_
        repeat (go_big_quiet_step ((go_at_call 44; exact Calls.regrown_of (eqDeed_any xs[n] va1 fa1 ys[n] vb1 fb1 _ ((ha1.below hbw).below (below_regrown _ _ _)) ((hb1.below hbw).below (below_regrown _ _ _))))))
        refine wpQuiet_nil ?_
        rintro w1 ⟨p, rfl⟩
        have hb1 := hbw.trans ((below_regrown wr p.d p.os).mono hbw.size)
        generalize Sort.grow (redrawn wr p.d) p.os = w1 at *
        go_wp2_with fail
        · rename_i hq
          go_ret
          have he : ¬ xs[n] = ys[n] := by simpa [eqB] using hq
          have : xs ≠ ys := fun h => he (by subst h; rfl)
          exact ⟨by simp [eqB, this], hb1⟩
        · rename_i hq
          have he : xs[n] = ys[n] := by simpa [eqB] using hq
          go_roundw
          case rel => exact ⟨n + 1, by omega, by go_num, hb1, take_eq_succ hlt (by have := HL.out; omega) HT.out he⟩
          case measure => simp [intOf]; omega
      · go_wp2_with fail
        go_ret
        refine ⟨?_, hbw⟩
        have h1 := HT.out
        have h2 := HL.out
        rw [List.take_of_length_le (by omega), List.take_of_length_le (by omega)] at h1
        simp [eqB, h1]
  · have hl' : ((xs.length : Int) != (ys.length : Int)) = true := by simp; omega
    have HL := Lib.hid hl
    clear hl
    go_enter Try.func35, Try.ntmps35
    go_wp2_with fail
    go_ret
    refine ⟨?_, Below.refl _ _⟩
    have : xs ≠ ys := fun h => HL.out (by subst h; rfl)
    simp [eqB, this]
end Go.Proofs.Ytgkloiodfhmckaa
