/-
  The walks of the helpers of the laws on the type Edge: they copy, weigh and compare. (Printed by a program of this project's: wip/gentypes.py.)
-/
import Derived.Test.YtgkloiodfhmckaaKBase
namespace Go.Proofs.Ytgkloiodfhmckaa
set_option linter.unusedSimpArgs false
set_option linter.unusedVariables false
open Go.RowKit

set_option maxHeartbeats 1000000 in
theorem toEdge_any (x : Edge) (w : World) (hok : x.ok)  : Calls Try.prog 52 #[.agg #[I x.from_, I x.to_]] w fun e w' => e = .returned (.agg #[I x.from_, I x.to_]) ∧ Below w.heap.size w w' := by
  go_enter Try.func52, Try.ntmps52
  go_wp2_with fail
  exact bodyPost_ret (v := .agg #[I x.from_, I x.to_]) (by simp [results, Try.results52, go_sem]) rfl ⟨rfl, (by repeat (first | with_reducible exact Below.refl _ _ | with_reducible assumption | with_reducible refine below_alloc ?_ | with_reducible refine below_after ?_ | ((with_reducible refine below_setCell ?_ ?_); rotate_left; omega) | with_reducible refine below_drewN ?_ _ | with_reducible refine Below.drew ?_))⟩
set_option maxHeartbeats 1000000 in
theorem eqEdge_any (x : Edge) (y : Edge) (w : World)   : Calls Try.prog 53 #[.agg #[I x.from_, I x.to_], .agg #[I y.from_, I y.to_]] w fun e w' => e = .returned (.bool (eqB x y)) ∧ Below w.heap.size w w' := by
  go_enter Try.func53, Try.ntmps53
  go_wp2_with fail
  all_goals
    go_ret
    refine ⟨?_, (by repeat (first | with_reducible exact Below.refl _ _ | with_reducible assumption | with_reducible refine below_alloc ?_ | with_reducible refine below_after ?_ | ((with_reducible refine below_setCell ?_ ?_); rotate_left; omega) | with_reducible refine below_drewN ?_ _ | with_reducible refine Below.drew ?_))⟩
    congr 2
    rcases x with ⟨x0, x1⟩
    rcases y with ⟨y0, y1⟩
    simp_all [eqB]
theorem toEdge_C (x : Edge) (cs : List Value) (fp : List Nat) (w : World) (hc : Shape.C w cs x fp) : Calls Try.prog 52 #[.agg cs.toArray] w fun e w' => ∃ (cs' : List Value) (fp' : List Nat), e = .returned (.agg cs'.toArray) ∧ Below w.heap.size w w' ∧ Shape.C w' cs' x fp' ∧ ∀ b ∈ fp', w.heap.size ≤ b := by
  obtain ⟨rfl, rfl, hok⟩ := hc
  refine (toEdge_any x  w hok ).mono ?_
  rintro e w' ⟨rfl, hb⟩
  exact ⟨_, [], rfl, hb, ⟨rfl, rfl, hok⟩, by simp⟩
theorem eqEdge_C (x y : Edge) (cs ds : List Value) (fp gp : List Nat) (w : World) (hc : Shape.C w cs x fp) (hd : Shape.C w ds y gp) : Calls Try.prog 53 #[.agg cs.toArray, .agg ds.toArray] w fun e w' => e = .returned (.bool (eqB x y)) ∧ Below w.heap.size w w' := by
  obtain ⟨rfl, rfl, _⟩ := hc
  obtain ⟨rfl, rfl, _⟩ := hd
  exact eqEdge_any x  y  w 
theorem info_Edge : (Try.prog.info? 89).map (fun i => (i.zero, i.size, i.bytes)) = some (some (.agg #[I 0, I 0]), 2, 16) := by kernel_rfl
set_option maxHeartbeats 1000000 in
theorem toEdgeS_any (v : Value) (xs : List Edge) (fp : List Nat) (w : World) (h : Sl w v xs fp) (hw : xs.length ≤ 1048576) : Calls Try.prog 50 #[v] w fun e w' => ∃ v' f', e = .returned v' ∧ Below w.heap.size w w' ∧ Sl w' v' xs f' ∧ ∀ b ∈ f', w.heap.size ≤ b := by
  obtain ⟨ao, ca, rfl, ha1, ha2, ha3⟩ := h.openk 2 rfl
  obtain ⟨i0, hi, hz0, hz1, hz2⟩ := info_parts info_Edge
  have hmk := fun W => run_make (P := Try.prog) W 47 89 i0 _ Try.underlying47 hi hz0 .i64 .i64 xs.length xs.length (by omega) (by omega) (by rw [hz2]; omega) (by omega)
  go_enter Try.func50, Try.ntmps50
  go_wp2_with fail
  have hrow := Row.made w #[I 0, I 0] (xs.length * 2) 89
  go_loopw [4] (fun i wr => ∃ (n : Nat) (fs : List Nat), n ≤ xs.length ∧ i = .int .i64 n ∧ Below w.heap.size w wr ∧ Row wr w.heap.size 89 (xs.length * 2) ∧ SlAt wr w.heap.size 0 (xs.take n) fs ∧ ∀ c ∈ fs, w.heap.size < c) (fun i _ => xs.length - (intOf i).toNat)
  case atStart => exact ⟨0, [], Nat.zero_le _, rfl, (Below.refl _ _).alloc (Nat.le_refl _) _, hrow, rfl, fun c hc => by cases hc⟩
  case round =>
    obtain ⟨n, fs, hn, rfl, hbw, hR, hS, hfs⟩ := hrel
    by_cases hlt : n < xs.length
    · obtain ⟨b1, o1, rfl, _, _, he1⟩ := ha3 (by omega)
      obtain ⟨_, f1x, hr1, ⟨rfl, _, hok⟩, _⟩ := he1 n hlt
      obtain ⟨c0, c1⟩ := cellsAt2 (rangeAt_below hr1 hbw)
      clear hr1 he1 ha3
      have hBs := hR.lt
      have hSlt := SlAt.lt hS
      go_wp2_with (first
        | (go_at_call 52; refine (toEdge_any xs[n]  _ hok ).mono ?_; rintro e w1 ⟨rfl, hb1⟩; have hR1 := hR.below hb1 hBs; have hS1 := SlAt.loc_row (b := w.heap.size) hb1.size (fun j _ _ => hb1.cell (p := ⟨_, j, none⟩) hBs) (fun c hc _ => hb1.cell (hSlt c hc)) hS)
        | (with_reducible refine wpList_store_elem rfl 89 (.tmp 21) (.tmp 20) rfl w.heap.size n 89 (xs.length * 2) 2 [I xs[n].from_, I xs[n].to_] xs[n] (xs.take n) ([]) fs ?_ ?_ ?_ ?_ hR1 hS1 ?_ ?_ ?_ ?_ ?_; rotate_right; intro w2 hR2 hS2 hb2))
      · go_roundw
        case rel => exact ⟨n + 1, _, by omega, by go_num, (hbw.trans (hb1.mono hbw.size)).trans hb2, hR2, by rw [List.take_succ_eq_append_getElem hlt]; exact hS2, fun c hc => hfs c (by simpa using hc)⟩
        case measure => simp [intOf]; omega
      · rfl
      · rfl
      · rfl
      · simp; omega
      · exact ⟨rfl, rfl, hok⟩
      · omega
      · exact fun c hc => by have := hfs c (by simpa using hc); omega
      · kernel_rfl
    · go_wp2_with fail
      go_ret
      rw [List.take_of_length_le (by omega)] at hS
      exact ⟨_, _, rfl, hbw, Sl.of_row (by omega) hR hS, fp_row hfs⟩
theorem szEdgeS_any (v : Value) (xs : List Edge) (fp : List Nat) (l : Int) (w : World) (h : Sl w v xs fp) (hl : 0 ≤ l) (hl2 : l ≤ 1048576) :
    Calls Try.prog 49 #[v, .int .i64 l] w fun e w' => e = .returned (.int .i64 (szL l xs.length)) ∧ Below w.heap.size w w' := by
  obtain ⟨ao, cap, rfl, h1, h2, h3⟩ := h.openk 2 rfl
  clear h3 h
  by_cases hb : l < xs.length
  · go_enter Try.func49, Try.ntmps49
    go_wp2
    go_ret
    exact ⟨by rw [szL_t (by omega)] <;> rfl, Below.refl _ _⟩
  · go_enter Try.func49, Try.ntmps49
    go_wp2
    go_ret
    exact ⟨by rw [szL_f (by omega)] <;> rfl, Below.refl _ _⟩
set_option maxHeartbeats 1000000 in
theorem eqEdgeS_any (va vb : Value) (xs ys : List Edge) (fa fb : List Nat) (w : World) (ha : Sl w va xs fa) (hb : Sl w vb ys fb) :
    Calls Try.prog 51 #[va, vb] w fun e w' => e = .returned (.bool (eqB xs ys)) ∧ Below w.heap.size w w' := by
  obtain ⟨ao, ca, rfl, ha1, ha2, ha3⟩ := ha.openk 2 rfl
  obtain ⟨bo, cb, rfl, hb1, hb2, hb3⟩ := hb.openk 2 rfl
  clear ha hb
  by_cases hl : xs.length = ys.length
  · have hl' : ((xs.length : Int) != (ys.length : Int)) = false := by simp [hl]
    have HL := Lib.hid hl
    clear hl
    go_enter Try.func51, Try.ntmps51
    go_wp2_with fail
    go_loopw [5] (fun i wr => ∃ n : Nat, n ≤ xs.length ∧ i = .int .i64 n ∧ Below w.heap.size w wr ∧ xs.take n = ys.take n) (fun i _ => xs.length - (intOf i).toNat)
    case atStart => exact ⟨0, Nat.zero_le _, rfl, Below.refl _ _, rfl⟩
    case round =>
      obtain ⟨n, hn, rfl, hbw, ht⟩ := hrel
      have HT := Lib.hid ht
      clear ht
      by_cases hlt : n < xs.length
      · obtain ⟨b1, o1, rfl, _, _, he1⟩ := ha3 (by omega)
        obtain ⟨b2, o2, rfl, _, _, he2⟩ := hb3 (by have := HL.out; omega)
        obtain ⟨_, f1, hr1, ⟨rfl, _, _⟩, _⟩ := he1 n hlt
        obtain ⟨_, f2, hr2, ⟨rfl, _, _⟩, _⟩ := he2 n (by have := HL.out; omega)
        obtain ⟨c0, c1⟩ := cellsAt2 (rangeAt_below hr1 hbw)
        obtain ⟨d0, d1⟩ := cellsAt2 (rangeAt_below hr2 hbw)
        have k0 := cell_regrown c0
        have l0 := cell_regrown d0
        have k1 := cell_regrown c1
        have l1 := cell_regrown d1
        clear c0 c1 d0 d1 hr1 hr2 he1 he2 ha3 hb3
        have hlt2 : (n : Int) < ys.length := by have := HL.out; omega
        go_wp2_with fail
        refine wp_region_quiet_below (by kernel_rfl) (by kernel_rfl) ?_
        repeat (go_big_quiet_step ((go_at_call 53; exact Calls.regrown_of (eqEdge_any xs[n]  ys[n]  _ ))))
        refine wpQuiet_nil ?_
        rintro w1 ⟨p, rfl⟩
        have hb1 := hbw.trans ((below_regrown wr p.d p.os).mono hbw.size)
        generalize Sort.grow (redrawn wr p.d) p.os = w1 at *
        go_wp2_with fail
        · rename_i hq
          go_ret
          have he : ¬ xs[n] = ys[n] := by simpa [eqB] using hq
          have : xs ≠ ys := fun h => he (by subst h; rfl)
          exact ⟨by simp [eqB, this], hb1⟩
        · rename_i hq
          have he : xs[n] = ys[n] := by simpa [eqB] using hq
          go_roundw
          case rel => exact ⟨n + 1, by omega, by go_num, hb1, take_eq_succ hlt (by have := HL.out; omega) HT.out he⟩
          case measure => simp [intOf]; omega
      · go_wp2_with fail
        go_ret
        refine ⟨?_, hbw⟩
        have h1 := HT.out
        have h2 := HL.out
        rw [List.take_of_length_le (by omega), List.take_of_length_le (by omega)] at h1
        simp [eqB, h1]
  · have hl' : ((xs.length : Int) != (ys.length : Int)) = true := by simp; omega
    have HL := Lib.hid hl
    clear hl
    go_enter Try.func51, Try.ntmps51
    go_wp2_with fail
    go_ret
    refine ⟨?_, Below.refl _ _⟩
    have : xs ≠ ys := fun h => HL.out (by subst h; rfl)
    simp [eqB, this]
end Go.Proofs.Ytgkloiodfhmckaa
