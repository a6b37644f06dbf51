/-
  Two slices of hands are compared; one is copied.
-/
import Derived.Test.YtgkloiodfhmckaaHands
namespace Go.Proofs.Ytgkloiodfhmckaa
set_option linter.unusedSimpArgs false
set_option linter.unusedVariables false
open Go.RowKit

theorem take_eq_succ {α : Type} {xs ys : List α} {n : Nat} (hx : n < xs.length) (hy : n < ys.length) (h : xs.take n = ys.take n) (he : xs[n] = ys[n]) : xs.take (n + 1) = ys.take (n + 1) := by
  rw [List.take_succ_eq_append_getElem hx, List.take_succ_eq_append_getElem hy, h, he]

theorem eqHandS_any (va vb : Value) (xs ys : List Hand) (fa fb : List Nat) (w : World) (ha : Sl w va xs fa) (hb : Sl w vb ys fb) :
    Calls Try.prog 21 #[va, vb] w fun e w' => e = .returned (.bool (eqB xs ys)) ∧ Below w.heap.size w w' := by
  obtain ⟨ao, ca, rfl, ha1, ha2, ha3⟩ := ha.openk 4 rfl
  obtain ⟨bo, cb, rfl, hb1, hb2, hb3⟩ := hb.openk 4 rfl
  by_cases hl : xs.length = ys.length
  · have hl' : ((xs.length : Int) != (ys.length : Int)) = false := by simp [hl]
    have HL := Lib.hid hl
    clear hl
    go_enter Try.func21, Try.ntmps21
    go_wp2_with fail
    go_loopw [5] (fun i wr => ∃ n : Nat, n ≤ xs.length ∧ i = .int .i64 n ∧ Below w.heap.size w wr ∧ xs.take n = ys.take n) (fun i _ => xs.length - (intOf i).toNat)
    case atStart => exact ⟨0, Nat.zero_le _, rfl, Below.refl _ _, rfl⟩
    case round =>
      obtain ⟨n, hn, rfl, hbw, ht⟩ := hrel
      have HT := Lib.hid ht
      clear ht
      by_cases hlt : n < xs.length
      · obtain ⟨b1, o1, rfl, _, _, he1⟩ := ha3 (by omega)
        obtain ⟨b2, o2, rfl, _, _, he2⟩ := hb3 (by have := HL.out; omega)
        obtain ⟨_, f1, hr1, ⟨rfl, _, _⟩, _⟩ := he1 n hlt
        obtain ⟨_, f2, hr2, ⟨rfl, _, _⟩, _⟩ := he2 n (by have := HL.out; omega)
        obtain ⟨c0, c1, c2, c3⟩ := cells4 (rangeAt_below hr1 hbw)
        obtain ⟨d0, d1, d2, d3⟩ := cells4 (rangeAt_below hr2 hbw)
        have k0 := cell_regrown c0
        have k1 := cell_regrown c1
        have k2 := cell_regrown c2
        have k3 := cell_regrown c3
        have l0 := cell_regrown d0
        have l1 := cell_regrown d1
        have l2 := cell_regrown d2
        have l3 := cell_regrown d3
        clear c0 c1 c2 c3 d0 d1 d2 d3 hr1 hr2 he1 he2 ha3 hb3
        have hlt2 : (n : Int) < ys.length := by have := HL.out; omega
        go_wp2_with fail
        refine wp_region_quiet_below (by kernel_rfl) (by kernel_rfl) ?_
        repeat (go_big_quiet_step ((go_at_call 40; exact Calls.regrown_of (eqHand_any xs[n] ys[n] _))))
        refine wpQuiet_nil ?_
        rintro w1 ⟨p, rfl⟩
        have hb1 := hbw.trans ((below_regrown wr p.d p.os).mono hbw.size)
        generalize Sort.grow (redrawn wr p.d) p.os = w1 at *
        go_wp2_with fail
        · rename_i hq
          go_ret
          have he : ¬ xs[n] = ys[n] := by simpa [eqB] using hq
          have : xs ≠ ys := fun h => he (by subst h; rfl)
          exact ⟨by simp [eqB, this], hb1⟩
        · rename_i hq
          have he : xs[n] = ys[n] := by simpa [eqB] using hq
          go_roundw
          case rel => exact ⟨n + 1, by omega, by go_num, hb1, take_eq_succ hlt (by have := HL.out; omega) HT.out he⟩
          case measure => simp [intOf]; omega
      · go_wp2_with fail
        go_ret
        refine ⟨?_, hbw⟩
        have h1 := HT.out
        have h2 := HL.out
        rw [List.take_of_length_le (by omega), List.take_of_length_le (by omega)] at h1
        simp [eqB, h1]
  · have hl' : ((xs.length : Int) != (ys.length : Int)) = true := by simp; omega
    have HL := Lib.hid hl
    clear hl
    go_enter Try.func21, Try.ntmps21
    go_wp2_with fail
    go_ret
    refine ⟨?_, Below.refl _ _⟩
    have : xs ≠ ys := fun h => HL.out (by subst h; rfl)
    simp [eqB, this]
end Go.Proofs.Ytgkloiodfhmckaa
