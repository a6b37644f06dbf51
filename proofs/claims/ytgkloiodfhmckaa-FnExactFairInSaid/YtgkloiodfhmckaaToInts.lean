/-
  A slice of ints is copied.
-/
import Derived.Test.YtgkloiodfhmckaaInts
namespace Go.Proofs.Ytgkloiodfhmckaa
set_option linter.unusedSimpArgs false
set_option linter.unusedVariables false
open Go.RowKit

set_option maxHeartbeats 1000000 in
theorem toIntS_any (v : Value) (xs : List Int) (fp : List Nat) (w : World) (h : Sl w v xs fp) (hw : xs.length ≤ 1048576) : Calls Try.prog 15 #[v] w fun e w' => ∃ v' f', e = .returned v' ∧ Below w.heap.size w w' ∧ Sl w' v' xs f' ∧ ∀ b ∈ f', w.heap.size ≤ b := by
  obtain ⟨ao, ca, rfl, ha1, ha2, ha3⟩ := h.openk 1 rfl
  have HA3 := Lib.hid ha3
  clear ha3 h
  obtain ⟨i0, hi, hz0, hz1, hz2⟩ := info_parts info_int
  have hmk := fun W => run_make (P := Try.prog) W 22 3 i0 _ Try.underlying22 hi hz0 .i64 .i64 xs.length xs.length (by omega) (by omega) (by rw [hz2]; omega) (by omega)
  go_enter Try.func15, Try.ntmps15
  go_wp2_with fail
  have hrow : Row (w.alloc (.cells (madeCells #[Value.int .i64 0] xs.length) 3)) w.heap.size 3 xs.length := Row.made w #[I 0] xs.length 3
  go_loopw [4] (fun i wr => ∃ n : Nat, n ≤ xs.length ∧ i = .int .i64 n ∧ Below w.heap.size w wr ∧ Row wr w.heap.size 3 xs.length ∧ SlAt wr w.heap.size 0 (xs.take n) []) (fun i _ => xs.length - (intOf i).toNat)
  case atStart => exact ⟨0, Nat.zero_le _, rfl, (Below.refl _ _).alloc (Nat.le_refl _) _, by simpa using hrow, rfl⟩
  case round =>
    obtain ⟨n, hn, rfl, hbw, hR, hS⟩ := hrel
    by_cases hlt : n < xs.length
    · obtain ⟨b1, o1, rfl, _, _, he1⟩ := HA3.out (by omega)
      obtain ⟨_, _, hr1, ⟨rfl, _, hok⟩, _⟩ := he1 n hlt
      have c0 := (rangeAt_below hr1 hbw) 0 _ rfl
      simp only [Nat.add_zero, Nat.mul_one] at c0
      obtain ⟨hth, hfr⟩ := hR.there n 1 (by omega) 0 (by omega)
      obtain ⟨u, hu⟩ := Option.isSome_iff_exists.1 hth
      simp only [Nat.add_zero] at hu hfr
      have hst := SlAt.store hR hS (x := xs[n]) (cs := [I xs[n]]) (f1 := []) ⟨rfl, rfl, hok⟩ (by rw [List.length_take]; show (min n xs.length + 1) * 1 ≤ _; omega) (by simp)
      rw [show (xs.take n).length * Shape.size Int = n by rw [List.length_take]; show min n xs.length * 1 = n; omega] at hst
      have hR2 := hR.setCell n (I xs[n])
      have HST := Lib.hid hst
      have HR2 := Lib.hid hR2
      clear hst hR2 hr1 he1 hth
      have hlt3 : (n : Int) < xs.length := by omega
      go_wp2_with fail
      go_roundw
      case rel => exact ⟨n + 1, by omega, by go_num, below_setCell hbw (Nat.le_refl _), HR2.out, by rw [List.take_succ_eq_append_getElem hlt]; exact HST.out⟩
      case measure => simp [intOf]; omega
    · go_wp2_with fail
      go_ret
      rw [List.take_of_length_le (by omega)] at hS
      exact ⟨_, _, rfl, hbw, Sl.of_row (by omega) hR hS, fp_row (fun c hc => by cases hc)⟩
end Go.Proofs.Ytgkloiodfhmckaa
