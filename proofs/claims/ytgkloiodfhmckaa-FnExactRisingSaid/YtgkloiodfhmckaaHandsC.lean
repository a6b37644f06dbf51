/-
  A slice of hands is copied.
-/
import Derived.Test.YtgkloiodfhmckaaHandsB
namespace Go.Proofs.Ytgkloiodfhmckaa
set_option linter.unusedSimpArgs false
set_option linter.unusedVariables false
open Go.RowKit

theorem info_Hand : (Try.prog.info? 73).map (fun i => (i.zero, i.size, i.bytes)) = some (some (.agg #[I 0, I 0, I 0, I 0]), 4, 32) := by kernel_rfl

theorem toHandS_any (v : Value) (xs : List Hand) (fp : List Nat) (w : World) (h : Sl w v xs fp) (hlen : xs.length ≤ 1048576) :
    Calls Try.prog 19 #[v] w fun e w' => ∃ v' f', e = .returned v' ∧ Below w.heap.size w w' ∧ Sl w' v' xs f' := by
  obtain ⟨ao, ca, rfl, ha1, ha2, ha3⟩ := h.openk 4 rfl
  obtain ⟨i0, hi, hz0, hz1, hz2⟩ := info_parts info_Hand
  have hmk := fun W => run_make (P := Try.prog) W 32 73 i0 _ Try.underlying32 hi hz0 .i64 .i64 xs.length xs.length (by omega) (by omega) (by rw [hz2]; omega) (by omega)
  go_enter Try.func19, Try.ntmps19
  go_wp2_with fail
  have hrow := Row.made w #[I 0, I 0, I 0, I 0] (xs.length * 4) 73
  go_loopw [4] (fun i wr => ∃ n : Nat, n ≤ xs.length ∧ i = .int .i64 n ∧ Below w.heap.size w wr ∧ Row wr w.heap.size 73 (xs.length * 4) ∧ SlAt wr w.heap.size 0 (xs.take n) []) (fun i _ => xs.length - (intOf i).toNat)
  case atStart => exact ⟨0, Nat.zero_le _, rfl, (Below.refl _ _).alloc (Nat.le_refl _) _, hrow, rfl⟩
  case round =>
    obtain ⟨n, hn, rfl, hbw, hR, hS⟩ := hrel
    by_cases hlt : n < xs.length
    · obtain ⟨b1, o1, rfl, _, _, he1⟩ := ha3 (by omega)
      obtain ⟨_, f1, hr1, ⟨rfl, _, hok⟩, _⟩ := he1 n hlt
      obtain ⟨c0, c1, c2, c3⟩ := cells4 (rangeAt_below hr1 hbw)
      clear hr1 he1 ha3
      have hBs := hR.lt
      go_wp2_with (first
        | (go_at_call 39; refine (toHand_any xs[n] _).mono ?_; rintro e w1 ⟨rfl, hb1⟩; have hR1 := hR.below hb1 hBs; have hS1 := SlAt.loc_row (b := w.heap.size) hb1.size (fun j _ _ => hb1.cell (p := ⟨_, j, none⟩) hBs) (fun c hc => by cases hc) hS)
        | (with_reducible refine wpList_store_elem rfl 73 (.tmp 21) (.tmp 20) rfl w.heap.size n 73 (xs.length * 4) 4 [I xs[n].run, I xs[n].task, I xs[n].try_, I xs[n].at_] xs[n] (xs.take n) [] [] ?_ ?_ ?_ ?_ hR1 hS1 ?_ ?_ ?_ ?_ ?_; rotate_right; intro w2 hR2 hS2 hb2))
      · go_roundw
        case rel => exact ⟨n + 1, by omega, by go_num, (hbw.trans (hb1.mono hbw.size)).trans hb2, hR2, by rw [List.take_succ_eq_append_getElem hlt]; exact hS2⟩
        case measure => simp [intOf]; omega
      · rfl
      · rfl
      · rfl
      · simp; omega
      · exact ⟨rfl, rfl, hok⟩
      · omega
      · simp
      · kernel_rfl
    · go_wp2_with fail
      go_ret
      rw [List.take_of_length_le (by omega)] at hS
      exact ⟨_, _, rfl, hbw, Sl.of_row (by omega) hR hS⟩
end Go.Proofs.Ytgkloiodfhmckaa
