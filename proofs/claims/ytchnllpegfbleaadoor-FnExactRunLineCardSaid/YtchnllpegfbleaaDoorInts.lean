/-
  Slices of ints: what is their own is marked and held, two are compared, one is copied; small numbers within bounds.
-/
import Derived.Test.YtchnllpegfbleaaDoorKBase
namespace Go.Proofs.YtchnllpegfbleaaDoor
set_option linter.unusedSimpArgs false
set_option linter.unusedVariables false
set_option maxRecDepth 100000
open Go.RowKit

theorem inB_t {n a b : Int} (h : a ≤ n ∧ n ≤ b) : inB n a b = true := by simp [inB, h]
theorem inB_f {n a b : Int} (h : ¬ (a ≤ n ∧ n ≤ b)) : inB n a b = false := by simp [inB]; omega
theorem inB_iff {n a b : Int} : inB n a b = true ↔ (a ≤ n ∧ n ≤ b) := by simp [inB]
theorem within_any (n a b : Int) (w : World) : Calls Tryd.prog 53 #[.int .i64 n, .int .i64 a, .int .i64 b] w fun e w' => e = .returned (.bool (inB n a b)) ∧ w = w' := by
  by_cases h : a ≤ n
  · by_cases h2 : n ≤ b
    · go_enter Tryd.func53, Tryd.ntmps53
      go_wp2
      go_ret
      exact ⟨by rw [inB_t ⟨h, h2⟩]; simp <;> omega, rfl⟩
    · go_enter Tryd.func53, Tryd.ntmps53
      go_wp2
      go_ret
      exact ⟨by rw [inB_f (by omega)]; simp <;> omega, rfl⟩
  · go_enter Tryd.func53, Tryd.ntmps53
    go_wp2
    go_ret
    exact ⟨by rw [inB_f (by omega)]; simp <;> omega, rfl⟩
theorem l01In_any (n a b : Int) (w : World) : Calls Tryd.prog 28 #[.int .i64 n, .int .i64 a, .int .i64 b] w fun e w' => e = .returned (.bool (inB n a b)) ∧ w = w' := by
  by_cases h : a ≤ n
  · by_cases h2 : n ≤ b
    · go_enter Tryd.func28, Tryd.ntmps28
      go_wp2
      go_ret
      exact ⟨by rw [inB_t ⟨h, h2⟩]; simp <;> omega, rfl⟩
    · go_enter Tryd.func28, Tryd.ntmps28
      go_wp2
      go_ret
      exact ⟨by rw [inB_f (by omega)]; simp <;> omega, rfl⟩
  · go_enter Tryd.func28, Tryd.ntmps28
    go_wp2
    go_ret
    exact ⟨by rw [inB_f (by omega)]; simp <;> omega, rfl⟩
theorem info_int : (Tryd.prog.info? 3).map (fun i => (i.zero, i.size, i.bytes)) = some (some (.int .i64 0), 1, 8) := by kernel_rfl

/-- The empty slice of a literal without elements. -/
theorem own_empty (w : World) (e : TypeId) (size : Nat) : (w.alloc (.cells #[] e)).ownsRow w.heap.size e size (.slice (some ⟨w.heap.size, 0, none⟩) 0 0) 0 [] :=
  ⟨by simp, .inr ⟨w.heap.size, 0, #[], rfl, Nat.le_refl _, heap_alloc_at _ _ _ rfl, Nat.le_refl _, Nat.zero_le _, by simp, by simp⟩⟩
/-- A row of ints that a call has built, as a slice. -/
theorem ints_at {w : World} {b : Nat} : ∀ (xs : List Int) (o : Nat), w.rangeAt b o (xs.map I) → (∀ x ∈ xs, I64 x) → SlAt w b o xs []
  | [], _, _, _ => rfl
  | x :: xs, o, h, hx => by
    refine ⟨[I x], [], [], ?_, ⟨rfl, rfl, hx x (by simp)⟩, ints_at xs (o + 1) ?_ (fun y hy => hx y (by simp [hy])), rfl⟩
    · intro j v hj
      cases j with
      | zero => exact h 0 v hj
      | succ j => simp at hj
    · exact (rangeAt_cons.1 h).2
theorem Sl.of_owns {w : World} {base : Nat} {v : Value} {xs : List Int} {e : TypeId} (h : w.ownsRow base e 1 v xs.length (xs.map I)) (hx : ∀ x ∈ xs, I64 x) : ∃ fp, Sl w v xs fp ∧ (∀ b ∈ fp, base ≤ b) ∧ (∀ b ∈ fp, v.ownBlock = some b) := by
  obtain ⟨hl, ⟨rfl, h0⟩ | ⟨g, cap, cur, rfl, hg, hh, hn, hm, hs, ht⟩⟩ := h
  · have : xs = [] := List.eq_nil_of_length_eq_zero h0
    subst this
    exact ⟨[], ⟨none, 0, rfl, Nat.le_refl _, by omega, .inl ⟨rfl, rfl⟩⟩, by simp, by simp⟩
  · by_cases hne : xs = []
    · subst hne
      exact ⟨[], ⟨_, cap, rfl, hn, by unfold maxLen at hm; omega, .inl ⟨rfl, rfl⟩⟩, by simp, by simp⟩
    · refine ⟨[g], ⟨_, cap, rfl, hn, by unfold maxLen at hm; omega, .inr ⟨g, 0, [], hne, rfl, rfl, (Array.getElem?_eq_some_iff.1 hh).1, ints_at xs 0 ?_ hx⟩⟩, by simp [hg], by simp [Value.ownBlock]⟩
      intro j u hj
      have hjl : j < xs.length := by simpa using (List.getElem?_eq_some_iff.1 hj).1
      have e1 : (xs.map I)[j]? = cur[j]? := by
        rw [← ht, List.getElem?_take, if_pos (by omega), Array.getElem?_toList]
      rw [← hj, e1, Nat.zero_add]
      simp [World.cell?, hh]
end Go.Proofs.YtchnllpegfbleaaDoor
