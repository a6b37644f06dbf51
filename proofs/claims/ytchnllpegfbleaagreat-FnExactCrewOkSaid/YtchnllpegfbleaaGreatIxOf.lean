/-
  The place of the first element that a test takes. Theory alone.
-/
import Derived.Test.YtchnllpegfbleaaGreatTypes
namespace Go.Proofs.YtchnllpegfbleaaGreat
set_option linter.unusedSimpArgs false
set_option linter.unusedVariables false
open Go.RowKit
/-- The place of the first that a test takes. -/
def ixOf {α : Type} (p : α → Bool) : List α → Option Nat
  | [] => none
  | x :: xs => if p x then some 0 else (ixOf p xs).map (· + 1)
theorem ixOf_some {α : Type} {p : α → Bool} : ∀ {xs : List α} {k : Nat} (hk : k < xs.length), (xs.take k).any p = false → p xs[k] = true → ixOf p xs = some k
  | x :: xs, 0, _, _, hp => by simp at hp; simp [ixOf, hp]
  | x :: xs, k + 1, hk, h, hp => by
    simp only [List.take_succ_cons, List.any_cons, Bool.or_eq_false_iff] at h
    rw [ixOf, h.1, if_neg (by simp), ixOf_some (xs := xs) (k := k) (by simpa using hk) h.2 (by simpa using hp)]
    rfl
theorem ixOf_none {α : Type} {p : α → Bool} : ∀ {xs : List α}, xs.any p = false → ixOf p xs = none
  | [], _ => rfl
  | x :: xs, h => by
    simp only [List.any_cons, Bool.or_eq_false_iff] at h
    rw [ixOf, h.1, if_neg (by simp), ixOf_none h.2]; rfl
theorem ixOf_lt {α : Type} {p : α → Bool} : ∀ {xs : List α} {k : Nat}, ixOf p xs = some k → ∃ h : k < xs.length, p xs[k] = true
  | x :: xs, k, h => by
    unfold ixOf at h
    by_cases hx : p x = true
    · rw [if_pos hx] at h; cases h; exact ⟨by simp, hx⟩
    · rw [if_neg hx] at h
      cases hq : ixOf p xs with
      | none => rw [hq] at h; cases h
      | some j =>
        rw [hq] at h
        cases h
        obtain ⟨h1, h2⟩ := ixOf_lt hq
        exact ⟨by simpa using h1, by simpa using h2⟩
def ixI : Option Nat → Int
  | some k => k
  | none => -1
theorem any_step_f {α : Type} {p : α → Bool} {xs : List α} {k : Nat} (hk : k < xs.length) (h : (xs.take k).any p = false) (hx : p xs[k] = false) : (xs.take (k + 1)).any p = false := by
  rw [List.take_succ_eq_append_getElem hk, List.any_append, h]; simp [hx]
theorem ix_mem {α : Type} [DecidableEq α] (y : α) (xs : List α) : decide (0 ≤ ixI (ixOf (fun x => eqB y x) xs)) = decide (y ∈ xs) := by
  rw [decide_eq_decide]
  cases h : ixOf (fun x => eqB y x) xs with
  | some k =>
    obtain ⟨hk, hp⟩ := ixOf_lt h
    have e := eqB_iff.1 hp
    refine ⟨fun _ => ?_, fun _ => by simp [ixI]⟩
    rw [e]; exact List.getElem_mem hk
  | none =>
    refine ⟨fun h2 => by simp [ixI] at h2, fun hm => ?_⟩
    obtain ⟨k, hk, rfl⟩ := List.getElem_of_mem hm
    have : ixOf (fun x => eqB xs[k] x) xs ≠ none := by
      intro hn
      have key : ∀ (l : List α), ixOf (fun x => eqB xs[k] x) l = none → xs[k] ∉ l := by
        intro l
        induction l with
        | nil => simp
        | cons a l ih =>
          intro hl hm
          unfold ixOf at hl
          by_cases ha : eqB xs[k] a = true
          · rw [if_pos ha] at hl; cases hl
          · rw [if_neg ha] at hl
            rcases List.mem_cons.1 hm with e | hm
            · exact ha (eqB_t e)
            · refine ih ?_ hm
              cases hq : ixOf (fun x => eqB xs[k] x) l with
              | none => rfl
              | some j => rw [hq] at hl; cases hl
      exact key xs hn (List.getElem_mem hk)
    exact absurd h this
end Go.Proofs.YtchnllpegfbleaaGreat
