/-
  AllOver, LeftIn, EnoughFor, of the program and of the reference. (Printed by a program of this project's.)
-/
import Derived.Test.YtchnllpegfbleaaDoorTasksIn
import Derived.Test.YtchnllpegfbleaaDoorKBase
import Derived.Test.YtchnllpegfbleaaDoorInts
namespace Go.Proofs.YtchnllpegfbleaaDoor
set_option linter.unusedSimpArgs false
set_option linter.unusedVariables false
set_option maxRecDepth 100000
open Go.RowKit


theorem within_n (w : World) (n a b : Int) : Calls Tryd.prog 53 #[I n, I a, I b] w fun e w' => e = .returned (.bool (inB n a b)) ∧ St w w' [] := (within_any n a b w).mono fun e w' ⟨h1, h2⟩ => ⟨h1, by subst h2; exact St.start w⟩
theorem l01In_n (w : World) (n a b : Int) : Calls Tryd.prog 28 #[I n, I a, I b] w fun e w' => e = .returned (.bool (inB n a b)) ∧ St w w' [] := (l01In_any n a b w).mono fun e w' ⟨h1, h2⟩ => ⟨h1, by subst h2; exact St.start w⟩
theorem any_take_f {α : Type} {p : α → Bool} {xs : List α} {k : Nat} (hk : k < xs.length) (h : (xs.take k).any p = false) (hp : p xs[k] = false) : (xs.take (k + 1)).any p = false := by
  rw [List.take_succ_eq_append_getElem hk, List.any_append, h]; simp [hp]
theorem any_get_t {α : Type} {p : α → Bool} {xs : List α} {k : Nat} (hk : k < xs.length) (hp : p xs[k] = true) : xs.any p = true := List.any_eq_true.2 ⟨_, List.getElem_mem hk, hp⟩
theorem sum_take {α : Type} (f : α → Nat) (xs : List α) (k : Nat) (h : k < xs.length) : ((xs.take (k + 1)).map f).sum = ((xs.take k).map f).sum + f xs[k] := wtL_take f xs k h
theorem sum_le {α : Type} {f g : α → Nat} (h : ∀ x, f x ≤ g x) : ∀ xs : List α, (xs.map f).sum ≤ (xs.map g).sum
  | [] => by simp
  | x :: xs => by simp only [List.map_cons, List.sum_cons]; have := h x; have := sum_le h xs; omega
def allOver (y : Yard) : Bool := !y.runs.any (fun r => decide (r.state = 1))
def leftR (r : Run) : Nat := if r.state = 1 then r.tasks.countP (fun t => !decide (t.state = 4)) else 0
def leftIn (y : Yard) : Nat := (y.runs.map leftR).sum
theorem leftR_le (r : Run) : leftR r ≤ r.wt := by
  unfold leftR Run.wt
  have := List.countP_le_length (p := fun t : Task => !decide (t.state = 4)) (l := r.tasks)
  split <;> omega
theorem leftIn_le (y : Yard) : leftIn y ≤ y.wt := by
  unfold leftIn Yard.wt wtL
  have := sum_le leftR_le y.runs
  have e : (y.runs.map (fun y : Run => y.wt)).sum = (y.runs.map Run.wt).sum := rfl
  omega
theorem left_to (y : Yard) (k : Nat) : ((y.runs.take k).map leftR).sum ≤ leftIn y := wtL_take_le leftR y.runs k
theorem tasksTo_count (ts : List Task) (s : Int) : ∀ k, k ≤ ts.length → (tasksTo ts s k).length = (ts.take k).countP (fun t => decide (t.state = s))
  | 0, _ => by simp [tasksTo]
  | k + 1, h => by
    have ih := tasksTo_count ts s k (by omega)
    rw [List.take_succ_eq_append_getElem (by omega), List.countP_append]
    by_cases hs : ts[k].state = s
    · rw [tasksTo_t (by omega) hs, List.length_append, ih]; simp [hs]
    · rw [tasksTo_f (by omega) hs, ih]; simp [hs]
theorem tasksIn_count (ts : List Task) (s : Int) : (tasksIn ts s).length = ts.countP (fun t => decide (t.state = s)) := by
  unfold tasksIn; rw [tasksTo_count ts s _ (Nat.le_refl _), List.take_length]
theorem count_not (ts : List Task) (s : Int) : ts.countP (fun t => !decide (t.state = s)) = ts.length - ts.countP (fun t => decide (t.state = s)) := by
  have := List.length_eq_countP_add_countP (p := fun t : Task => decide (t.state = s)) (l := ts)
  have e : List.countP (fun a : Task => decide ¬decide (a.state = s) = true) ts = ts.countP (fun t => !decide (t.state = s)) := by
    congr 1; funext t; by_cases h : t.state = s <;> simp [h]
  omega
theorem leftR_t {r : Run} (h : r.state = 1) : (leftR r : Int) = r.tasks.length - (tasksIn r.tasks 4).length ∧ (tasksIn r.tasks 4).length ≤ r.tasks.length := by
  have h1 := count_not r.tasks 4
  have h2 := tasksIn_count r.tasks 4
  have h3 := List.countP_le_length (p := fun t : Task => decide (t.state = 4)) (l := r.tasks)
  unfold leftR
  rw [if_pos h]
  omega
theorem leftR_f {r : Run} (h : ¬ r.state = 1) : leftR r = 0 := by unfold leftR; rw [if_neg h]
theorem yard_run {y : Yard} {k : Nat} (h : k < y.runs.length) : y.runs[k].wt + y.runs.length ≤ y.wt := by
  have := wtL_get (fun y : Run => y.wt) y.runs k h
  unfold Yard.wt wtL
  omega
def enoughFor (y : Yard) (b : Int) : Int := if inB b 1 600 then b * (2 * (leftIn y : Int) + 1) else 0
theorem mul_bound {a b : Int} (h1 : 0 ≤ a) (h2 : a ≤ 600) (h3 : 0 ≤ b) (h4 : b ≤ 4000000) : I64 (a * b) := by
  have h5 : a * b ≤ 600 * b := Int.mul_le_mul_of_nonneg_right h2 h3
  have h6 : 0 ≤ a * b := Int.mul_nonneg h1 h3
  unfold I64; omega

end Go.Proofs.YtchnllpegfbleaaDoor
