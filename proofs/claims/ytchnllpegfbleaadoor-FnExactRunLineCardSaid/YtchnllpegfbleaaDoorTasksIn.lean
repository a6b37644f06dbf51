/-
  TasksIn, of the program and of the reference. (Printed by a program of this project's.)
-/
import Derived.Test.YtchnllpegfbleaaDoorTab
namespace Go.Proofs.YtchnllpegfbleaaDoor
set_option linter.unusedSimpArgs false
set_option linter.unusedVariables false
set_option maxRecDepth 100000
open Go.RowKit


/-- The places of the tasks with a state, of the first k. -/
def tasksTo (ts : List Task) (s : Int) (k : Nat) : List Int := (List.range k).filterMap (fun i : Nat => if (ts[i]?).map Task.state = some s then some (i : Int) else none)
def tasksIn (ts : List Task) (s : Int) : List Int := tasksTo ts s ts.length
theorem tasksTo_len (ts : List Task) (s : Int) (k : Nat) : (tasksTo ts s k).length ≤ k := by
  unfold tasksTo
  have := List.length_filterMap_le (fun i : Nat => if (ts[i]?).map Task.state = some s then some (i : Int) else none) (List.range k)
  rwa [List.length_range] at this
theorem tasksTo_t {ts : List Task} {s : Int} {k : Nat} (h : k < ts.length) (hs : ts[k].state = s) : tasksTo ts s (k + 1) = tasksTo ts s k ++ [(k : Int)] := by
  unfold tasksTo
  rw [List.range_succ, List.filterMap_append]
  simp [h, hs]
theorem tasksTo_f {ts : List Task} {s : Int} {k : Nat} (h : k < ts.length) (hs : ¬ ts[k].state = s) : tasksTo ts s (k + 1) = tasksTo ts s k := by
  unfold tasksTo
  rw [List.range_succ, List.filterMap_append]
  simp [h, hs]
end Go.Proofs.YtchnllpegfbleaaDoor
