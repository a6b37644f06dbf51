/-
  ReadyOf, OldestOf, of the program and of the reference. (Printed by a program of this project's.)
-/
import Derived.Test.YtchnllpegfbleaaGreatReady
namespace Go.Proofs.YtchnllpegfbleaaGreat
set_option linter.unusedSimpArgs false
set_option linter.unusedVariables false
set_option maxRecDepth 100000
open Go.RowKit


theorem ready_le (y : Yard) (k : Nat) : ((y.shelf.flatten.take k).filter (fresh y)).length ≤ y.wt := by
  have h1 := List.length_filter_le (fresh y) (y.shelf.flatten.take k)
  have h2 := List.length_take_le k y.shelf.flatten
  have h3 := flat_le y y.shelf.length
  rw [List.take_length] at h3
  have := List.length_take (i := k) (l := y.shelf.flatten)
  omega
theorem flat_wt (y : Yard) : y.shelf.flatten.length ≤ y.wt := by
  have h3 := flat_le y y.shelf.length
  rwa [List.take_length] at h3
def zE : Entry := ⟨0, 0, 0, 0⟩
def oldTo (xs : List Entry) : Nat → Entry
  | 0 => xs.getD 0 zE
  | k + 1 => if (xs.getD k zE).seq < (oldTo xs k).seq then xs.getD k zE else oldTo xs k
theorem oldTo_t {xs : List Entry} {k : Nat} (h : k < xs.length) (hs : xs[k].seq < (oldTo xs k).seq) : oldTo xs (k + 1) = xs[k] := by
  have e : xs.getD k zE = xs[k] := by simp [List.getD, h]
  rw [oldTo, e, if_pos hs]
theorem oldTo_f {xs : List Entry} {k : Nat} (h : k < xs.length) (hs : ¬ xs[k].seq < (oldTo xs k).seq) : oldTo xs (k + 1) = oldTo xs k := by
  have e : xs.getD k zE = xs[k] := by simp [List.getD, h]
  rw [oldTo, e, if_neg hs]
theorem oldTo_0 {xs : List Entry} (h : 0 < xs.length) : oldTo xs 0 = xs[0] := by
  rw [oldTo]; simp [List.getD, h]
theorem oldTo_1 {xs : List Entry} (h : 0 < xs.length) : oldTo xs 1 = xs[0] := by
  rw [oldTo_f h (by rw [oldTo_0 h]; omega), oldTo_0 h]
def oldestOf (y : Yard) : Entry × Bool := if readyOf y = [] then (zE, false) else (oldTo (readyOf y) (readyOf y).length, true)
theorem ready_len (y : Yard) : (readyOf y).length ≤ y.wt := by
  have := ready_le y y.shelf.flatten.length
  rwa [List.take_length] at this
theorem zE_ok : zE.ok := by simp [Entry.ok, zE, I64]

theorem C_plain {α : Type} [Shape α] (hp : Plain α) {w w' : World} {cs : List Value} {x : α} {fp : List Nat} (h : Shape.C w cs x fp) (hb : w.heap.size ≤ w'.heap.size) : Shape.C w' cs x [] := by
  have := hp _ _ _ _ h
  subst this
  exact Shape.loc hb (by simp) h
end Go.Proofs.YtchnllpegfbleaaGreat
