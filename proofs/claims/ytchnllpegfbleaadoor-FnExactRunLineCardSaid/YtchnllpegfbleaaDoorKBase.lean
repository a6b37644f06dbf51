/-
  What the walks of the helpers share. (Printed by a program of this project's: wip/gentypes.py.)
-/
import Derived.Test.YtchnllpegfbleaaDoorTypes
namespace Go.Proofs.YtchnllpegfbleaaDoor
set_option linter.unusedSimpArgs false
set_option linter.unusedVariables false
set_option maxRecDepth 100000
open Go.RowKit

def wtL {α : Type} (f : α → Nat) (xs : List α) : Nat := xs.length + (xs.map f).sum
def Plan.wt (x : Plan) : Nat := x.edges.length
def Run.wt (x : Run) : Nat := x.plan.wt + x.tasks.length
def Yard.wt (x : Yard) : Nat := wtL (fun y : List Entry => y.length) (x.shelf) + wtL (fun y : Run => y.wt) (x.runs)
def Deed.wt (x : Deed) : Nat := x.plan.wt
def Note.wt (x : Note) : Nat := x.deed.wt
def File.wt (x : File) : Nat := x.name.size + x.data.size
def Disk.wt (x : Disk) : Nat := wtL (fun y : File => y.wt) (x.files)
def Engine.wt (x : Engine) : Nat := x.yard.wt + x.disk.wt + x.waits.length
def WorldD.wt (x : WorldD) : Nat := x.engine.wt + wtL (fun y : Deed => y.wt) (x.deeds) + x.replies.length
def ActD.wt (x : ActD) : Nat := x.deed.wt + x.keep.length
def Span.wt (x : Span) : Nat := x.deed.wt
def Crew.wt (x : Crew) : Nat := x.yard.wt + x.holds.length
/-- What is left of a measure l when a weight n is taken off; -1 when it is not enough. -/
def szL (l : Int) (n : Nat) : Int := if l < n then -1 else l - n
theorem szL_t {l : Int} {n : Nat} (h : l < n) : szL l n = -1 := by simp [szL, h]
theorem szL_f {l : Int} {n : Nat} (h : ¬ l < n) : szL l n = l - n := by simp [szL, h]
theorem wtL_take {α : Type} (f : α → Nat) (xs : List α) (n : Nat) (h : n < xs.length) : ((xs.take (n + 1)).map f).sum = ((xs.take n).map f).sum + f xs[n] := by
  rw [List.take_succ_eq_append_getElem h, List.map_append, List.sum_append]; simp only [List.map_cons, List.map_nil, List.sum_cons, List.sum_nil]; omega
theorem wtL_take_le {α : Type} (f : α → Nat) : ∀ (xs : List α) (n : Nat), ((xs.take n).map f).sum ≤ (xs.map f).sum
  | [], n => by simp
  | x :: xs, 0 => by simp
  | x :: xs, n + 1 => by have := wtL_take_le f xs n; simp only [List.take_succ_cons, List.map_cons, List.sum_cons]; omega
theorem wtL_get {α : Type} (f : α → Nat) : ∀ (xs : List α) (n : Nat) (h : n < xs.length), f xs[n] ≤ (xs.map f).sum
  | x :: xs, 0, _ => by simp
  | x :: xs, n + 1, h => by have := wtL_get f xs n (by simpa using h); simp; omega
theorem Sl.val {α : Type} [Shape α] {w : World} {v : Value} {xs : List α} {fp : List Nat} (h : Sl w v xs fp) : ∃ ao cap, v = .slice ao xs.length cap := by
  obtain ⟨ao, cap, h, _⟩ := h
  exact ⟨ao, cap, h⟩
theorem bcell {W w1 : World} (hb : Below W.heap.size W w1) : (∀ b o, b < W.heap.size → w1.cell? ⟨b, o, none⟩ = W.cell? ⟨b, o, none⟩) ∧ (∀ b o, b < W.heap.size → w1.frozen? ⟨b, o, none⟩ = W.frozen? ⟨b, o, none⟩) :=
  ⟨fun b o h => hb.cell (p := ⟨b, o, none⟩) h, fun b o h => hb.frozen (p := ⟨b, o, none⟩) h⟩

theorem take_eq_succ {α : Type} {xs ys : List α} {n : Nat} (hx : n < xs.length) (hy : n < ys.length) (h : xs.take n = ys.take n) (he : xs[n] = ys[n]) : xs.take (n + 1) = ys.take (n + 1) := by
  rw [List.take_succ_eq_append_getElem hx, List.take_succ_eq_append_getElem hy, h, he]
end Go.Proofs.YtchnllpegfbleaaDoor
