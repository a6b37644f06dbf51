/-
  Ahead2, of the program and of the reference.
-/
import Derived.Test.YtgkloiodfhmckaaKSpan
import Derived.Deep.RegionHeld3
namespace Go.Proofs.Ytgkloiodfhmckaa
set_option linter.unusedSimpArgs false
set_option linter.unusedVariables false
open Go.RowKit

set_option maxHeartbeats 1000000 in
theorem ahead2I_any (x : Span) (va1 : Value) (y : Span) (vb1 : Value) (w : World) : Calls Try.prog 27 #[.agg #[I x.deed.kind, I x.deed.run, I x.deed.plan.prio, I x.deed.plan.most, I x.deed.plan.wait, I x.deed.plan.tasks, va1, I x.deed.task, I x.deed.try_, I x.deed.worker, I x.deed.draw, I x.begin_, I x.end_, I x.reply.code, I x.reply.run, I x.reply.task, I x.reply.try_], .agg #[I y.deed.kind, I y.deed.run, I y.deed.plan.prio, I y.deed.plan.most, I y.deed.plan.wait, I y.deed.plan.tasks, vb1, I y.deed.task, I y.deed.try_, I y.deed.worker, I y.deed.draw, I y.begin_, I y.end_, I y.reply.code, I y.reply.run, I y.reply.task, I y.reply.try_]] w fun e w' => e = .returned (.bool (decide (x.end_ < y.begin_))) ∧ Below w.heap.size w w' := by
  go_enter Try.func27, Try.ntmps27
  go_wp2_with fail
  go_ret
  exact ⟨rfl, below_alloc (below_alloc (Below.refl _ _))⟩
set_option maxHeartbeats 1000000 in
theorem ahead2S_any (x : Span) (va1 : Value) (y : Span) (vb1 : Value) (w : World) : Calls Try.prog 25 #[.agg #[I x.deed.kind, I x.deed.run, I x.deed.plan.prio, I x.deed.plan.most, I x.deed.plan.wait, I x.deed.plan.tasks, va1, I x.deed.task, I x.deed.try_, I x.deed.worker, I x.deed.draw, I x.begin_, I x.end_, I x.reply.code, I x.reply.run, I x.reply.task, I x.reply.try_], .agg #[I y.deed.kind, I y.deed.run, I y.deed.plan.prio, I y.deed.plan.most, I y.deed.plan.wait, I y.deed.plan.tasks, vb1, I y.deed.task, I y.deed.try_, I y.deed.worker, I y.deed.draw, I y.begin_, I y.end_, I y.reply.code, I y.reply.run, I y.reply.task, I y.reply.try_]] w fun e w' => e = .returned (.bool (decide (x.end_ < y.begin_))) ∧ Below w.heap.size w w' := by
  go_enter Try.func25, Try.ntmps25
  go_wp2_with fail
  go_ret
  exact ⟨rfl, below_alloc (below_alloc (Below.refl _ _))⟩
theorem ahead2S_C (x y : Span) (cs ds : List Value) (fp gp : List Nat) (w : World) (hc : Shape.C w cs x fp) (hd : Shape.C w ds y gp) : Calls Try.prog 25 #[.agg cs.toArray, .agg ds.toArray] w fun e w' => e = .returned (.bool (decide (x.end_ < y.begin_))) ∧ Below w.heap.size w w' := by
  obtain ⟨va1, fa1, rfl, _, _, _⟩ := hc
  obtain ⟨vb1, fb1, rfl, _, _, _⟩ := hd
  exact ahead2S_any x va1 y vb1 w
theorem ahead2I_C (x y : Span) (cs ds : List Value) (fp gp : List Nat) (w : World) (hc : Shape.C w cs x fp) (hd : Shape.C w ds y gp) : Calls Try.prog 27 #[.agg cs.toArray, .agg ds.toArray] w fun e w' => e = .returned (.bool (decide (x.end_ < y.begin_))) ∧ Below w.heap.size w w' := by
  obtain ⟨va1, fa1, rfl, _, _, _⟩ := hc
  obtain ⟨vb1, fb1, rfl, _, _, _⟩ := hd
  exact ahead2I_any x va1 y vb1 w
end Go.Proofs.Ytgkloiodfhmckaa
