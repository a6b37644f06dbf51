/-
  A region that draws its order: loads that yield the same in every world that lets alone what was there are taken first; the calls come in their own order.
-/
import Derived.Test.YtgkloiodfhmckaaBase
import Derived.Deep.RegionHeld3
namespace Go.Proofs.Ytgkloiodfhmckaa
set_option linter.unusedSimpArgs false
set_option linter.unusedVariables false
open Go.RowKit

section
variable {P : Program} {ops : Array Oper} {md : Region.Mode} {Q : Exit → Act → World → Prop} {S : World → Prop} {fuel : Nat} {listed : Array Bool} {a : Act} {w : World}
/-- The next operation taken is a load. -/
theorem held_load {oi : Oper} (i : Nat) (d : Tmp) (v : Value) (ty : TypeId) (x : Operand) (p : Addr) (hi : ops[i]? = some oi) (hd : oi.dst = some d) (ho : oi.op = .load ty x) (hg : oi.guard = none) (hs : Region.noSelect ops = true) (hf : Region.free md ops listed i = true) (hr : (Region.ready md ops listed).contains i = true)
    (hx : a.eval x = .pointer (some p)) (hL : ∀ w', S w' → (Instr.loadAt ty (.pointer (some p))).run P w' = .ok v w') (hQ : ∀ c a w, Q (.panic c) (a.put (some d) v) w → Q (.panic c) a w) (hS : S w)
    (h : wpAnyH P md ops Q S fuel (listed.setIfInBounds i true) (a.put (some d) v) w) : wpAnyH P md ops Q S (fuel + 1) listed a w := by
  rw [← hd] at hQ h
  refine wpAnyH_take hi hs hf hr hQ (.inl ⟨by simp [Region.wanted, hg], fun w' hw' => ?_⟩) hS h
  simp only [execOp, ho, hx]
  simp [hL w' hw', Sem.run_bind]
/-- The world under a name. -/
theorem with_world {c : Code} (h : ∀ W, W = w → c.wp P Q a W) : c.wp P Q a w := h w rfl
/-- The next operation taken is a load of a whole struct out of a block that was there when the region began. -/
theorem held_box {W : World} {oi : Oper} (i : Nat) (d : Tmp) (ty : TypeId) (x : Operand) (hi : ops[i]? = some oi) (hd : oi.dst = some d) (ho : oi.op = .load ty x) (hg : oi.guard = none) (hs : Region.noSelect ops = true) (hf : Region.free md ops listed i = true) (hr : (Region.ready md ops listed).contains i = true)
    (b : Nat) (hx : a.eval x = .pointer (some ⟨b, 0, none⟩)) (C : List Value) (t : TypeId) (fr : Nat × Nat) (hB : W.heap[b]? = some (.cells C.toArray t fr)) (fs : Array Field) (hu : P.underlying ty = some (.struct fs)) (n : Nat) (hz : (P.info? ty).map (·.size) = some n) (hn : C.length = n)
    (hQ : ∀ c a w, Q (.panic c) (a.put (some d) (.agg C.toArray)) w → Q (.panic c) a w) (hS : Below W.heap.size W w)
    (h : wpAnyH P md ops Q (fun w' => Below W.heap.size W w') fuel (listed.setIfInBounds i true) (a.put (some d) (.agg C.toArray)) w) : wpAnyH P md ops Q (fun w' => Below W.heap.size W w') (fuel + 1) listed a w :=
  held_load i d _ ty x _ hi hd ho hg hs hf hr hx (fun w' hw' => run_loadAt_all ty fs hu (by rw [hn]; exact hz) (by rw [hw'.block b (Array.getElem?_eq_some_iff.1 hB).1]; exact hB)) hQ hS h
/-- The next operation taken yields its value in whatever world: a copy, a 'not'. -/
theorem held_pure {oi : Oper} (i : Nat) (d : Option Tmp) (v : Value) (hi : ops[i]? = some oi) (hd : oi.dst = d) (hg : oi.guard = none) (hs : Region.noSelect ops = true) (hf : Region.free md ops listed i = true) (hr : (Region.ready md ops listed).contains i = true)
    (hL : ∀ w', (execOp a.eval oi).run P w' = .ok (.value v) w') (hQ : ∀ c a w, Q (.panic c) (a.put d v) w → Q (.panic c) a w) (hS : S w)
    (h : wpAnyH P md ops Q S fuel (listed.setIfInBounds i true) (a.put d v) w) : wpAnyH P md ops Q S (fuel + 1) listed a w := by
  subst hd
  exact wpAnyH_take hi hs hf hr hQ (.inl ⟨by simp [Region.wanted, hg], fun w' _ => hL w'⟩) hS h
/-- One operation alone may come up, and it is a call. -/
theorem held_call {oi : Oper} (i : Nat) (d : Tmp) (f : FuncId) (xs : List Operand) (ats : Array TypeId) (av : List Value) (hr : Region.ready md ops listed = [i]) (hi : ops[i]? = some oi) (hd : oi.dst = some d) (ho : oi.op = .call { callee := .value (.func f), args := xs.toArray, argTypes := ats }) (hg : oi.guard = none)
    {fn : Func} (hfn : P.funcs[f]? = some fn) (hname : (fn.name == "runtime.NumGoroutine") = false) (hbody : fn.body.isNone = false)
    (hav : xs.map a.eval = av) (h : Calls P f av.toArray w fun e w'' => ∃ v, e = .returned v ∧ S w'' ∧ wpAnyH P md ops Q S fuel (listed.setIfInBounds i true) (a.put (some d) v) w'') : wpAnyH P md ops Q S (fuel + 1) listed a w := by
  rw [← hd] at h
  refine wpAnyH_all hr (by simp) (fun j hj => ?_)
  simp only [List.mem_singleton] at hj
  subst hj
  unfold wpOp
  rw [hi]
  simp only [Region.wanted, hg, if_true]
  refine .inl ?_
  have hrun : (execOp a.eval oi).run P w = .ok (.enter f av.toArray) w := by
    have e : execOp a.eval oi = callFunc f (#[] ++ xs.toArray.map a.eval ++ #[]) := by
      obtain ⟨d, op, ty, pos, af, gd⟩ := oi
      simp only at ho
      subst ho
      rfl
    have e2 : xs.toArray.map a.eval = av.toArray := by rw [← hav]; simp
    rw [e, e2]
    have h1 : fn.name ≠ "runtime.NumGoroutine" := by simpa using hname
    have h2 : fn.body ≠ none := by intro h; rw [h] at hbody; cases hbody
    simp [callFunc, hfn, h1, h2]
  unfold Oper.wp Oper.upon
  rw [hrun]
  refine h.mono ?_
  rintro e w'' ⟨v, rfl, hSv, hk⟩
  exact ⟨hSv, hk⟩
end
end Go.Proofs.Ytgkloiodfhmckaa
