/-
  When a run is right. Theory alone.
-/
import Derived.Test.YtchnllpegfbleaaGreatBefT
import Derived.Test.YtchnllpegfbleaaGreatTasksIn
namespace Go.Proofs.YtchnllpegfbleaaGreat
set_option linter.unusedSimpArgs false
set_option linter.unusedVariables false
open Go.RowKit

def cntI (ts : List Task) (s : Int) : Int := ((ts.filter (fun t => decide (t.state = s))).length : Int)
def cnts (ts : List Task) : List Int := [cntI ts 0, cntI ts 1, cntI ts 2, cntI ts 3, cntI ts 4, cntI ts 5, cntI ts 6]
theorem cntI_nonneg (ts : List Task) (s : Int) : 0 ≤ cntI ts s := by unfold cntI; omega
theorem cntI_le (ts : List Task) (s : Int) : cntI ts s ≤ ts.length := by
  unfold cntI
  have := List.length_filter_le (fun t : Task => decide (t.state = s)) ts
  omega
theorem cntI_step {ts : List Task} {k : Nat} (hk : k < ts.length) (s : Int) : cntI (ts.take (k + 1)) s = cntI (ts.take k) s + (if ts[k].state = s then 1 else 0) := by
  unfold cntI
  rw [List.take_succ_eq_append_getElem hk, List.filter_append]
  by_cases h : ts[k].state = s <;> simp [h]
theorem cnts_len (ts : List Task) : (cnts ts).length = 7 := rfl
theorem cnts_nil : cnts [] = [0, 0, 0, 0, 0, 0, 0] := rfl
theorem cnts_set {ts : List Task} {k : Nat} (hk : k < ts.length) (h : 1 ≤ ts[k].state ∧ ts[k].state ≤ 6) (hl : ts[k].state.toNat < (cnts (ts.take k)).length) :
    (cnts (ts.take k)).set ts[k].state.toNat ((cnts (ts.take k))[ts[k].state.toNat]'hl + 1) = cnts (ts.take (k + 1)) := by
  have hc : ts[k].state = 1 ∨ ts[k].state = 2 ∨ ts[k].state = 3 ∨ ts[k].state = 4 ∨ ts[k].state = 5 ∨ ts[k].state = 6 := by omega
  have e : cnts (ts.take (k + 1)) = [cntI (ts.take k) 0 + (if ts[k].state = 0 then 1 else 0), cntI (ts.take k) 1 + (if ts[k].state = 1 then 1 else 0), cntI (ts.take k) 2 + (if ts[k].state = 2 then 1 else 0), cntI (ts.take k) 3 + (if ts[k].state = 3 then 1 else 0), cntI (ts.take k) 4 + (if ts[k].state = 4 then 1 else 0), cntI (ts.take k) 5 + (if ts[k].state = 5 then 1 else 0), cntI (ts.take k) 6 + (if ts[k].state = 6 then 1 else 0)] := by
    unfold cnts
    simp only [cntI_step hk]
  rw [e]
  generalize ts[k].state = s at hc hl ⊢
  rcases hc with rfl | rfl | rfl | rfl | rfl | rfl <;> simp [cnts]
theorem cnts_rng (ts : List Task) (i : Nat) (h : i < (cnts ts).length) : 0 ≤ (cnts ts)[i] ∧ (cnts ts)[i] ≤ ts.length := by
  have hm : (cnts ts)[i] ∈ cnts ts := List.getElem_mem h
  generalize (cnts ts)[i] = y at hm
  simp only [cnts, List.mem_cons, List.not_mem_nil, or_false] at hm
  rcases hm with rfl | rfl | rfl | rfl | rfl | rfl | rfl <;> exact ⟨cntI_nonneg _ _, cntI_le _ _⟩
theorem cnt_sum : ∀ {ts : List Task}, (∀ t ∈ ts, 1 ≤ t.state ∧ t.state ≤ 6) → cntI ts 1 + cntI ts 2 + cntI ts 3 + cntI ts 4 + cntI ts 5 + cntI ts 6 = ts.length
  | [], _ => rfl
  | t :: ts, h => by
    have ih := cnt_sum (ts := ts) (fun x hx => h x (by simp [hx]))
    have ht := h t (by simp)
    have hs : ∀ s : Int, cntI (t :: ts) s = cntI ts s + (if t.state = s then 1 else 0) := by
      intro s
      unfold cntI
      by_cases hh : t.state = s <;> simp [hh]
    simp only [hs, List.length_cons]
    have hc : t.state = 1 ∨ t.state = 2 ∨ t.state = 3 ∨ t.state = 4 ∨ t.state = 5 ∨ t.state = 6 := by omega
    rcases hc with e | e | e | e | e | e <;> simp [e] <;> omega
theorem tasksTo_cnt (ts : List Task) (s : Int) : ∀ k, k ≤ ts.length → ((tasksTo ts s k).length : Int) = cntI (ts.take k) s
  | 0, _ => rfl
  | k + 1, h => by
    have ih := tasksTo_cnt ts s k (by omega)
    have hk : k < ts.length := by omega
    rw [cntI_step hk]
    by_cases hh : ts[k].state = s
    · rw [tasksTo_t hk hh, List.length_append, if_pos hh, List.length_singleton]; omega
    · rw [tasksTo_f hk hh, if_neg hh]; omega
theorem tasksIn_cnt (ts : List Task) (s : Int) : ((tasksIn ts s).length : Int) = cntI ts s := by
  have := tasksTo_cnt ts s ts.length (Nat.le_refl _)
  rwa [List.take_length] at this
/-- The state of a run by its tasks' states. -/
def stateOf (ts : List Task) : Int :=
  if cntI ts 4 = ts.length then 2 else if cntI ts 5 = 1 ∧ cntI ts 1 + cntI ts 2 + cntI ts 3 = 0 then 3 else if cntI ts 5 = 0 ∧ 0 < cntI ts 6 ∧ cntI ts 1 + cntI ts 2 + cntI ts 3 = 0 then 4 else if cntI ts 5 = 0 ∧ cntI ts 6 = 0 then 1 else 0
def isDone (r : Run) (x : Int) : Bool := match r.tasks[x.toNat]? with | some t => decide (t.state = 4) | none => false
def needIn (r : Run) (l : List Int) : Int := ((l.filter (fun b => !isDone r b)).length : Int)
noncomputable def needOf (r : Run) (task : Int) : Int := needIn r (beforeOf r.plan task)
theorem needIn_step {r : Run} {l : List Int} {k : Nat} (hk : k < l.length) : needIn r (l.take (k + 1)) = needIn r (l.take k) + (if isDone r l[k] then 0 else 1) := by
  unfold needIn
  rw [List.take_succ_eq_append_getElem hk, List.filter_append]
  cases h : isDone r l[k] <;> simp [h]
theorem needIn_rng (r : Run) (l : List Int) : 0 ≤ needIn r l ∧ needIn r l ≤ l.length := by
  unfold needIn
  have := List.length_filter_le (fun b => !isDone r b) l
  omega
/-- A task of a run, the states known to be such. -/
def taskOkT (r : Run) (need : Int) (t : Task) : Prop :=
  (1 ≤ t.state ∧ t.state ≤ 6) ∧ t.need = need ∧ (0 ≤ t.try_ ∧ t.try_ ≤ r.plan.most) ∧ (t.state = 3 → 1 ≤ t.until_ ∧ t.until_ ≤ 1000000000) ∧ (¬ t.state = 3 → t.until_ = 0) ∧
  (t.state = 1 → 0 < need) ∧ (t.state = 2 → need = 0 ∧ t.try_ < r.plan.most) ∧ ((t.state = 3 ∨ t.state = 4 ∨ t.state = 5) → need = 0 ∧ 1 ≤ t.try_)
def taskOkK (r : Run) (k : Nat) : Prop := ∀ h : k < r.tasks.length, taskOkT r (needOf r (k : Int)) r.tasks[k]
noncomputable def runOk (r : Run) : Bool := pB ((1 ≤ r.id ∧ r.id ≤ 9999) ∧ planFault r.plan = 0 ∧ (r.tasks.length : Int) = r.plan.tasks ∧ (∀ k, k < r.tasks.length → taskOkK r k) ∧ r.state = stateOf r.tasks ∧ ¬ r.state = 0)
theorem isDone_at {r : Run} {x : Int} (h : x.toNat < r.tasks.length) : isDone r x = decide (r.tasks[x.toNat].state = 4) := by
  unfold isDone; rw [List.getElem?_eq_getElem h]
end Go.Proofs.YtchnllpegfbleaaGreat
