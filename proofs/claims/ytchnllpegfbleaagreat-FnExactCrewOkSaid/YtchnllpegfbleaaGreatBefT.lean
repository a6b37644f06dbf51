/-
  The tasks before and behind a task, in order. Theory alone.
-/
import Derived.Test.YtchnllpegfbleaaGreatPlanT
namespace Go.Proofs.YtchnllpegfbleaaGreat
set_option linter.unusedSimpArgs false
set_option linter.unusedVariables false
open Go.RowKit

def leI (x y : Int) : Bool := decide (x ≤ y)
def sortI (l : List Int) : List Int := l.mergeSort (fun x y => decide (x ≤ y))
theorem sortI_perm (l : List Int) : (sortI l).Perm l := List.mergeSort_perm l _
theorem sortI_le (l : List Int) : (sortI l).Pairwise (fun x y => x ≤ y) := by
  have h := List.pairwise_mergeSort (le := fun x y : Int => decide (x ≤ y)) (fun a b c h1 h2 => by simp only [decide_eq_true_eq] at *; omega) (fun a b => by simp only [Bool.or_eq_true, decide_eq_true_eq]; omega) l
  exact h.imp (fun h => by simpa using h)
theorem sortI_len (l : List Int) : (sortI l).length = l.length := (sortI_perm l).length_eq
theorem sortI_eq {l l' : List Int} (hp : l.Perm l') (hs : l.Pairwise (fun x y => x ≤ y)) : l = sortI l' :=
  List.Perm.eq_of_pairwise (le := fun x y => x ≤ y) (fun a b _ _ h1 h2 => by omega) hs (sortI_le l') (hp.trans (sortI_perm l').symm)
/-- Each value in turn, as often as it is there. -/
def byTurn (l : List Int) (n : Nat) : List Int := (List.range n).flatMap (fun t : Nat => l.filter (fun x => decide (x = (t : Int))))
theorem filter_or {α : Type} (p q r : α → Bool) (l : List α) (h : ∀ x, r x = (p x || q x)) (hd : ∀ x, p x = true → q x = true → False) : (l.filter p ++ l.filter q).Perm (l.filter r) := by
  induction l with
  | nil => simp
  | cons x l ih =>
    cases hp : p x with
    | true =>
      have hq : q x = false := by cases hq : q x with | true => exact (hd x hp hq).elim | false => rfl
      have hr : r x = true := by rw [h, hp]; rfl
      simp only [List.filter_cons, hp, hq, hr, if_true, Bool.false_eq_true, if_false, List.cons_append]
      exact List.Perm.cons _ ih
    | false =>
      cases hq : q x with
      | true =>
        have hr : r x = true := by rw [h, hp, hq]; rfl
        simp only [List.filter_cons, hp, hq, hr, if_true, Bool.false_eq_true, if_false]
        exact (List.perm_middle).trans (List.Perm.cons _ ih)
      | false =>
        have hr : r x = false := by rw [h, hp, hq]; rfl
        simp only [List.filter_cons, hp, hq, hr, Bool.false_eq_true, if_false]
        exact ih
theorem byTurn_perm (l : List Int) : ∀ n : Nat, (byTurn l n).Perm (l.filter (fun x => decide (0 ≤ x) && decide (x < (n : Int))))
  | 0 => by
    have : l.filter (fun x => decide (0 ≤ x) && decide (x < ((0 : Nat) : Int))) = [] := by
      rw [List.filter_eq_nil_iff]
      intro x _; simp
    rw [this]
    exact List.Perm.refl _
  | n + 1 => by
    have ih := byTurn_perm l n
    have hb : byTurn l (n + 1) = byTurn l n ++ l.filter (fun x => decide (x = (n : Int))) := by simp [byTurn, List.range_succ, List.flatMap_append]
    rw [hb]
    refine (ih.append_right _).trans (filter_or _ _ _ l (fun x => ?_) (fun x h1 h2 => ?_))
    · rw [Bool.eq_iff_iff]; simp; omega
    · simp at h1 h2; omega
theorem byTurn_le (l : List Int) : ∀ n : Nat, (byTurn l n).Pairwise (fun x y => x ≤ y) ∧ ∀ x ∈ byTurn l n, x < (n : Int)
  | 0 => by simp [byTurn]
  | n + 1 => by
    have ih := byTurn_le l n
    have hb : byTurn l (n + 1) = byTurn l n ++ l.filter (fun x => decide (x = (n : Int))) := by simp [byTurn, List.range_succ, List.flatMap_append]
    rw [hb]
    have hf : ∀ x ∈ l.filter (fun x => decide (x = (n : Int))), x = (n : Int) := fun x hx => by simpa using (List.mem_filter.1 hx).2
    refine ⟨?_, ?_⟩
    · rw [List.pairwise_append]
      refine ⟨ih.1, ?_, ?_⟩
      · rw [List.pairwise_iff_forall_sublist]
        intro a b hs
        have h1 := hf a (hs.subset (by simp))
        have h2 := hf b (hs.subset (by simp))
        omega
      · intro a ha b hb
        have h1 := ih.2 a ha
        have h2 := hf b hb
        omega
    · intro x hx
      rcases List.mem_append.1 hx with h | h
      · have := ih.2 x h; omega
      · have := hf x h; omega
theorem byTurn_eq {l : List Int} {n : Nat} (h : ∀ x ∈ l, 0 ≤ x ∧ x < (n : Int)) : byTurn l n = sortI l := by
  refine sortI_eq ?_ (byTurn_le l n).1
  have hp := byTurn_perm l n
  rwa [List.filter_eq_self.2 (fun x hx => by have := h x hx; simp; omega)] at hp
/-- What an edge list has before a task; behind it. -/
def froms (es : List Edge) (task : Int) : List Int := (es.filter (fun e => decide (e.to_ = task))).map (·.from_)
def tos (es : List Edge) (task : Int) : List Int := (es.filter (fun e => decide (e.from_ = task))).map (·.to_)
noncomputable def beforeOf (p : Plan) (task : Int) : List Int := if planFault p = 0 then sortI (froms p.edges task) else []
noncomputable def behindOf (p : Plan) (task : Int) : List Int := if planFault p = 0 then sortI (tos p.edges task) else []
theorem froms_len (es : List Edge) (task : Int) : (froms es task).length ≤ es.length := by
  unfold froms; rw [List.length_map]; exact List.length_filter_le _ _
theorem tos_len (es : List Edge) (task : Int) : (tos es task).length ≤ es.length := by
  unfold tos; rw [List.length_map]; exact List.length_filter_le _ _
theorem froms_step_t {es : List Edge} {task : Int} {k : Nat} (hk : k < es.length) (h : es[k].to_ = task) : froms (es.take (k + 1)) task = froms (es.take k) task ++ [es[k].from_] := by
  rw [List.take_succ_eq_append_getElem hk, froms, List.filter_append, List.map_append]; simp [froms, h]
theorem froms_step_f {es : List Edge} {task : Int} {k : Nat} (hk : k < es.length) (h : ¬ es[k].to_ = task) : froms (es.take (k + 1)) task = froms (es.take k) task := by
  rw [List.take_succ_eq_append_getElem hk, froms, List.filter_append, List.map_append]; simp [froms, h]
theorem tos_step_t {es : List Edge} {task : Int} {k : Nat} (hk : k < es.length) (h : es[k].from_ = task) : tos (es.take (k + 1)) task = tos (es.take k) task ++ [es[k].to_] := by
  rw [List.take_succ_eq_append_getElem hk, tos, List.filter_append, List.map_append]; simp [tos, h]
theorem tos_step_f {es : List Edge} {task : Int} {k : Nat} (hk : k < es.length) (h : ¬ es[k].from_ = task) : tos (es.take (k + 1)) task = tos (es.take k) task := by
  rw [List.take_succ_eq_append_getElem hk, tos, List.filter_append, List.map_append]; simp [tos, h]
theorem froms_rng {n : Nat} {es : List Edge} (hi : EdgesIn n es) (task : Int) : ∀ x ∈ froms es task, 0 ≤ x ∧ x < (n : Int) := by
  intro x hx
  simp only [froms, List.mem_map, List.mem_filter] at hx
  obtain ⟨e, ⟨he, _⟩, rfl⟩ := hx
  exact (hi e he).1
theorem tos_rng {n : Nat} {es : List Edge} (hi : EdgesIn n es) (task : Int) : ∀ x ∈ tos es task, 0 ≤ x ∧ x < (n : Int) := by
  intro x hx
  simp only [tos, List.mem_map, List.mem_filter] at hx
  obtain ⟨e, ⟨he, _⟩, rfl⟩ := hx
  exact (hi e he).2
/-- The reference's way: task by task, edge by edge. -/
def onesF (es : List Edge) (task : Int) (t : Int) : List Int := (froms es task).filter (fun x => decide (x = t))
def onesT (es : List Edge) (task : Int) (t : Int) : List Int := (tos es task).filter (fun x => decide (x = t))
theorem byTurn_succ (l : List Int) (n : Nat) : byTurn l (n + 1) = byTurn l n ++ l.filter (fun x => decide (x = (n : Int))) := by simp [byTurn, List.range_succ, List.flatMap_append]
theorem byTurn_len_le (l : List Int) (n : Nat) : (byTurn l n).length ≤ l.length := by
  rw [(byTurn_perm l n).length_eq]; exact List.length_filter_le _ _
theorem onesF_step_t {es : List Edge} {task t : Int} {k : Nat} (hk : k < es.length) (h : es[k].from_ = t ∧ es[k].to_ = task) : onesF (es.take (k + 1)) task t = onesF (es.take k) task t ++ [t] := by
  unfold onesF; rw [froms_step_t hk h.2]; simp [List.filter_append, h.1]
theorem onesF_step_f {es : List Edge} {task t : Int} {k : Nat} (hk : k < es.length) (h : ¬ (es[k].from_ = t ∧ es[k].to_ = task)) : onesF (es.take (k + 1)) task t = onesF (es.take k) task t := by
  unfold onesF
  by_cases h2 : es[k].to_ = task
  · rw [froms_step_t hk h2]
    have : ¬ es[k].from_ = t := fun e => h ⟨e, h2⟩
    simp [List.filter_append, this]
  · rw [froms_step_f hk h2]
theorem onesT_step_t {es : List Edge} {task t : Int} {k : Nat} (hk : k < es.length) (h : es[k].from_ = task ∧ es[k].to_ = t) : onesT (es.take (k + 1)) task t = onesT (es.take k) task t ++ [t] := by
  unfold onesT; rw [tos_step_t hk h.1]; simp [List.filter_append, h.2]
theorem onesT_step_f {es : List Edge} {task t : Int} {k : Nat} (hk : k < es.length) (h : ¬ (es[k].from_ = task ∧ es[k].to_ = t)) : onesT (es.take (k + 1)) task t = onesT (es.take k) task t := by
  unfold onesT
  by_cases h2 : es[k].from_ = task
  · rw [tos_step_t hk h2]
    have : ¬ es[k].to_ = t := fun e => h ⟨h2, e⟩
    simp [List.filter_append, this]
  · rw [tos_step_f hk h2]
theorem onesF_len (es : List Edge) (task t : Int) (k n : Nat) : (byTurn (froms es task) n ++ onesF (es.take k) task (n : Int)).length ≤ es.length := by
  have h1 := byTurn_len_le (froms es task) (n + 1)
  rw [byTurn_succ, List.length_append] at h1
  have h2 : (onesF (es.take k) task (n : Int)).length ≤ (onesF es task (n : Int)).length := by
    unfold onesF froms
    exact List.Sublist.length_le (List.Sublist.filter _ (List.Sublist.map _ (List.Sublist.filter _ (List.take_sublist k es))))
  have h3 := froms_len es task
  rw [List.length_append]
  unfold onesF at h2 ⊢
  omega
theorem onesT_len (es : List Edge) (task t : Int) (k n : Nat) : (byTurn (tos es task) n ++ onesT (es.take k) task (n : Int)).length ≤ es.length := by
  have h1 := byTurn_len_le (tos es task) (n + 1)
  rw [byTurn_succ, List.length_append] at h1
  have h2 : (onesT (es.take k) task (n : Int)).length ≤ (onesT es task (n : Int)).length := by
    unfold onesT tos
    exact List.Sublist.length_le (List.Sublist.filter _ (List.Sublist.map _ (List.Sublist.filter _ (List.take_sublist k es))))
  have h3 := tos_len es task
  rw [List.length_append]
  unfold onesT at h2 ⊢
  omega
theorem before_rng (p : Plan) (task : Int) : ∀ x ∈ beforeOf p task, 0 ≤ x ∧ x < p.tasks := by
  intro x hx
  unfold beforeOf at hx
  split at hx
  · rename_i h
    obtain ⟨h1, h2, _⟩ := pf_ok h
    have := froms_rng h2 task x ((sortI_perm _).mem_iff.1 hx)
    unfold planMany at h1
    omega
  · cases hx
theorem behind_rng (p : Plan) (task : Int) : ∀ x ∈ behindOf p task, 0 ≤ x ∧ x < p.tasks := by
  intro x hx
  unfold behindOf at hx
  split at hx
  · rename_i h
    obtain ⟨h1, h2, _⟩ := pf_ok h
    have := tos_rng h2 task x ((sortI_perm _).mem_iff.1 hx)
    unfold planMany at h1
    omega
  · cases hx
theorem before_len (p : Plan) (task : Int) : (beforeOf p task).length ≤ 30 := by
  unfold beforeOf
  split
  · rename_i h
    obtain ⟨h1, _⟩ := pf_ok h
    rw [sortI_len]
    have := froms_len p.edges task
    unfold planMany at h1
    omega
  · simp
theorem behind_len (p : Plan) (task : Int) : (behindOf p task).length ≤ 30 := by
  unfold behindOf
  split
  · rename_i h
    obtain ⟨h1, _⟩ := pf_ok h
    rw [sortI_len]
    have := tos_len p.edges task
    unfold planMany at h1
    omega
  · simp
end Go.Proofs.YtchnllpegfbleaaGreat
