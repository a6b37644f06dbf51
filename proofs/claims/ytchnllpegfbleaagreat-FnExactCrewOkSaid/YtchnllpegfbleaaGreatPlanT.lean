/-
  What is wrong with a plan. Theory alone.
-/
import Derived.Test.YtchnllpegfbleaaGreatSearch
import Derived.Test.YtchnllpegfbleaaGreatSxBitI
namespace Go.Proofs.YtchnllpegfbleaaGreat
set_option linter.unusedSimpArgs false
set_option linter.unusedVariables false
open Go.RowKit

/-- One number is out of bounds. -/
def planMany (p : Plan) : Prop := ¬ (1 ≤ p.tasks ∧ p.tasks ≤ 12) ∨ 30 < p.edges.length ∨ ¬ (0 ≤ p.prio ∧ p.prio ≤ 9) ∨ ¬ (1 ≤ p.most ∧ p.most ≤ 5) ∨ ¬ (1 ≤ p.wait ∧ p.wait ≤ 20)
def planCyc (p : Plan) : Prop := ∃ t : Nat, t < p.tasks.toNat ∧ Rch p.edges (t : Int) (t : Int)
open Classical in
noncomputable def planFault (p : Plan) : Int :=
  if planMany p then 1 else if ¬ EdgesIn p.tasks.toNat p.edges then 2 else if ¬ p.edges.Nodup then 3 else if planCyc p then 4 else 0
theorem pf1 {p : Plan} (h : planMany p) : planFault p = 1 := by unfold planFault; rw [if_pos h]
theorem pf2 {p : Plan} (h : ¬ planMany p) (h2 : ¬ EdgesIn p.tasks.toNat p.edges) : planFault p = 2 := by unfold planFault; rw [if_neg h, if_pos h2]
theorem pf3 {p : Plan} (h : ¬ planMany p) (h2 : EdgesIn p.tasks.toNat p.edges) (h3 : ¬ p.edges.Nodup) : planFault p = 3 := by unfold planFault; rw [if_neg h, if_neg (not_not_intro h2), if_pos h3]
theorem pf4 {p : Plan} (h : ¬ planMany p) (h2 : EdgesIn p.tasks.toNat p.edges) (h3 : p.edges.Nodup) (h4 : planCyc p) : planFault p = 4 := by unfold planFault; rw [if_neg h, if_neg (not_not_intro h2), if_neg (not_not_intro h3), if_pos h4]
theorem pf0 {p : Plan} (h : ¬ planMany p) (h2 : EdgesIn p.tasks.toNat p.edges) (h3 : p.edges.Nodup) (h4 : ¬ planCyc p) : planFault p = 0 := by unfold planFault; rw [if_neg h, if_neg (not_not_intro h2), if_neg (not_not_intro h3), if_neg h4]
theorem pf_cases (p : Plan) : planFault p = 0 ∨ planFault p = 1 ∨ planFault p = 2 ∨ planFault p = 3 ∨ planFault p = 4 := by
  unfold planFault
  split
  · simp
  · split
    · simp
    · split
      · simp
      · split <;> simp
theorem pf_rng (p : Plan) : 0 ≤ planFault p ∧ planFault p ≤ 4 := by
  rcases pf_cases p with h | h | h | h | h <;> omega
/-- A plan with no fault. -/
theorem pf_ok {p : Plan} (h : planFault p = 0) : ¬ planMany p ∧ EdgesIn p.tasks.toNat p.edges ∧ p.edges.Nodup ∧ ¬ planCyc p := by
  by_cases h1 : planMany p
  · rw [pf1 h1] at h; omega
  by_cases h2 : EdgesIn p.tasks.toNat p.edges
  · by_cases h3 : p.edges.Nodup
    · by_cases h4 : planCyc p
      · rw [pf4 h1 h2 h3 h4] at h; omega
      · exact ⟨h1, h2, h3, h4⟩
    · rw [pf3 h1 h2 h3] at h; omega
  · rw [pf2 h1 h2] at h; omega
theorem EdgesIn.nil {n : Nat} : EdgesIn n [] := fun e h => by cases h
theorem EdgesIn.step {n : Nat} {es : List Edge} {k : Nat} (h : EdgesIn n (es.take k)) (hk : k < es.length) (h1 : (0 ≤ es[k].from_ ∧ es[k].from_ < n) ∧ (0 ≤ es[k].to_ ∧ es[k].to_ < n)) : EdgesIn n (es.take (k + 1)) := by
  intro e he
  rw [List.take_succ_eq_append_getElem hk] at he
  rcases List.mem_append.1 he with he | he
  · exact h e he
  · simp at he; subst he; exact h1
theorem EdgesIn.at {n : Nat} {es : List Edge} (h : EdgesIn n es) {k : Nat} (hk : k < es.length) : (0 ≤ es[k].from_ ∧ es[k].from_ < n) ∧ (0 ≤ es[k].to_ ∧ es[k].to_ < n) := h _ (List.getElem_mem hk)
theorem nodup_step {α : Type} {xs : List α} {k : Nat} (h : (xs.take k).Nodup) (hk : k < xs.length) (hn : xs[k] ∉ xs.take k) : (xs.take (k + 1)).Nodup := by
  rw [List.take_succ_eq_append_getElem hk, List.nodup_append]
  exact ⟨h, by simp, fun a ha b hb => by simp at hb; subst hb; exact fun e => hn (e ▸ ha)⟩
theorem not_nodup_at {α : Type} {xs : List α} {k : Nat} (hk : k < xs.length) (hm : xs[k] ∈ xs.take k) : ¬ xs.Nodup := by
  intro h
  have h2 : (xs.take (k + 1)).Nodup := h.sublist (List.take_sublist _ _)
  rw [List.take_succ_eq_append_getElem hk, List.nodup_append] at h2
  exact h2.2.2 _ hm _ (by simp) rfl
theorem not_mem_take_step {α : Type} {xs : List α} {y : α} {k : Nat} (hk : k < xs.length) (h : y ∉ xs.take k) (hn : ¬ y = xs[k]) : y ∉ xs.take (k + 1) := by
  rw [List.take_succ_eq_append_getElem hk, List.mem_append]
  rintro (h1 | h1)
  · exact h h1
  · simp at h1; exact hn h1
theorem mem_take_at {α : Type} {xs : List α} {i k : Nat} (hi : i < xs.length) (h : i < k) : xs[i] ∈ xs.take k := by
  rw [List.mem_take_iff_getElem]
  exact ⟨i, by omega, rfl⟩
/-! ### The sets, as numbers -/
theorem relax_snoc (es : List Edge) (m : List Nat) (k : Nat) (hk : k < es.length) : relax (es.take (k + 1)) m = relax1 (relax (es.take k) m) es[k] := by
  unfold relax
  rw [List.take_succ_eq_append_getElem hk, List.foldl_append]; rfl
theorem relax1_bd {m : List Nat} {e : Edge} (h : ∀ x ∈ m, x < 4294967296) (he : 0 ≤ e.to_ ∧ e.to_ < 32) : ∀ x ∈ relax1 m e, x < 4294967296 := by
  intro x hx
  unfold relax1 at hx
  rcases List.mem_or_eq_of_mem_set hx with hx | rfl
  · exact h x hx
  · have hd : ∀ i, m.getD i 0 < 2 ^ 32 := by
      intro i
      rw [List.getD_eq_getElem?_getD]
      cases hi : m[i]? with
      | none => simp
      | some y => simpa using h y (List.mem_of_getElem? hi)
    have h1 : 1 <<< e.to_.toNat < 2 ^ 32 := by
      rw [Nat.one_shiftLeft]
      exact Nat.pow_lt_pow_right (by omega) (by omega)
    exact Nat.or_lt_two_pow (hd _) (Nat.or_lt_two_pow h1 (hd _))
theorem relax_bd {n : Nat} (hn : n ≤ 32) : ∀ {es : List Edge} {m : List Nat}, EdgesIn n es → (∀ x ∈ m, x < 4294967296) → ∀ x ∈ relax es m, x < 4294967296
  | [], m, _, h => h
  | e :: es, m, hi, h => by
    refine relax_bd hn (es := es) (m := relax1 m e) (fun x hx => hi x (by simp [hx])) (relax1_bd h ?_)
    have := hi e (by simp)
    omega
theorem relaxN_bd {n : Nat} (hn : n ≤ 32) {es : List Edge} (hi : EdgesIn n es) (k : Nat) : ∀ x ∈ relaxN es (List.replicate n 0) k, x < 4294967296 := by
  induction k with
  | zero => intro x hx; simp [relaxN, List.mem_replicate] at hx; omega
  | succ k ih => exact relax_bd hn hi ih
/-- One edge's change, as the program writes it. -/
theorem castL_relax1 {m : List Nat} {e : Edge} (hf : 0 ≤ e.from_) (h1 : e.from_.toNat < (castL m).length) (h2 : e.to_.toNat < (castL m).length) :
    (castL m).set e.from_.toNat (orI ((castL m)[e.from_.toNat]'h1) (orI (shlI e.to_) ((castL m)[e.to_.toNat]'h2))) = castL (relax1 m e) := by
  unfold relax1
  rw [← castL_set]
  congr 1
  unfold orI shlI
  rw [castL_at h1]
  simp only [Int.toNat_natCast]
  rw [castL_at h2]
theorem waits_bit {n : Nat} {es : List Edge} (hi : EdgesIn n es) {t : Nat} (ht : t < n) (h : t < (castL (relaxN es (List.replicate n 0) n)).length) : andI (shrI ((castL (relaxN es (List.replicate n 0) n))[t]'h) (t : Int)) 1 = 1 ↔ Rch es (t : Int) (t : Int) := by
  rw [andI_one, castL_at h]
  have hw := waits_iff hi (a := (t : Int)) (b := (t : Int)) (by omega) (by omega)
  unfold bitAt at hw
  rw [← hw, Int.toNat_natCast]
  split <;> simp_all
end Go.Proofs.YtchnllpegfbleaaGreat
