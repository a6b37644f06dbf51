/-
  What waits for what: ways along edges, and that a short one is there where there is one. Theory alone.
-/
import Derived.Test.YtchnllpegfbleaaGreatTypes
namespace Go.Proofs.YtchnllpegfbleaaGreat
set_option linter.unusedSimpArgs false
set_option linter.unusedVariables false
open Go.RowKit

/-- A way from a: the tasks that it comes to, in order. -/
def Way (es : List Edge) : Int → List Int → Prop
  | _, [] => True
  | a, v :: vs => (⟨a, v⟩ : Edge) ∈ es ∧ Way es v vs
/-- b waits for a, by one edge or some. -/
def Rch (es : List Edge) (a b : Int) : Prop := ∃ vs, Way es a (vs ++ [b])
theorem Way.append {es : List Edge} : ∀ {vs ws : List Int} {a : Int}, Way es a (vs ++ ws) ↔ Way es a vs ∧ Way es ((a :: vs).getLast (by simp)) ws
  | [], ws, a => by simp [Way]
  | v :: vs, ws, a => by
    simp only [List.cons_append, Way]
    rw [Way.append (vs := vs)]
    simp [List.getLast_cons, and_assoc]
theorem last_snoc (a : Int) (vs : List Int) (b : Int) : (a :: (vs ++ [b])).getLast (List.cons_ne_nil _ _) = b := by
  rw [List.getLast_cons (by simp)]; simp
theorem Rch.one {es : List Edge} {a b : Int} (h : (⟨a, b⟩ : Edge) ∈ es) : Rch es a b := ⟨[], h, trivial⟩
theorem Rch.cons {es : List Edge} {a b c : Int} (h : (⟨a, b⟩ : Edge) ∈ es) (k : Rch es b c) : Rch es a c := by
  obtain ⟨vs, hv⟩ := k
  exact ⟨b :: vs, h, hv⟩
theorem Rch.cases {es : List Edge} {a c : Int} (h : Rch es a c) : (⟨a, c⟩ : Edge) ∈ es ∨ ∃ b, (⟨a, b⟩ : Edge) ∈ es ∧ Rch es b c := by
  obtain ⟨vs, hv⟩ := h
  cases vs with
  | nil => exact .inl hv.1
  | cons b vs => exact .inr ⟨b, hv.1, vs, hv.2⟩
theorem Rch.snoc {es : List Edge} {a b c : Int} (h : Rch es a b) (k : (⟨b, c⟩ : Edge) ∈ es) : Rch es a c := by
  obtain ⟨vs, hv⟩ := h
  refine ⟨vs ++ [b], ?_⟩
  rw [Way.append]
  refine ⟨hv, ?_⟩
  rw [last_snoc]
  exact ⟨k, trivial⟩

/-! ### A way that meets no task twice -/
theorem nodup_small : ∀ (n : Nat) (l : List Int), l.Nodup → (∀ x ∈ l, 0 ≤ x ∧ x < n) → l.length ≤ n
  | 0, l, _, h => by
    cases l with
    | nil => simp
    | cons x l => have := h x (by simp); omega
  | n + 1, l, hn, h => by
    have h1 := nodup_small n (l.erase (n : Int)) (hn.erase _) (fun x hx => by
      have hm := List.mem_of_mem_erase hx
      have hne : x ≠ (n : Int) := fun e => by
        subst e
        exact absurd hx hn.not_mem_erase
      have := h x hm
      omega)
    have h2 : l.length ≤ (l.erase (n : Int)).length + 1 := by
      rw [List.length_erase]
      split <;> omega
    omega
theorem not_nodup : ∀ {l : List Int}, ¬ l.Nodup → ∃ x l1 l2 l3, l = l1 ++ x :: l2 ++ x :: l3
  | [], h => by simp at h
  | y :: l, h => by
    by_cases hm : y ∈ l
    · obtain ⟨l2, l3, rfl⟩ := List.append_of_mem hm
      exact ⟨y, [], l2, l3, rfl⟩
    · have : ¬ l.Nodup := fun hn => h (List.nodup_cons.2 ⟨hm, hn⟩)
      obtain ⟨x, l1, l2, l3, rfl⟩ := not_nodup this
      exact ⟨x, y :: l1, l2, l3, rfl⟩
theorem Way.mem {es : List Edge} : ∀ {vs : List Int} {a x : Int}, Way es a vs → x ∈ vs → ∃ e ∈ es, e.to_ = x
  | v :: vs, a, x, h, hx => by
    rcases List.mem_cons.1 hx with rfl | hx
    · exact ⟨_, h.1, rfl⟩
    · exact Way.mem h.2 hx
/-- Where there is a way there is one of at most n steps, n the number of tasks. -/
theorem Rch.short {es : List Edge} {n : Nat} (hr : ∀ e ∈ es, 0 ≤ e.to_ ∧ e.to_ < n) {a b : Int} (h : Rch es a b) : ∃ vs, Way es a (vs ++ [b]) ∧ (vs ++ [b]).length ≤ n := by
  obtain ⟨vs, hv⟩ := h
  induction hk : vs.length using Nat.strongRecOn generalizing vs with
  | _ k ih =>
    subst hk
    by_cases hn : (vs ++ [b]).Nodup
    · exact ⟨vs, hv, nodup_small n _ hn (fun x hx => by obtain ⟨e, he, rfl⟩ := Way.mem hv hx; exact hr e he)⟩
    · obtain ⟨x, l1, l2, l3, hl⟩ := not_nodup hn
      have hv2 := hv
      rw [hl, Way.append] at hv2
      have hw := hv2.1
      rw [show l1 ++ x :: l2 = l1 ++ [x] ++ l2 by simp, Way.append] at hw
      have hnew : Way es a (l1 ++ [x] ++ l3) := by
        rw [Way.append]
        refine ⟨hw.1, ?_⟩
        have h3 := hv2.2
        rw [last_snoc]
        have e1 : (a :: (l1 ++ x :: l2)).getLast (List.cons_ne_nil _ _) = (a :: (l1 ++ x :: l2)).getLast (List.cons_ne_nil _ _) := rfl
        exact h3.2
      -- the same end
      have hlast : ∃ ws, l1 ++ [x] ++ l3 = ws ++ [b] ∧ ws.length < vs.length := by
        have hlen := congrArg List.length hl
        simp only [List.length_append, List.length_cons, List.length_nil] at hlen
        by_cases h3 : l3 = []
        · subst h3
          have e2 : x = b := by
            have := (List.append_inj' hl rfl).2
            simpa using this.symm
          subst e2
          exact ⟨l1, by simp, by omega⟩
        · obtain ⟨m, y, rfl⟩ : ∃ m y, l3 = m ++ [y] := ⟨l3.dropLast, l3.getLast h3, (List.dropLast_concat_getLast h3).symm⟩
          have e2 : y = b := by
            have hl2 : vs ++ [b] = (l1 ++ x :: l2 ++ x :: m) ++ [y] := by rw [hl]; simp
            have := (List.append_inj' hl2 rfl).2
            simpa using this.symm
          subst e2
          refine ⟨l1 ++ [x] ++ m, by simp, ?_⟩
          simp at hlen ⊢
          omega
      obtain ⟨ws, he, hlt⟩ := hlast
      rw [he] at hnew
      exact ih ws.length hlt ws hnew rfl

/-! ### Sets of tasks as numbers, relaxed edge by edge -/
def bitAt (m : List Nat) (a : Int) (b : Int) : Bool := (m.getD a.toNat 0).testBit b.toNat
/-- out[e.From] |= 1 << e.To | out[e.To] -/
def relax1 (m : List Nat) (e : Edge) : List Nat := m.set e.from_.toNat (m.getD e.from_.toNat 0 ||| (1 <<< e.to_.toNat ||| m.getD e.to_.toNat 0))
def relax (es : List Edge) (m : List Nat) : List Nat := es.foldl relax1 m
def relaxN (es : List Edge) (m : List Nat) : Nat → List Nat
  | 0 => m
  | k + 1 => relax es (relaxN es m k)
def EdgesIn (n : Nat) (es : List Edge) : Prop := ∀ e ∈ es, (0 ≤ e.from_ ∧ e.from_ < n) ∧ (0 ≤ e.to_ ∧ e.to_ < n)
theorem relax1_len (m : List Nat) (e : Edge) : (relax1 m e).length = m.length := by simp [relax1]
theorem relax_len : ∀ (es : List Edge) (m : List Nat), (relax es m).length = m.length
  | [], m => rfl
  | e :: es, m => by show (relax es (relax1 m e)).length = _; rw [relax_len es, relax1_len]
theorem relaxN_len (es : List Edge) (m : List Nat) : ∀ k, (relaxN es m k).length = m.length
  | 0 => rfl
  | k + 1 => by rw [relaxN, relax_len, relaxN_len es m k]
theorem bit_relax1 {m : List Nat} {e : Edge} {a b : Int} (ha : 0 ≤ a ∧ a < m.length) (hb : 0 ≤ b) (he : 0 ≤ e.from_ ∧ 0 ≤ e.to_) : bitAt (relax1 m e) a b = (bitAt m a b || (decide (a = e.from_) && (decide (b = e.to_) || bitAt m e.to_ b))) := by
  unfold bitAt relax1
  by_cases h : a = e.from_
  · subst h
    have hl : e.from_.toNat < m.length := by omega
    rw [List.getD_eq_getElem?_getD, List.getElem?_set_self hl]
    simp only [Option.getD_some, decide_true, Bool.true_and, Nat.testBit_or]
    congr 1
    congr 1
    rw [Nat.one_shiftLeft, Nat.testBit_two_pow]
    by_cases h2 : b = e.to_
    · subst h2; simp
    · have : ¬ e.to_.toNat = b.toNat := by omega
      simp [h2, this]
  · have hne : ¬ e.from_.toNat = a.toNat := by omega
    rw [List.getD_eq_getElem?_getD, List.getElem?_set_ne hne]
    simp [h, List.getD_eq_getElem?_getD]
/-- What is marked stays marked; an edge marks what it leads to, and what is marked there. -/
theorem relax_mono {n : Nat} : ∀ {es : List Edge} {m : List Nat} {a b : Int}, EdgesIn n es → m.length = n → (0 ≤ a ∧ a < n) → 0 ≤ b → bitAt m a b = true → bitAt (relax es m) a b = true
  | [], m, a, b, _, _, _, _, h => h
  | e :: es, m, a, b, hi, hl, ha, hb, h => by
    refine relax_mono (es := es) (m := relax1 m e) (fun x hx => hi x (by simp [hx])) (by rw [relax1_len, hl]) ha hb ?_
    have := hi e (by simp)
    rw [bit_relax1 (by omega) hb (by omega), h]; rfl
theorem relax_edge {n : Nat} : ∀ {es : List Edge} {m : List Nat} {e : Edge} {b : Int}, EdgesIn n es → m.length = n → e ∈ es → 0 ≤ b → (b = e.to_ ∨ bitAt m e.to_ b = true) → bitAt (relax es m) e.from_ b = true
  | e0 :: es, m, e, b, hi, hl, he, hb, h => by
    have h0 := hi e0 (by simp)
    have hlen : (relax1 m e0).length = n := by rw [relax1_len, hl]
    have hi' : EdgesIn n es := fun x hx => hi x (by simp [hx])
    rcases List.mem_cons.1 he with rfl | he
    · refine relax_mono (es := es) hi' hlen h0.1 hb ?_
      rw [bit_relax1 (by omega) hb (by omega)]
      rcases h with h | h
      · simp [h]
      · simp [h]
    · refine relax_edge (es := es) (m := relax1 m e0) hi' hlen he hb ?_
      rcases h with h | h
      · exact .inl h
      · refine .inr ?_
        have h1 := hi e (by simp [he])
        rw [bit_relax1 (by omega) hb (by omega), h]; rfl
theorem relax_sound {n : Nat} {all : List Edge} : ∀ {es : List Edge} {m : List Nat}, EdgesIn n es → m.length = n → (∀ e ∈ es, e ∈ all) → (∀ a b : Int, 0 ≤ a → a < n → 0 ≤ b → bitAt m a b = true → Rch all a b) → ∀ a b : Int, 0 ≤ a → a < n → 0 ≤ b → bitAt (relax es m) a b = true → Rch all a b
  | [], m, _, _, _, h => h
  | e :: es, m, hi, hl, hs, h => by
    refine relax_sound (es := es) (m := relax1 m e) (fun x hx => hi x (by simp [hx])) (by rw [relax1_len, hl]) (fun x hx => hs x (by simp [hx])) ?_
    intro a b ha ha2 hb hbit
    have h0 := hi e (by simp)
    rw [bit_relax1 (by omega) hb (by omega)] at hbit
    simp only [Bool.or_eq_true, Bool.and_eq_true, decide_eq_true_eq] at hbit
    rcases hbit with hbit | ⟨rfl, hbit⟩
    · exact h a b ha ha2 hb hbit
    · have hem : (⟨e.from_, e.to_⟩ : Edge) ∈ all := hs e (by simp)
      rcases hbit with rfl | hbit
      · exact .one hem
      · exact .cons hem (h e.to_ b h0.2.1 h0.2.2 hb hbit)
theorem relaxN_way {n : Nat} {es : List Edge} {m : List Nat} (hi : EdgesIn n es) (hl : m.length = n) : ∀ (k : Nat) {a b : Int} {vs : List Int}, Way es a (vs ++ [b]) → (vs ++ [b]).length ≤ k → bitAt (relaxN es m k) a b = true
  | 0, a, b, vs, _, h => by simp at h
  | k + 1, a, b, [], hw, h => by
    rw [relaxN]
    have hb := hi _ hw.1
    exact relax_edge (e := ⟨a, b⟩) hi (by rw [relaxN_len, hl]) hw.1 hb.2.1 (.inl rfl)
  | k + 1, a, b, v :: vs, hw, h => by
    rw [relaxN]
    have h1 := relaxN_way hi hl k (vs := vs) hw.2 (by simpa using h)
    have hb : 0 ≤ b := by
      have : b ∈ vs ++ [b] := by simp
      obtain ⟨e, he, rfl⟩ := Way.mem hw.2 this
      exact (hi e he).2.1
    exact relax_edge (e := ⟨a, v⟩) hi (by rw [relaxN_len, hl]) hw.1 hb (.inr h1)
/-- The sets behind n rounds tell what waits for what. -/
theorem waits_iff {n : Nat} {es : List Edge} (hi : EdgesIn n es) {a b : Int} (ha : 0 ≤ a ∧ a < n) (hb : 0 ≤ b) : bitAt (relaxN es (List.replicate n 0) n) a b = true ↔ Rch es a b := by
  constructor
  · have key : ∀ k, ∀ a b : Int, 0 ≤ a → a < n → 0 ≤ b → bitAt (relaxN es (List.replicate n 0) k) a b = true → Rch es a b := by
      intro k
      induction k with
      | zero =>
        intro a b _ _ _ h
        simp only [relaxN, bitAt, List.getD_eq_getElem?_getD, List.getElem?_replicate] at h
        split at h <;> simp at h
      | succ k ih => exact relax_sound hi (by rw [relaxN_len]; simp) (fun e he => he) ih
    exact key n a b ha.1 ha.2 hb
  · intro h
    obtain ⟨vs, hv, hlen⟩ := h.short (n := n) (fun e he => (hi e he).2)
    exact relaxN_way hi (by simp) n hv hlen
end Go.Proofs.YtchnllpegfbleaaGreat
