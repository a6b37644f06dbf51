/-
  The reference's search: what it has met, while it goes on, and in the end. Theory alone.
-/
import Derived.Test.YtchnllpegfbleaaGreatReach
namespace Go.Proofs.YtchnllpegfbleaaGreat
set_option linter.unusedSimpArgs false
set_option linter.unusedVariables false
open Go.RowKit

/-- The tasks met (q, the first is the one it began at), the marks, how many are done with, how many edges are looked at for the next. -/
structure BInv (es : List Edge) (n : Nat) (t : Int) (q : List Int) (out : List Bool) (h i : Nat) : Prop where
  head : q[0]? = some t
  len : out.length = n
  mark : ∀ x : Int, 0 ≤ x → x < n → (out.getD x.toNat false = true ↔ x ∈ q.tail)
  nodup : q.tail.Nodup
  sound : ∀ x ∈ q.tail, Rch es t x
  range : ∀ x ∈ q.tail, 0 ≤ x ∧ x < n
  done : ∀ (k : Nat) (x : Int), k < h → q[k]? = some x → ∀ e ∈ es, e.from_ = x → e.to_ ∈ q.tail
  part : ∀ x : Int, q[h]? = some x → ∀ e ∈ es.take i, e.from_ = x → e.to_ ∈ q.tail
section
variable {es : List Edge} {n : Nat} {t : Int} {q : List Int} {out : List Bool} {h i : Nat}
theorem BInv.start : BInv es n t [t] (List.replicate n false) 0 0 :=
  ⟨rfl, by simp, fun x _ _ => by
    simp only [List.getD_eq_getElem?_getD, List.getElem?_replicate, List.tail_cons, List.not_mem_nil, iff_false]
    split <;> simp, by simp, by simp, by simp, fun k x hk => absurd hk (Nat.not_lt_zero k), by simp⟩
theorem BInv.len_le (b : BInv es n t q out h i) : q.length ≤ n + 1 := by
  have := nodup_small n q.tail b.nodup b.range
  rw [List.length_tail] at this
  omega
theorem mem_of_tail {q : List Int} {x : Int} (h : x ∈ q.tail) : x ∈ q := List.mem_of_mem_tail h
/-- Of what is met: it waits for the first, or is the first. -/
theorem BInv.at (b : BInv es n t q out h i) {k : Nat} {x : Int} (hk : q[k]? = some x) : x = t ∨ x ∈ q.tail := by
  cases k with
  | zero => rw [b.head] at hk; exact .inl (Option.some.inj hk).symm
  | succ k => exact .inr (List.mem_of_getElem? (by rw [List.getElem?_tail]; exact hk))
theorem BInv.skip (b : BInv es n t q out h i) (hin : EdgesIn n es) {e : Edge} (hi : es[i]? = some e) {x : Int} (hx : q[h]? = some x) (hne : ¬ (e.from_ = x ∧ out.getD e.to_.toNat false = false)) : BInv es n t q out h (i + 1) := by
  refine ⟨b.head, b.len, b.mark, b.nodup, b.sound, b.range, b.done, ?_⟩
  intro y hy e' he' hf
  rw [hx] at hy
  obtain rfl := Option.some.inj hy
  obtain ⟨hil, rfl⟩ := List.getElem?_eq_some_iff.1 hi
  rw [List.take_succ_eq_append_getElem hil] at he'
  rcases List.mem_append.1 he' with h1 | h1
  · exact b.part x hx e' h1 hf
  · simp at h1
    subst h1
    have hr := hin es[i] (List.getElem_mem hil)
    refine (b.mark es[i].to_ hr.2.1 hr.2.2).1 ?_
    cases ho : out.getD es[i].to_.toNat false with
    | true => rfl
    | false => exact absurd ⟨hf, ho⟩ hne
theorem BInv.add (b : BInv es n t q out h i) (hin : EdgesIn n es) {e : Edge} (hi : es[i]? = some e) {x : Int} (hx : q[h]? = some x) (hf : e.from_ = x) (ho : out.getD e.to_.toNat false = false) : BInv es n t (q ++ [e.to_]) (out.set e.to_.toNat true) h (i + 1) := by
  obtain ⟨hil, rfl⟩ := List.getElem?_eq_some_iff.1 hi
  have hem : es[i] ∈ es := List.getElem_mem hil
  have hr := hin es[i] hem
  have hq0 : q ≠ [] := fun e => by have := b.head; rw [e] at this; simp at this
  have htail : (q ++ [es[i].to_]).tail = q.tail ++ [es[i].to_] := by
    cases q with
    | nil => exact absurd rfl hq0
    | cons a q => rfl
  have hnot : es[i].to_ ∉ q.tail := fun hm => by rw [(b.mark _ hr.2.1 hr.2.2).2 hm] at ho; cases ho
  have hsound : Rch es t es[i].to_ := by
    have hxe : (⟨x, es[i].to_⟩ : Edge) ∈ es := by rw [← hf]; exact hem
    rcases b.at hx with h1 | h1
    · rw [← h1]; exact .one hxe
    · exact (b.sound x h1).snoc hxe
  refine ⟨?_, by rw [List.length_set]; exact b.len, ?_, ?_, ?_, ?_, ?_, ?_⟩
  · rw [List.getElem?_append_left (List.length_pos_iff.2 hq0)]; exact b.head
  · intro y h0 h1
    rw [htail, List.mem_append, List.mem_singleton]
    by_cases hy : y = es[i].to_
    · subst hy
      rw [List.getD_eq_getElem?_getD, List.getElem?_set_self (by rw [b.len]; omega)]
      simp
    · have hne : ¬ es[i].to_.toNat = y.toNat := by omega
      rw [List.getD_eq_getElem?_getD, List.getElem?_set_ne hne, ← List.getD_eq_getElem?_getD, b.mark y h0 h1]
      simp [hy]
  · rw [htail, List.nodup_append]
    exact ⟨b.nodup, by simp, fun a ha c hc e => by simp at hc; subst hc e; exact hnot ha⟩
  · intro y hy
    rw [htail] at hy
    rcases List.mem_append.1 hy with hy | hy
    · exact b.sound y hy
    · simp at hy; subst hy; exact hsound
  · intro y hy
    rw [htail] at hy
    rcases List.mem_append.1 hy with hy | hy
    · exact b.range y hy
    · simp at hy; subst hy; exact hr.2
  · intro k y hk hy e' he' hf'
    have hkq : k < q.length := by
      have := (List.getElem?_eq_some_iff.1 hx).1; omega
    rw [List.getElem?_append_left hkq] at hy
    rw [htail]
    exact List.mem_append_left _ (b.done k y hk hy e' he' hf')
  · intro y hy e' he' hf'
    have hhq := (List.getElem?_eq_some_iff.1 hx).1
    rw [List.getElem?_append_left hhq, hx] at hy
    obtain rfl := Option.some.inj hy
    rw [htail]
    rw [List.take_succ_eq_append_getElem hil] at he'
    rcases List.mem_append.1 he' with h1 | h1
    · exact List.mem_append_left _ (b.part x hx e' h1 hf')
    · simp at h1; subst h1; simp
theorem BInv.next (b : BInv es n t q out h i) (hi : i = es.length) : BInv es n t q out (h + 1) 0 := by
  subst hi
  refine ⟨b.head, b.len, b.mark, b.nodup, b.sound, b.range, ?_, by simp⟩
  intro k x hk hx e he hf
  by_cases hkh : k = h
  · subst hkh
    exact b.part x hx e (by rw [List.take_length]; exact he) hf
  · exact b.done k x (by omega) hx e he hf
theorem BInv.fin (b : BInv es n t q out h i) (hh : h = q.length) {x : Int} (h0 : 0 ≤ x) (h1 : x < n) : out.getD x.toNat false = true ↔ Rch es t x := by
  rw [b.mark x h0 h1]
  constructor
  · exact b.sound x
  · rintro ⟨vs, hv⟩
    have key : ∀ (vs : List Int) (a : Int), Way es a (vs ++ [x]) → a ∈ q → x ∈ q.tail := by
      intro vs
      induction vs with
      | nil =>
        intro a hw ha
        obtain ⟨k, hk⟩ := List.mem_iff_getElem?.1 ha
        exact b.done k a (by have := (List.getElem?_eq_some_iff.1 hk).1; omega) hk ⟨a, x⟩ hw.1 rfl
      | cons v vs ih =>
        intro a hw ha
        obtain ⟨k, hk⟩ := List.mem_iff_getElem?.1 ha
        have := b.done k a (by have := (List.getElem?_eq_some_iff.1 hk).1; omega) hk ⟨a, v⟩ hw.1 rfl
        exact ih v hw.2 (mem_of_tail this)
    exact key vs t hv (List.mem_of_getElem? b.head)
end
/-- What waits for a task, as marks. -/
noncomputable def fromOf (es : List Edge) (n : Nat) (t : Int) : List Bool := (List.range n).map (fun x : Nat => pB (Rch es t (x : Int)))
theorem BInv.all {es : List Edge} {n : Nat} {t : Int} {q : List Int} {out : List Bool} {h i : Nat} (b : BInv es n t q out h i) (hh : h = q.length) : out = fromOf es n t := by
  apply List.ext_getElem?
  intro j
  unfold fromOf
  by_cases hj : j < n
  · have hl : j < out.length := by rw [b.len]; exact hj
    have hf := b.fin hh (x := (j : Int)) (by omega) (by omega)
    rw [Int.toNat_natCast, List.getD_eq_getElem?_getD, List.getElem?_eq_getElem hl] at hf
    simp only [Option.getD_some] at hf
    rw [List.getElem?_eq_getElem hl, List.getElem?_map, List.getElem?_range hj]
    simp only [Option.map_some]
    congr 1
    rw [Bool.eq_iff_iff, hf, pB_iff]
  · rw [List.getElem?_eq_none (by rw [b.len]; omega), List.getElem?_eq_none (by simp; omega)]
end Go.Proofs.YtchnllpegfbleaaGreat
