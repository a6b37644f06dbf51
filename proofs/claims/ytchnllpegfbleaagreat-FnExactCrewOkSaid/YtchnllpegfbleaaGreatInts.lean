/-
  Slices of ints: what is their own is marked and held, two are compared, one is copied; small numbers within bounds.
-/
import Derived.Test.YtchnllpegfbleaaGreatKBase
namespace Go.Proofs.YtchnllpegfbleaaGreat
set_option linter.unusedSimpArgs false
set_option linter.unusedVariables false
set_option maxRecDepth 100000
open Go.RowKit

theorem inB_t {n a b : Int} (h : a ≤ n ∧ n ≤ b) : inB n a b = true := by simp [inB, h]
theorem inB_f {n a b : Int} (h : ¬ (a ≤ n ∧ n ≤ b)) : inB n a b = false := by simp [inB]; omega
theorem inB_iff {n a b : Int} : inB n a b = true ↔ (a ≤ n ∧ n ≤ b) := by simp [inB]
theorem within_any (n a b : Int) (w : World) : Calls Tryz.prog 47 #[.int .i64 n, .int .i64 a, .int .i64 b] w fun e w' => e = .returned (.bool (inB n a b)) ∧ w = w' := by
  by_cases h : a ≤ n
  · by_cases h2 : n ≤ b
    · go_enter Tryz.func47, Tryz.ntmps47
      go_wp2
      go_ret
      exact ⟨by rw [inB_t ⟨h, h2⟩]; simp <;> omega, rfl⟩
    · go_enter Tryz.func47, Tryz.ntmps47
      go_wp2
      go_ret
      exact ⟨by rw [inB_f (by omega)]; simp <;> omega, rfl⟩
  · go_enter Tryz.func47, Tryz.ntmps47
    go_wp2
    go_ret
    exact ⟨by rw [inB_f (by omega)]; simp <;> omega, rfl⟩
theorem l01In_any (n a b : Int) (w : World) : Calls Tryz.prog 43 #[.int .i64 n, .int .i64 a, .int .i64 b] w fun e w' => e = .returned (.bool (inB n a b)) ∧ w = w' := by
  by_cases h : a ≤ n
  · by_cases h2 : n ≤ b
    · go_enter Tryz.func43, Tryz.ntmps43
      go_wp2
      go_ret
      exact ⟨by rw [inB_t ⟨h, h2⟩]; simp <;> omega, rfl⟩
    · go_enter Tryz.func43, Tryz.ntmps43
      go_wp2
      go_ret
      exact ⟨by rw [inB_f (by omega)]; simp <;> omega, rfl⟩
  · go_enter Tryz.func43, Tryz.ntmps43
    go_wp2
    go_ret
    exact ⟨by rw [inB_f (by omega)]; simp <;> omega, rfl⟩
theorem info_int : (Tryz.prog.info? 3).map (fun i => (i.zero, i.size, i.bytes)) = some (some (.int .i64 0), 1, 8) := by kernel_rfl

/-- The empty slice of a literal without elements. -/
theorem own_empty (w : World) (e : TypeId) (size : Nat) : (w.alloc (.cells #[] e)).ownsRow w.heap.size e size (.slice (some ⟨w.heap.size, 0, none⟩) 0 0) 0 [] :=
  ⟨by simp, .inr ⟨w.heap.size, 0, #[], rfl, Nat.le_refl _, heap_alloc_at _ _ _ rfl, Nat.le_refl _, Nat.zero_le _, by simp, by simp⟩⟩
/-- A row of ints that a call has built, as a slice. -/
theorem ints_at {w : World} {b : Nat} : ∀ (xs : List Int) (o : Nat), w.rangeAt b o (xs.map I) → (∀ x ∈ xs, I64 x) → SlAt w b o xs []
  | [], _, _, _ => rfl
  | x :: xs, o, h, hx => by
    refine ⟨[I x], [], [], ?_, ⟨rfl, rfl, hx x (by simp)⟩, ints_at xs (o + 1) ?_ (fun y hy => hx y (by simp [hy])), rfl⟩
    · intro j v hj
      cases j with
      | zero => exact h 0 v hj
      | succ j => simp at hj
    · exact (rangeAt_cons.1 h).2
theorem Sl.of_owns {w : World} {base : Nat} {v : Value} {xs : List Int} {e : TypeId} (h : w.ownsRow base e 1 v xs.length (xs.map I)) (hx : ∀ x ∈ xs, I64 x) : ∃ fp, Sl w v xs fp ∧ (∀ b ∈ fp, base ≤ b) ∧ (∀ b ∈ fp, v.ownBlock = some b) := by
  obtain ⟨hl, ⟨rfl, h0⟩ | ⟨g, cap, cur, rfl, hg, hh, hn, hm, hs, ht⟩⟩ := h
  · have : xs = [] := List.eq_nil_of_length_eq_zero h0
    subst this
    exact ⟨[], ⟨none, 0, rfl, Nat.le_refl _, by omega, .inl ⟨rfl, rfl⟩⟩, by simp, by simp⟩
  · by_cases hne : xs = []
    · subst hne
      exact ⟨[], ⟨_, cap, rfl, hn, by unfold maxLen at hm; omega, .inl ⟨rfl, rfl⟩⟩, by simp, by simp⟩
    · refine ⟨[g], ⟨_, cap, rfl, hn, by unfold maxLen at hm; omega, .inr ⟨g, 0, [], hne, rfl, rfl, (Array.getElem?_eq_some_iff.1 hh).1, ints_at xs 0 ?_ hx⟩⟩, by simp [hg], by simp [Value.ownBlock]⟩
      intro j u hj
      have hjl : j < xs.length := by simpa using (List.getElem?_eq_some_iff.1 hj).1
      have e1 : (xs.map I)[j]? = cur[j]? := by
        rw [← ht, List.getElem?_take, if_pos (by omega), Array.getElem?_toList]
      rw [← hj, e1, Nat.zero_add]
      simp [World.cell?, hh]
set_option maxHeartbeats 1000000 in
theorem eqIntS_any (va vb : Value) (xs ys : List Int) (fa fb : List Nat) (w : World) (ha : Sl w va xs fa) (hb : Sl w vb ys fb) :
    Calls Tryz.prog 26 #[va, vb] w fun e w' => e = .returned (.bool (eqB xs ys)) ∧ Below w.heap.size w w' := by
  obtain ⟨ao, ca, rfl, ha1, ha2, ha3⟩ := ha.openk 1 rfl
  obtain ⟨bo, cb, rfl, hb1, hb2, hb3⟩ := hb.openk 1 rfl
  have HA3 := Lib.hid ha3
  have HB3 := Lib.hid hb3
  clear ha hb ha3 hb3
  by_cases hl : xs.length = ys.length
  · have hl' : ((xs.length : Int) != (ys.length : Int)) = false := by simp [hl]
    have HL := Lib.hid hl
    clear hl
    go_enter Tryz.func26, Tryz.ntmps26
    go_wp2_with fail
    go_loopw [5] (fun i wr => ∃ n : Nat, n ≤ xs.length ∧ i = .int .i64 n ∧ Below w.heap.size w wr ∧ xs.take n = ys.take n) (fun i _ => xs.length - (intOf i).toNat)
    case atStart => exact ⟨0, Nat.zero_le _, rfl, Below.refl _ _, rfl⟩
    case round =>
      obtain ⟨n, hn, rfl, hbw, ht⟩ := hrel
      have HT := Lib.hid ht
      clear ht
      by_cases hlt : n < xs.length
      · obtain ⟨b1, o1, rfl, _, _, he1⟩ := HA3.out (by omega)
        obtain ⟨b2, o2, rfl, _, _, he2⟩ := HB3.out (by have := HL.out; omega)
        obtain ⟨_, f1, hr1, ⟨rfl, _, _⟩, _⟩ := he1 n hlt
        obtain ⟨_, f2, hr2, ⟨rfl, _, _⟩, _⟩ := he2 n (by have := HL.out; omega)
        have c0 := (rangeAt_below hr1 hbw) 0 _ rfl
        have d0 := (rangeAt_below hr2 hbw) 0 _ rfl
        simp only [Nat.add_zero, Nat.mul_one] at c0 d0
        clear hr1 hr2 he1 he2
        have hlt2 : (n : Int) < ys.length := by have := HL.out; omega
        have hlt3 : (n : Int) < xs.length := by omega
        go_wp2_with fail
        go_quiet (fail)
        go_wp2_with fail
        · rename_i hq
          go_ret
          have he : ¬ xs[n] = ys[n]'(by omega) := by simpa using hq
          have : xs ≠ ys := fun h => he (by subst h; rfl)
          exact ⟨by simp [eqB, this], below_drewN hbw _⟩
        · rename_i hq
          have he : xs[n] = ys[n]'(by omega) := by simpa using hq
          have HE := Lib.hid he
          clear he
          go_roundw
          case rel => exact ⟨n + 1, by omega, by go_num, below_drewN hbw _, take_eq_succ hlt (by have := HL.out; omega) HT.out HE.out⟩
          case measure => simp [intOf]; omega
      · go_wp2_with fail
        go_ret
        refine ⟨?_, hbw⟩
        have h1 := HT.out
        have h2 := HL.out
        rw [List.take_of_length_le (by omega), List.take_of_length_le (by omega)] at h1
        simp [eqB, h1]
  · have hl' : ((xs.length : Int) != (ys.length : Int)) = true := by simp; omega
    have HL := Lib.hid hl
    clear hl
    go_enter Tryz.func26, Tryz.ntmps26
    go_wp2_with fail
    go_ret
    refine ⟨?_, Below.refl _ _⟩
    have : xs ≠ ys := fun h => HL.out (by subst h; rfl)
    simp [eqB, this]
end Go.Proofs.YtchnllpegfbleaaGreat
