/-
  A slice of ints of the call's own is marked, and the marks are held.
-/
import Derived.Test.YtgkloiodfhmckaaInts
namespace Go.Proofs.Ytgkloiodfhmckaa
set_option linter.unusedSimpArgs false
set_option linter.unusedVariables false
open Go.RowKit

/-- The marks k, k + 1 ... -/
def marks (k : Int) (n : Nat) : List Int := (List.range n).map (fun i : Nat => k + (i : Int))
theorem marks_len (k : Int) (n : Nat) : (marks k n).length = n := by simp [marks]
theorem marks_get (k : Int) (n i : Nat) (h : i < n) : (marks k n)[i]? = some (k + i) := by simp [marks, h]

theorem grownBy_trans {a b c : World} {row : Option Nat} (h : a.grownBy b row) (k : b.grownBy c row) : a.grownBy c row :=
  ⟨k.os.trans h.os, k.tape.trans h.tape, k.output.trans h.output, Nat.le_trans h.size k.size, fun i hi hne => (k.block i (Nat.lt_of_lt_of_le hi h.size) hne).trans (h.block i hi hne)⟩
theorem ownsRow_below {w w' : World} {base : Nat} {e : TypeId} {size : Nat} {v : Value} {n : Nat} {xs : List Value} (h : w.ownsRow base e size v n xs) (hb : Below w.heap.size w w') : w'.ownsRow base e size v n xs := by
  obtain ⟨h1, h2⟩ := h
  refine ⟨h1, ?_⟩
  rcases h2 with h2 | ⟨g, cap, cur, hv, hg, hh, r⟩
  · exact .inl h2
  · exact .inr ⟨g, cap, cur, hv, hg, by rw [hb.block g (Array.getElem?_eq_some_iff.1 hh).1]; exact hh, r⟩
theorem Sl.grown {α : Type} [Shape α] {w w' : World} {v : Value} {xs : List α} {fp : List Nat} {row : Option Nat} (h : Sl w v xs fp) (hg : w.grownBy w' row) (hne : ∀ b ∈ fp, some b ≠ row) : Sl w' v xs fp :=
  Sl.loc (fun b hb o => World.cell?_of_block (w := w) (a := ⟨b, o, none⟩) (hg.block b (h.lt b hb) (hne b hb))) h hg.size
/-- What is written up to round n. -/
def marked (xs : List Int) (k : Int) (n : Nat) : List Int := marks k n ++ xs.drop n
theorem marked_len (xs : List Int) (k : Int) (n : Nat) (h : n ≤ xs.length) : (marked xs k n).length = xs.length := by simp [marked, marks_len]; omega
theorem marked_set (xs : List Int) (k : Int) (n : Nat) (h : n < xs.length) : (marked xs k n).set n (k + n) = marked xs k (n + 1) := by
  unfold marked
  rw [List.set_append_right _ _ (by rw [marks_len]; exact Nat.le_refl _), marks_len, Nat.sub_self, List.drop_eq_getElem_cons h, List.set_cons_zero]
  have : marks k (n + 1) = marks k n ++ [k + n] := by simp [marks, List.range_succ]
  rw [this, List.append_assoc]
  rfl

set_option maxHeartbeats 1000000 in
theorem markIntS_any (base : Nat) (e : TypeId) (v : Value) (xs : List Int) (k : Int) (w : World) (h : w.ownsRow base e 1 v xs.length (xs.map I)) (hk : 0 ≤ k) (hk2 : k + xs.length ≤ 9223372036854775807) :
    Calls Try.prog 12 #[v, .int .i64 k] w fun e' w' => e' = .returned (.int .i64 (k + xs.length)) ∧ w'.ownsRow base e 1 v xs.length ((marks k xs.length).map I) ∧ w.grownBy w' v.ownBlock := by
  have h0 := h
  obtain ⟨hl, ⟨rfl, hz⟩ | ⟨g, cap, cur, rfl, hg, hh, hn, hm, hs, ht⟩⟩ := h
  · have hx : xs = [] := List.eq_nil_of_length_eq_zero hz
    subst hx
    go_enter Try.func12, Try.ntmps12
    go_wp2_with fail
    refine wp_loop_rounds 1 ?_
    rw [rounds_succ]
    go_wp2_with fail
    go_ret
    exact ⟨by simp, by simpa [marks] using h0, World.grownBy.refl _ _⟩
  · clear hl hh hs ht
    unfold maxLen at hm
    go_enter Try.func12, Try.ntmps12
    go_wp2_with fail
    go_loopw [1, 5] (fun kv i wr => ∃ n : Nat, n ≤ xs.length ∧ i = .int .i64 n ∧ kv = .int .i64 (k + n) ∧ wr.ownsRow base e 1 (.slice (some ⟨g, 0, none⟩) xs.length cap) xs.length ((marked xs k n).map I) ∧ w.grownBy wr (some g)) (fun _ i _ => xs.length - (intOf i).toNat)
    case atStart => exact ⟨0, Nat.zero_le _, rfl, by simp, by simpa [marked, marks] using h0, World.grownBy.refl _ _⟩
    case round =>
      obtain ⟨n, hn', rfl, rfl, hown, hgr⟩ := hrel
      by_cases hlt : n < xs.length
      · have hc := hown.cellAt n (by omega)
        have hf := hown.frozenAt n
        obtain ⟨u, hu⟩ : ∃ u, ((marked xs k n).map I)[n]? = some u := ⟨_, List.getElem?_eq_getElem (by simp [marked_len xs k n (by omega)]; exact hlt)⟩
        rw [hu] at hc
        have hst := hown.stored n (I (k + n))
        have hset := marked_set xs k n hlt
        have HST := Lib.hid hst
        have HSET := Lib.hid hset
        clear hst hset hu h0
        go_wp2_with fail
        go_roundw
        case rel =>
          refine ⟨n + 1, by omega, by go_num, by go_num, ?_, ?_⟩
          · have := HST.out
            rw [← HSET.out]
            rw [List.map_set]
            exact this.1
          · exact grownBy_trans hgr HST.out.2
        case measure => simp [intOf]; omega
      · go_wp2_with fail
        go_ret
        obtain rfl : n = xs.length := by omega
        refine ⟨rfl, ?_, hgr⟩
        have : marked xs k xs.length = marks k xs.length := by simp [marked]
        rw [this] at hown
        exact hown
set_option maxHeartbeats 1000000 in
theorem heldIntS_any (v : Value) (n : Nat) (fp : List Nat) (k : Int) (w : World) (h : Sl w v (marks k n) fp) (hk : 0 ≤ k) (hk2 : k + n ≤ 9223372036854775807) :
    Calls Try.prog 13 #[v, .int .i64 k] w fun e' w' => e' = .returned (.int .i64 (k + n)) ∧ w = w' := by
  obtain ⟨ao, ca, rfl, ha1, ha2, ha3⟩ := h.openk 1 rfl
  have HA3 := Lib.hid ha3
  clear h ha3
  rw [marks_len] at ha1 ⊢
  go_enter Try.func13, Try.ntmps13
  go_wp2_with fail
  go_loop [1, 5] (fun kv i => ∃ j : Nat, j ≤ n ∧ i = .int .i64 j ∧ kv = .int .i64 (k + j)) (fun _ i => n - (intOf i).toNat)
  case atStart => exact ⟨0, Nat.zero_le _, rfl, by simp⟩
  case round =>
    obtain ⟨j, hj, rfl, rfl⟩ := hrel
    by_cases hlt : j < n
    · obtain ⟨b1, o1, rfl, _, _, he1⟩ := HA3.out (by rw [marks_len]; omega)
      obtain ⟨_, f1, hr1, ⟨rfl, _, _⟩, _⟩ := he1 j (by rw [marks_len]; omega)
      have c0 := hr1 0 _ rfl
      have hg : (marks k n)[j]'(by rw [marks_len]; omega) = k + j := by
        have := marks_get k n j hlt
        rw [List.getElem?_eq_getElem (by rw [marks_len]; omega)] at this
        exact Option.some.inj this
      rw [hg] at c0
      simp only [Nat.add_zero, Nat.mul_one] at c0
      clear hr1 he1 hg
      go_wp2_with fail
      go_round
      case rel => exact ⟨j + 1, by omega, by go_num, by go_num⟩
      case measure => simp [intOf]; omega
    · go_wp2_with fail
      go_ret
      obtain rfl : j = n := by omega
      exact ⟨rfl, rfl⟩
end Go.Proofs.Ytgkloiodfhmckaa
