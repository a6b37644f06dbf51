/-
  RoundRobin, of the program and of the reference; the law on it.
-/
import Derived.Test.YtgkloiodfhmckaaMarks
namespace Go.Proofs.Ytgkloiodfhmckaa
set_option linter.unusedSimpArgs false
set_option linter.unusedVariables false
open Go.RowKit

def robin (m : Int) (n : Nat) : List Int := (List.range n).map (fun i : Nat => (i : Int) % m)
theorem robin_len (m : Int) (n : Nat) : (robin m n).length = n := by simp [robin]
theorem robin_succ (m : Int) (n : Nat) : robin m (n + 1) = robin m n ++ [(n : Int) % m] := by simp [robin, List.range_succ]
/-- How many it has. -/
def robinN (m t : Int) : Nat := if inB m 1 8 && inB t 0 600 then t.toNat else 0
theorem robin_64 (m : Int) (n : Nat) (hm : 1 ≤ m ∧ m ≤ 8) : ∀ x ∈ robin m n, I64 x := by
  intro x hx
  simp only [robin, List.mem_map] at hx
  obtain ⟨i, _, rfl⟩ := hx
  have h1 := Int.emod_nonneg (i : Int) (b := m) (by omega)
  have h2 := Int.emod_lt_of_pos (i : Int) (b := m) (by omega)
  constructor <;> omega

set_option maxHeartbeats 1000000 in
theorem robinI_any (m t : Int) (w : World) : Calls Try.prog 10 #[.int .i64 m, .int .i64 t] w fun e w' => ∃ v, e = .returned v ∧ w'.ownsRow w.heap.size 3 1 v (robin m (robinN m t)).length ((robin m (robinN m t)).map I) ∧ Below w.heap.size w w' := by
  obtain ⟨i0, hi, hz0, hz1, hz2⟩ := info_parts info_int
  by_cases h1 : 1 ≤ m ∧ m ≤ 8
  · have k1 := inB_t h1
    by_cases h2 : 0 ≤ t ∧ t ≤ 600
    · have k2 := inB_t h2
      obtain ⟨T, rfl⟩ := Int.eq_ofNat_of_zero_le h2.1
      have hN : robinN m T = T := by simp [robinN, k1, k2]
      rw [hN, robin_len]
      clear hN
      obtain ⟨h1a, h1b⟩ := h1
      obtain ⟨h2a, h2b⟩ := h2
      go_enter Try.func10, Try.ntmps10
      go_wp2_with (go_at_call 38; refine (within_any _ _ _ _).mono ?_; rintro e w' ⟨rfl, rfl⟩)
      go_loopw [5, 6] (fun v i wr => ∃ n : Nat, n ≤ T ∧ i = .int .i64 n ∧ wr.ownsRow w.heap.size 3 1 v n ((robin m n).map I) ∧ Below w.heap.size w wr) (fun _ i _ => T - (intOf i).toNat)
      case atStart => exact ⟨0, Nat.zero_le _, rfl, by simpa [robin] using World.ownsRow_nil _ _ _ _, Below.refl _ _⟩
      case round =>
        obtain ⟨n, hn, rfl, hown, hbw⟩ := hrel
        by_cases hlt : n < T
        · have hnx := robin_succ m n
          have HNX := Lib.hid hnx
          clear hnx
          go_wp2_with (first
            | (at_builtin; refine wpList_append_own _ rfl _ _ 22 rfl w.heap.size 3 i0 (.int .i64 0) 1 8 Try.underlying22 hi hz0 hz1 hz2 rfl (by decide) _ _ _ rfl (hown.alloc _) ⟨wr.heap.size, 0, none⟩ 1 1 [.int .i64 ((n : Int) % m)] rfl rfl ?_ ?_ ?_ ?_ ?_ ?_; rotate_right; intro v' w1 hown' hgrow _))
          · go_roundw
            case rel => exact ⟨n + 1, by omega, by go_num, by rw [HNX.out, List.map_append]; exact hown', (hbw.alloc hbw.size _).grown hgrow (by have := hbw.size; simp; omega) (fun k hk => (hown.lt k hk).1)⟩
            case measure => simp [intOf]; omega
          · intro j u hj
            match j, hj with
            | 0, hj => simp at hj; subst hj; simp [Addr.add]
          · intro u hu; simp at hu; subst hu; rfl
          · unfold maxLen; omega
          · omega
          · have := hbw.size; simp; omega
        · go_wp2_with fail
          go_ret
          obtain rfl : n = T := by omega
          exact ⟨_, rfl, hown, hbw⟩
    · have k2 := inB_f h2
      have hN : robinN m t = 0 := by simp [robinN, k2]
      rw [hN]
      clear hN
      go_enter Try.func10, Try.ntmps10
      go_wp2_with (go_at_call 38; refine (within_any _ _ _ _).mono ?_; rintro e w' ⟨rfl, rfl⟩)
      go_ret
      exact ⟨_, rfl, World.ownsRow_nil _ _ _ _, Below.refl _ _⟩
  · have k1 := inB_f h1
    have hN : robinN m t = 0 := by simp [robinN, k1]
    rw [hN]
    clear hN
    go_enter Try.func10, Try.ntmps10
    go_wp2_with (go_at_call 38; refine (within_any _ _ _ _).mono ?_; rintro e w' ⟨rfl, rfl⟩)
    go_ret
    exact ⟨_, rfl, World.ownsRow_nil _ _ _ _, Below.refl _ _⟩
set_option maxHeartbeats 1000000 in
theorem robinS_any (m t : Int) (w : World) : Calls Try.prog 9 #[.int .i64 m, .int .i64 t] w fun e w' => ∃ v, e = .returned v ∧ w'.ownsRow w.heap.size 3 1 v (robin m (robinN m t)).length ((robin m (robinN m t)).map I) ∧ Below w.heap.size w w' := by
  obtain ⟨i0, hi, hz0, hz1, hz2⟩ := info_parts info_int
  by_cases h1 : 1 ≤ m ∧ m ≤ 8
  · have k1 := inB_t h1
    by_cases h2 : 0 ≤ t ∧ t ≤ 600
    · have k2 := inB_t h2
      obtain ⟨T, rfl⟩ := Int.eq_ofNat_of_zero_le h2.1
      have hN : robinN m T = T := by simp [robinN, k1, k2]
      rw [hN, robin_len]
      clear hN
      obtain ⟨h1a, h1b⟩ := h1
      obtain ⟨h2a, h2b⟩ := h2
      go_enter Try.func9, Try.ntmps9
      go_wp2_with (go_at_call 37; refine (l01In_any _ _ _ _).mono ?_; rintro e w' ⟨rfl, rfl⟩)
      go_loopw [5, 6] (fun v i wr => ∃ n : Nat, n ≤ T ∧ i = .int .i64 n ∧ wr.ownsRow w.heap.size 3 1 v n ((robin m n).map I) ∧ Below w.heap.size w wr) (fun _ i _ => T - (intOf i).toNat)
      case atStart => exact ⟨0, Nat.zero_le _, rfl, by simpa [robin] using own_empty w _ _, below_alloc (Below.refl _ _)⟩
      case round =>
        obtain ⟨n, hn, rfl, hown, hbw⟩ := hrel
        by_cases hlt : n < T
        · have hnx := robin_succ m n
          have HNX := Lib.hid hnx
          clear hnx
          go_wp2_with (first
            | (at_builtin; refine wpList_append_own _ rfl _ _ 22 rfl w.heap.size 3 i0 (.int .i64 0) 1 8 Try.underlying22 hi hz0 hz1 hz2 rfl (by decide) _ _ _ rfl (hown.alloc _) ⟨wr.heap.size, 0, none⟩ 1 1 [.int .i64 ((n : Int) % m)] rfl rfl ?_ ?_ ?_ ?_ ?_ ?_; rotate_right; intro v' w1 hown' hgrow _))
          · go_roundw
            case rel => exact ⟨n + 1, by omega, by go_num, by rw [HNX.out, List.map_append]; exact hown', (hbw.alloc hbw.size _).grown hgrow (by have := hbw.size; simp; omega) (fun k hk => (hown.lt k hk).1)⟩
            case measure => simp [intOf]; omega
          · intro j u hj
            match j, hj with
            | 0, hj => simp at hj; subst hj; simp [Addr.add]
          · intro u hu; simp at hu; subst hu; rfl
          · unfold maxLen; omega
          · omega
          · have := hbw.size; simp; omega
        · go_wp2_with fail
          go_ret
          obtain rfl : n = T := by omega
          exact ⟨_, rfl, hown, hbw⟩
    · have k2 := inB_f h2
      have hN : robinN m t = 0 := by simp [robinN, k2]
      rw [hN]
      clear hN
      go_enter Try.func9, Try.ntmps9
      go_wp2_with (go_at_call 37; refine (l01In_any _ _ _ _).mono ?_; rintro e w' ⟨rfl, rfl⟩)
      go_ret
      exact ⟨_, rfl, own_empty w _ _, below_alloc (Below.refl _ _)⟩
  · have k1 := inB_f h1
    have hN : robinN m t = 0 := by simp [robinN, k1]
    rw [hN]
    clear hN
    go_enter Try.func9, Try.ntmps9
    go_wp2_with (go_at_call 37; refine (l01In_any _ _ _ _).mono ?_; rintro e w' ⟨rfl, rfl⟩)
    go_ret
    exact ⟨_, rfl, own_empty w _ _, below_alloc (Below.refl _ _)⟩
end Go.Proofs.Ytgkloiodfhmckaa
