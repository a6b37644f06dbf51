/-
  How many deeds were good, and how many not: the program's and the reference's TellsOf, walked.
-/
import Derived.Test.YtgkloiodfhmckaaKDeed
import Derived.Test.YtgkloiodfhmckaaKReply
namespace Go.Proofs.Ytgkloiodfhmckaa
set_option linter.unusedSimpArgs false
set_option linter.unusedVariables false
open Go.RowKit

def gd (rs : List Reply) (n : Nat) : Nat := (rs.take n).countP (fun r => decide (r.code = 0))
theorem gd_le (rs : List Reply) (n : Nat) (h : n ≤ rs.length) : gd rs n ≤ n := by
  unfold gd
  have := List.countP_le_length (p := fun r : Reply => decide (r.code = 0)) (l := rs.take n)
  rw [List.length_take] at this
  omega
theorem gd_t (rs : List Reply) (n : Nat) (h : n < rs.length) (hc : rs[n].code = 0) : gd rs (n + 1) = gd rs n + 1 := by
  unfold gd
  rw [List.take_succ_eq_append_getElem h, List.countP_append]
  simp [hc]
theorem gd_f (rs : List Reply) (n : Nat) (h : n < rs.length) (hc : ¬ rs[n].code = 0) : gd rs (n + 1) = gd rs n := by
  unfold gd
  rw [List.take_succ_eq_append_getElem h, List.countP_append]
  simp [hc]

set_option maxHeartbeats 400000 in
theorem tellsOfI_any (v u : Value) (ds : List Deed) (rs : List Reply) (f1 f2 : List Nat) (w : World) (h1 : Sl w v ds f1) (h2 : Sl w u rs f2) :
    Calls Try.prog 34 #[v, u] w fun e w' => e = .returned (.tuple #[I (gd rs (min ds.length rs.length)), I ((min ds.length rs.length : Nat) - gd rs (min ds.length rs.length))]) ∧ Below w.heap.size w w' := by
  obtain ⟨ao, ca, rfl, ha1, ha2, _⟩ := h1.openk 11 rfl
  obtain ⟨bo, cb, rfl, hb1, hb2, hb3⟩ := h2.openk 4 rfl
  have HB3 := Lib.hid hb3
  clear h1 h2 hb3
  go_enter Try.func34, Try.ntmps34
  go_wp2_with fail
  go_loopw [6, 7, 8] (fun g o i wr => ∃ n : Nat, n ≤ min ds.length rs.length ∧ i = .int .i64 n ∧ g = .int .i64 (gd rs n) ∧ o = .int .i64 ((n : Int) - gd rs n) ∧ Below w.heap.size w wr) (fun _ _ i _ => min ds.length rs.length - (intOf i).toNat)
  case atStart => exact ⟨0, Nat.zero_le _, rfl, rfl, rfl, Below.refl _ _⟩
  case round =>
    obtain ⟨n, hn, rfl, rfl, rfl, hbw⟩ := hrel
    have hg := gd_le rs n (by omega)
    by_cases hlt : n < min ds.length rs.length
    · obtain ⟨b2, o2, rfl, _, _, he2⟩ := HB3.out (by omega)
      obtain ⟨_, _, hr2, ⟨rfl, _, _⟩, _⟩ := he2 n (by omega)
      obtain ⟨d0, d1, d2, d3⟩ := cellsAt4 (rangeAt_below hr2 hbw)
      clear d1 d2 d3 hr2 he2
      have hlt1 : (n : Int) < ds.length := by omega
      have hlt2 : (n : Int) < rs.length := by omega
      by_cases hc : (rs[n]'(by omega)).code = 0
      · have hc' : ((rs[n]'(by omega)).code == 0) = true := by simpa using hc
        have hs := gd_t rs n (by omega) hc
        have HS := Lib.hid hs
        clear hc hs
        go_wp2_with fail
        go_roundw
        case rel => exact ⟨n + 1, by omega, by go_num, by rw [HS.out]; go_num, by rw [HS.out]; go_num, hbw⟩
        case measure => simp [intOf]; omega
      · have hc' : ((rs[n]'(by omega)).code == 0) = false := by simpa using hc
        have hs := gd_f rs n (by omega) hc
        have HS := Lib.hid hs
        clear hc hs
        go_wp2_with fail
        go_roundw
        case rel => exact ⟨n + 1, by omega, by go_num, by rw [HS.out], by rw [HS.out]; go_num, hbw⟩
        case measure => simp [intOf]; omega
    · have hge : ¬ n < min ds.length rs.length := hlt
      have hz : (min (ds.length : Int) (rs.length : Int)) ≤ n := by omega
      go_wp2_with fail
      all_goals
        go_ret2
        refine ⟨?_, hbw⟩
        obtain rfl : n = min ds.length rs.length := by omega
        rfl
set_option maxHeartbeats 400000 in
theorem tellsOfS_any (v u : Value) (ds : List Deed) (rs : List Reply) (f1 f2 : List Nat) (w : World) (h1 : Sl w v ds f1) (h2 : Sl w u rs f2) :
    Calls Try.prog 31 #[v, u] w fun e w' => e = .returned (.tuple #[I (gd rs (min ds.length rs.length)), I ((min ds.length rs.length : Nat) - gd rs (min ds.length rs.length))]) ∧ Below w.heap.size w w' := by
  obtain ⟨ao, ca, rfl, ha1, ha2, _⟩ := h1.openk 11 rfl
  obtain ⟨bo, cb, rfl, hb1, hb2, hb3⟩ := h2.openk 4 rfl
  have HB3 := Lib.hid hb3
  clear h1 h2 hb3
  go_enter Try.func31, Try.ntmps31
  go_wp2_with fail
  go_loopw [6, 7, 8] (fun g o i wr => ∃ n : Nat, n ≤ min ds.length rs.length ∧ i = .int .i64 n ∧ g = .int .i64 (gd rs n) ∧ o = .int .i64 ((n : Int) - gd rs n) ∧ Below w.heap.size w wr) (fun _ _ i _ => min ds.length rs.length - (intOf i).toNat)
  case atStart => exact ⟨0, Nat.zero_le _, rfl, rfl, rfl, Below.refl _ _⟩
  case round =>
    obtain ⟨n, hn, rfl, rfl, rfl, hbw⟩ := hrel
    have hg := gd_le rs n (by omega)
    by_cases hlt : n < min ds.length rs.length
    · obtain ⟨b2, o2, rfl, _, _, he2⟩ := HB3.out (by omega)
      obtain ⟨_, _, hr2, ⟨rfl, _, _⟩, _⟩ := he2 n (by omega)
      obtain ⟨d0, d1, d2, d3⟩ := cellsAt4 (rangeAt_below hr2 hbw)
      clear d1 d2 d3 hr2 he2
      have hlt1 : (n : Int) < ds.length := by omega
      have hlt2 : (n : Int) < rs.length := by omega
      by_cases hc : (rs[n]'(by omega)).code = 0
      · have hc' : ((rs[n]'(by omega)).code == 0) = true := by simpa using hc
        have hs := gd_t rs n (by omega) hc
        have HS := Lib.hid hs
        clear hc hs
        go_wp2_with fail
        go_roundw
        case rel => exact ⟨n + 1, by omega, by go_num, by rw [HS.out]; go_num, by rw [HS.out]; go_num, hbw⟩
        case measure => simp [intOf]; omega
      · have hc' : ((rs[n]'(by omega)).code == 0) = false := by simpa using hc
        have hs := gd_f rs n (by omega) hc
        have HS := Lib.hid hs
        clear hc hs
        go_wp2_with fail
        go_roundw
        case rel => exact ⟨n + 1, by omega, by go_num, by rw [HS.out], by rw [HS.out]; go_num, hbw⟩
        case measure => simp [intOf]; omega
    · by_cases hl : n < ds.length
      · have hl2 : ¬ n < rs.length := by omega
        go_wp2_with fail
        go_ret2
        refine ⟨?_, hbw⟩
        obtain rfl : n = min ds.length rs.length := by omega
        rfl
      · go_wp2_with fail
        go_ret2
        refine ⟨?_, hbw⟩
        obtain rfl : n = min ds.length rs.length := by omega
        rfl
end Go.Proofs.Ytgkloiodfhmckaa
