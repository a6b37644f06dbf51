/-
  The law on RoundRobin, walked.
-/
import Derived.Test.YtgkloiodfhmckaaRoundRobin
namespace Go.Proofs.Ytgkloiodfhmckaa
set_option linter.unusedSimpArgs false
set_option linter.unusedVariables false
open Go.RowKit

set_option maxHeartbeats 1000000 in
theorem roundRobin_law (w : World) (m : Int) (hm : I64 m) (t : Int) (ht : I64 t) :
    Calls Try.prog 3 #[.int .i64 m, .int .i64 t] w fun e w' => e = .returned (.bool true) ∧ Below w.heap.size w w' := by
  have hx : ∀ x ∈ robin m (robinN m t), I64 x := by
    by_cases h1 : 1 ≤ m ∧ m ≤ 8
    · exact robin_64 m _ h1
    · have : robinN m t = 0 := by simp [robinN, inB_f h1]
      rw [this]; simp [robin]
  have hlen : (robin m (robinN m t)).length ≤ 600 := by
    rw [robin_len]
    unfold robinN
    split
    · rename_i h
      simp [inB] at h
      omega
    · omega
  have hmk : ∀ x ∈ marks 1 (robin m (robinN m t)).length, I64 x := by
    intro x hx
    simp only [marks, List.mem_map, List.mem_range] at hx
    obtain ⟨i, hi, rfl⟩ := hx
    constructor <;> omega
  have cI : ∀ w : World, Calls Try.prog 10 #[.int .i64 m, .int .i64 t] w fun e w' => ∃ v, e = .returned v ∧ w'.ownsRow w.heap.size 3 1 v (robin m (robinN m t)).length ((robin m (robinN m t)).map I) ∧ Below w.heap.size w w' := fun w => robinI_any m t w
  have cS := robinS_any m t w
  generalize robin m (robinN m t) = xs at *
  have CI := Lib.hid cI
  have CS := Lib.hid cS
  clear cI cS
  have HX := Lib.hid hx
  have HM := Lib.hid hmk
  clear hx hmk
  go_enter Try.func3, Try.ntmps3
  go_wp2_with fail
  refine CS.out.mono ?_
  rintro e w1 ⟨v0, rfl, own0, hb1⟩
  obtain ⟨f0, hs0, hf0, _⟩ := Sl.of_owns own0 HX.out
  have hl0 := hs0.lt
  go_wp2_with fail
  refine (CI.out w1).mono ?_
  rintro e w2 ⟨v1, rfl, own1, hb2⟩
  obtain ⟨f1, hs1, hf1, hv1⟩ := Sl.of_owns own1 HX.out
  have hB2 : Below w.heap.size w w2 := hb1.trans (hb2.mono hb1.size)
  go_wp2_with fail
  refine (eqIntS_any v1 v0 xs xs f1 f0 w2 hs1 (hs0.below hb2)).mono ?_
  rintro e w3 ⟨rfl, hb3⟩
  have hB3 : Below w.heap.size w w3 := hB2.trans (hb3.mono hB2.size)
  rw [eqB_t rfl]
  have own3 := ownsRow_below own1 hb3
  go_wp2_with fail
  refine (markIntS_any w1.heap.size 3 v1 xs 1 w3 own3 (by omega) (by omega)).mono ?_
  rintro e w4 ⟨rfl, own4, hg4⟩
  have hrow : ∀ k, v1.ownBlock = some k → w1.heap.size ≤ k := fun k hk => (own3.lt k hk).1
  have hB4 : Below w.heap.size w w4 := hB3.grown hg4 hB3.size (fun k hk => Nat.le_trans hb1.size (hrow k hk))
  have hs0_4 : Sl w4 v0 xs f0 := ((hs0.below hb2).below hb3).grown hg4 (fun b hb e => by have := hl0 b hb; have := hrow b e.symm; omega)
  obtain ⟨f4, hs4, _, _⟩ := Sl.of_owns (by rw [marks_len]; exact own4) HM.out
  go_wp2_with fail
  refine (heldIntS_any v1 xs.length f4 1 w4 hs4 (by omega) (by omega)).mono ?_
  rintro e w' ⟨rfl, rfl⟩
  go_wp2_with fail
  refine (CI.out w4).mono ?_
  rintro e w5 ⟨v2, rfl, own5, hb5⟩
  obtain ⟨f5, hs5, _, _⟩ := Sl.of_owns own5 HX.out
  have hB5 : Below w.heap.size w w5 := hB4.trans (hb5.mono hB4.size)
  go_wp2_with fail
  refine (eqIntS_any v2 v0 xs xs f5 f0 w5 hs5 (hs0_4.below hb5)).mono ?_
  rintro e w6 ⟨rfl, hb6⟩
  have hB6 : Below w.heap.size w w6 := hB5.trans (hb6.mono hB5.size)
  rw [eqB_t rfl]
  go_wp2_with fail
  refine (heldIntS_any v1 xs.length f4 1 w6 ((hs4.below hb5).below hb6) (by omega) (by omega)).mono ?_
  rintro e w' ⟨rfl, rfl⟩
  go_wp2_with fail
  go_ret
  exact ⟨rfl, hB6⟩
end Go.Proofs.Ytgkloiodfhmckaa
