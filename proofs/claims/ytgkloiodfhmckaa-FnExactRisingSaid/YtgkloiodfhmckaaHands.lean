/-
  The walks of the helpers of the laws on hands: they copy and compare.
-/
import Derived.Test.YtgkloiodfhmckaaBase
namespace Go.Proofs.Ytgkloiodfhmckaa
set_option linter.unusedSimpArgs false
set_option linter.unusedVariables false
open Go.RowKit

theorem toHand_any (h : Hand) (w : World) : Calls Try.prog 39 #[.agg #[I h.run, I h.task, I h.try_, I h.at_]] w fun e w' => e = .returned (.agg #[I h.run, I h.task, I h.try_, I h.at_]) ∧ Below w.heap.size w w' := by
  go_enter Try.func39, Try.ntmps39
  go_wp2
  exact bodyPost_ret (v := .agg #[I h.run, I h.task, I h.try_, I h.at_]) (by simp [results, Try.results39, go_sem]) rfl ⟨rfl, by repeat (first | exact Below.refl _ _ | refine Below.alloc ?_ (by first | omega | (simp; done) | (simp; omega)) _)⟩

theorem eqHand_any (h g : Hand) (w : World) : Calls Try.prog 40 #[.agg #[I h.run, I h.task, I h.try_, I h.at_], .agg #[I g.run, I g.task, I g.try_, I g.at_]] w fun e w' => e = .returned (.bool (eqB h g)) ∧ Below w.heap.size w w' := by
  obtain ⟨h1, h2, h3, h4⟩ := h
  obtain ⟨g1, g2, g3, g4⟩ := g
  go_enter Try.func40, Try.ntmps40
  go_wp2
  all_goals
    go_ret
    exact ⟨by simp_all [eqB], by repeat (first | exact Below.refl _ _ | refine Below.alloc ?_ (by first | omega | (simp; done) | (simp; omega)) _)⟩

theorem szHandS_any (v : Value) (hs : List Hand) (fp : List Nat) (l : Int) (w : World) (h : Sl w v hs fp) (hl : 0 ≤ l) (hl2 : l ≤ 1048576) :
    Calls Try.prog 17 #[v, .int .i64 l] w fun e w' => e = .returned (.int .i64 (if l < hs.length then -1 else l - hs.length)) ∧ w = w' := by
  obtain ⟨ao, cap, rfl, h1, h2, h3⟩ := h.openk 4 rfl
  clear h3 h
  by_cases hb : l < hs.length
  · go_enter Try.func17, Try.ntmps17
    go_wp2
    go_ret
    exact ⟨by simp [hb], rfl⟩
  · go_enter Try.func17, Try.ntmps17
    go_wp2
    go_ret
    exact ⟨by simp [hb], rfl⟩

end Go.Proofs.Ytgkloiodfhmckaa
