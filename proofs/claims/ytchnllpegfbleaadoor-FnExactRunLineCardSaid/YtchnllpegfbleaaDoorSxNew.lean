/-
  Functions without parameters; slices that are nil, owned out of nothing.
-/
import Derived.Test.YtchnllpegfbleaaDoorPoke
namespace Go.Proofs.YtchnllpegfbleaaDoor
set_option linter.unusedSimpArgs false
set_option linter.unusedVariables false
open Go.RowKit
section
variable {P : Program} {W : World}
theorem enter0 {F : FuncId} {fn : Func} {c : Code} {m : Nat} {R : Ending → World → Prop} (hf : P.funcs[F]? = some fn) (hb : fn.body = some c) (hm : fn.ntmps = m) (hl : 0 ≤ m) (h : c.wp P (bodyPost P fn R) (act m u0) W) : Calls P F #[] W R := by
  subst hm
  refine calls_of_wp hf hb ?_
  rw [act_enter fn.ntmps [] u0 (Nat.zero_le _) (fun t _ => rfl)]
  exact h
end
theorem row_Sl0 {α : Type} [Shape α] {W : World} {e : TypeId} {v : Value} {fe : List Nat} (h : (Res.row (α := α) e v [] fe).holds W) : Sl W v ([] : List α) [] := by simpa using row_Sl h
theorem St.own_nil {α : Type} [Shape α] {w0 W : World} {rs : List Res} (h : St w0 W rs) : St w0 W (Res.own (.slice none 0 0) ([] : List α) [] :: rs) :=
  h.trade (rs1 := []) (rs2 := [Res.own (.slice none 0 0) ([] : List α) []]) (show ([] : List Nat).Nodup from List.nodup_nil) (fun b hb => absurd (show b ∈ ([] : List Nat) from hb) (by simp)) (by intro r hr; simp at hr; subst hr; exact ⟨nil_Sl.v, by simp⟩)
end Go.Proofs.YtchnllpegfbleaaDoor
