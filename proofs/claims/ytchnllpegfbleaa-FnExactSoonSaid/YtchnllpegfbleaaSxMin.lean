/-
  The lesser and the greater of two numbers.
-/
import Derived.Test.YtchnllpegfbleaaLend
namespace Go.Proofs.Ytchnllpegfbleaa
set_option linter.unusedSimpArgs false
set_option linter.unusedVariables false
open Go.RowKit
section
variable {P : Program} {n : Nat} {f : Nat → Value} {W : World} {Q : Exit → Act → World → Prop} {K : Value → World → Prop} {d : Option Tmp} {ty : TypeId} {pos : String} {af : Array Go.Edge} {g : Option (Nat × Bool)} {x y : Operand} {ats : Array TypeId}
theorem stp_min {a b : Int} (hx : ev n f x = I a) (hy : ev n f y = I b) (k : K (I (min a b)) W) : Stp P n ⟨d, .call { callee := .builtin .min, args := #[x, y], argTypes := ats }, ty, pos, af, g⟩ f W Q K :=
  Stp.run (v := I (min a b)) (by
    simp [execOp, hx, hy, resolve, invoke, builtin, go_sem]
    omega) k
theorem stp_max {a b : Int} (hx : ev n f x = I a) (hy : ev n f y = I b) (k : K (I (max a b)) W) : Stp P n ⟨d, .call { callee := .builtin .max, args := #[x, y], argTypes := ats }, ty, pos, af, g⟩ f W Q K :=
  Stp.run (v := I (max a b)) (by
    simp [execOp, hx, hy, resolve, invoke, builtin, go_sem]
    omega) k
end
end Go.Proofs.Ytchnllpegfbleaa
