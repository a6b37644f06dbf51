/-
  Bits of small numbers: or, and, shifts.
-/
import Derived.Test.YtchnllpegfbleaaGreatSxConv
import Derived.Lib.QuoteBits
namespace Go.Proofs.YtchnllpegfbleaaGreat
set_option linter.unusedSimpArgs false
set_option linter.unusedVariables false
open Go.RowKit Go.Lib
section
variable {P : Program} {n : Nat} {f : Nat → Value} {W : World} {Q : Exit → Act → World → Prop} {K : Value → World → Prop} {d : Option Tmp} {ty : TypeId} {pos : String} {af : Array Go.Edge} {g : Option (Nat × Bool)} {x y : Operand} {t t' : TypeId}
theorem ofInt_small (a : Nat) (h : a < 2 ^ 32) : (BitVec.ofInt 64 (a : Int)).toNat = a := by
  simp [BitVec.toNat_ofInt]
  omega
theorem stp_or {a b : Nat} (hx : ev n f x = I (a : Int)) (hy : ev n f y = I (b : Int)) (ha : a < 2 ^ 32) (hb : b < 2 ^ 32) (k : K (I ((a ||| b : Nat) : Int)) W) : Stp P n ⟨d, .binOp .or t x y t', ty, pos, af, g⟩ f W Q K :=
  Stp.run (v := I ((a ||| b : Nat) : Int)) (by
    have h := Nat.or_lt_two_pow ha hb
    have hw : IntKind.i64.wrap ((BitVec.ofInt 64 (a : Int) ||| BitVec.ofInt 64 (b : Int)).toNat : Int) = ((a ||| b : Nat) : Int) := by
      rw [BitVec.toNat_or, ofInt_small a ha, ofInt_small b hb]
      exact wrap_I64 ⟨by omega, by omega⟩
    simp [execOp, hx, hy, go_sem]
    exact hw) k
theorem stp_and {a b : Nat} (hx : ev n f x = I (a : Int)) (hy : ev n f y = I (b : Int)) (ha : a < 2 ^ 32) (hb : b < 2 ^ 32) (k : K (I ((a &&& b : Nat) : Int)) W) : Stp P n ⟨d, .binOp .and t x y t', ty, pos, af, g⟩ f W Q K :=
  Stp.run (v := I ((a &&& b : Nat) : Int)) (by
    have h : a &&& b < 2 ^ 32 := Nat.and_lt_two_pow _ hb
    have hw : IntKind.i64.wrap ((BitVec.ofInt 64 (a : Int) &&& BitVec.ofInt 64 (b : Int)).toNat : Int) = ((a &&& b : Nat) : Int) := by
      rw [BitVec.toNat_and, ofInt_small a ha, ofInt_small b hb]
      exact wrap_I64 ⟨by omega, by omega⟩
    simp [execOp, hx, hy, go_sem]
    exact hw) k
end
end Go.Proofs.YtchnllpegfbleaaGreat
