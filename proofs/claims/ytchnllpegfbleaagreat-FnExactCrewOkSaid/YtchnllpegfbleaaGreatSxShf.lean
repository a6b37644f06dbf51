/-
  Shifts (a try).
-/
import Derived.Test.YtchnllpegfbleaaGreatSxBits
namespace Go.Proofs.YtchnllpegfbleaaGreat
open Go.RowKit Go.Lib
section
variable {P : Program} {n : Nat} {f : Nat → Value} {W : World} {Q : Exit → Act → World → Prop} {K : Value → World → Prop} {d : Option Tmp} {ty : TypeId} {pos : String} {af : Array Go.Edge} {g : Option (Nat × Bool)} {x y : Operand} {t t' : TypeId}
theorem pow_fin : ∀ s : Fin 60, IntKind.i64.wrap (1 * 2 ^ min s.val 64) = ((1 <<< s.val : Nat) : Int) := by decide +kernel
theorem stp_shl1 {s : Nat} (hx : ev n f x = I 1) (hy : ev n f y = I (s : Int)) (hs : s < 60) (k : K (I ((1 <<< s : Nat) : Int)) W) : Stp P n ⟨d, .binOp .shl t x y t', ty, pos, af, g⟩ f W Q K :=
  Stp.run (v := I ((1 <<< s : Nat) : Int)) (by
    have h := pow_fin ⟨s, hs⟩
    have hn : ¬ ((s : Int) < 0) := by omega
    simp only [execOp, hx, hy, Sem.run_bind, binOp, Op.shift, hn, if_false, Int.toNat_natCast, Sem.run_pure, Result.andThen_ok]
    simp only [show IntKind.i64.bits = 64 from rfl, h]
    rfl) k
theorem stp_shr {a s : Nat} (hx : ev n f x = I (a : Int)) (hy : ev n f y = I (s : Int)) (hs : s < 60) (k : K (I ((a >>> s : Nat) : Int)) W) : Stp P n ⟨d, .binOp .shr t x y t', ty, pos, af, g⟩ f W Q K :=
  Stp.run (v := I ((a >>> s : Nat) : Int)) (by
    have hn : ¬ ((s : Int) < 0) := by omega
    have hm : min s 64 = s := by omega
    have h : Int.fdiv (a : Int) (2 ^ s) = ((a >>> s : Nat) : Int) := by
      rw [Nat.shiftRight_eq_div_pow, Int.fdiv_eq_ediv_of_nonneg _ (by exact Int.le_of_lt (Int.pow_pos (by omega)))]
      push_cast; rfl
    simp only [execOp, hx, hy, Sem.run_bind, binOp, Op.shift, hn, if_false, Int.toNat_natCast, Sem.run_pure, Result.andThen_ok]
    simp only [show IntKind.i64.bits = 64 from rfl, hm, h]
    rfl) k
end
end Go.Proofs.YtchnllpegfbleaaGreat
