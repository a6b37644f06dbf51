/-
  Strings: lengths, comparisons, sums.
-/
import Derived.Test.YtchnllpegfbleaaDoorSxLit
import Derived.Laws.Strings
namespace Go.Proofs.YtchnllpegfbleaaDoor
set_option linter.unusedSimpArgs false
set_option linter.unusedVariables false
open Go.RowKit
theorem toList_beq (a b : ByteArray) : (a.toList == b.toList) = decide (a = b) := by
  by_cases h : a = b
  · subst h; simp
  · have : ¬ a.toList = b.toList := fun e => h (by
      rw [ByteArray.toList_eq, ByteArray.toList_eq] at e
      obtain ⟨⟨x⟩⟩ := a
      obtain ⟨⟨y⟩⟩ := b
      simp at e
      subst e; rfl)
    simp [h, this]
section
variable {P : Program} {n : Nat} {f : Nat → Value} {W : World} {Q : Exit → Act → World → Prop} {K : Value → World → Prop} {d : Option Tmp} {ty : TypeId} {pos : String} {af : Array Go.Edge} {g : Option (Nat × Bool)} {x y : Operand} {t t' : TypeId} {a b : ByteArray}
theorem stp_slen (hu : P.underlying t = some .string) (hx : ev n f x = .string a) (k : K (I (a.size : Int)) W) : Stp P n ⟨d, .call { callee := .builtin .len, args := #[x], argTypes := #[t] }, ty, pos, af, g⟩ f W Q K :=
  Stp.run (v := I (a.size : Int)) (by simp [execOp, hx, resolve, invoke, builtin, Sem.run_bind, run_len_string (h := hu), goInt]) k
theorem stp_seql (hx : ev n f x = .string a) (hy : ev n f y = .string b) (k : K (.bool (decide (a = b))) W) : Stp P n ⟨d, .binOp .eql t x y t', ty, pos, af, g⟩ f W Q K :=
  Stp.run (v := .bool (decide (a = b))) (by simp [execOp, hx, hy, go_sem, toList_beq]) k
theorem stp_sneq (hx : ev n f x = .string a) (hy : ev n f y = .string b) (k : K (.bool (!decide (a = b))) W) : Stp P n ⟨d, .binOp .neq t x y t', ty, pos, af, g⟩ f W Q K :=
  Stp.run (v := .bool (!decide (a = b))) (by simp [execOp, hx, hy, go_sem, toList_beq]) k
theorem stp_sadd (hx : ev n f x = .string a) (hy : ev n f y = .string b) (h : a.size + b.size ≤ 9223372036854775807) (k : K (.string (a ++ b)) W) : Stp P n ⟨d, .binOp .add t x y t', ty, pos, af, g⟩ f W Q K :=
  Stp.run (v := .string (a ++ b)) (by
    have h' : ¬ ((a.size : Int) + (b.size : Int) > IntKind.i64.max) := by simp [IntKind.max, IntKind.bits, IntKind.signed]; omega
    simp [execOp, hx, hy, go_sem, Op.stringOp]
    omega) k
end
end Go.Proofs.YtchnllpegfbleaaDoor
