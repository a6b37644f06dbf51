/-
  Numbers in figures: the reference's way, digit by digit. Truncating division.
-/
import Derived.Test.YtchnllpegfbleaaDoorSxNew
import Derived.Test.YtchnllpegfbleaaDoorSxConv
import Derived.Lib.ItoaNum
import Derived.Lib.LaidTab
namespace Go.Proofs.YtchnllpegfbleaaDoor
set_option linter.unusedSimpArgs false
set_option linter.unusedVariables false
open Go.RowKit Go.Lib
section
variable {P : Program} {n : Nat} {f : Nat → Value} {W w : World} {Q : Exit → Act → World → Prop} {K : Value → World → Prop} {d : Option Tmp} {ty : TypeId} {pos : String} {af : Array Go.Edge} {g : Option (Nat × Bool)} {x y : Operand} {t e t' : TypeId}
theorem tmod_rng {a b : Int} (h2 : 0 < b) : -b < a.tmod b ∧ a.tmod b < b := by
  have h := Int.natAbs_tmod a b
  have h3 : (a.tmod b).natAbs < b.natAbs := by rw [h]; exact Nat.mod_lt _ (by omega)
  omega
theorem tdiv_rng {a b : Int} (h2 : 0 < b) : (a.tdiv b).natAbs ≤ a.natAbs := by
  rw [Int.natAbs_tdiv]; exact Nat.div_le_self _ _
theorem stp_remT {ty2 : TypeId} {a b : Int} (hx : ev n f x = I a) (hy : ev n f y = I b) (ha : -9223372036854775808 ≤ a ∧ a ≤ 9223372036854775807) (h2 : 0 < b ∧ b ≤ 9223372036854775807) (k : K (I (Int.tmod a b)) W) : Stp P n ⟨d, .binOp .rem t x y ty2, ty, pos, af, g⟩ f W Q K :=
  Stp.run (v := I (Int.tmod a b)) (by
    have e2 := tmod_rng (a := a) h2.1
    have e4 : IntKind.i64.wrap (a.tmod b) = a.tmod b := wrap_I64 ⟨by omega, by omega⟩
    have hb : ¬ b = 0 := by omega
    simp [execOp, hx, hy, go_sem, Op.intArith, hb, e4]) k
theorem stp_quoT {ty2 : TypeId} {a b : Int} (hx : ev n f x = I a) (hy : ev n f y = I b) (ha : -9223372036854775808 ≤ a ∧ a ≤ 9223372036854775807) (h2 : 1 < b ∧ b ≤ 9223372036854775807) (k : K (I (Int.tdiv a b)) W) : Stp P n ⟨d, .binOp .quo t x y ty2, ty, pos, af, g⟩ f W Q K :=
  Stp.run (v := I (Int.tdiv a b)) (by
    have e2 : (a.tdiv b).natAbs ≤ a.natAbs / 2 := by
      rw [Int.natAbs_tdiv]
      exact Nat.div_le_div_left (by omega) (by omega)
    have e4 : IntKind.i64.wrap (a.tdiv b) = a.tdiv b := wrap_I64 ⟨by omega, by omega⟩
    have hb : ¬ b = 0 := by omega
    simp [execOp, hx, hy, go_sem, Op.intArith, hb, e4]) k
theorem stp_neg {a : Int} (hx : ev n f x = I a) (h : I64 (-a)) (k : K (I (-a)) W) : Stp P n ⟨d, .unOp .neg t x, ty, pos, af, g⟩ f W Q K :=
  Stp.run (v := I (-a)) (by simp [execOp, hx, go_sem, wrap_I64 h]) k
end
/-- What start-up laid is there still. -/
theorem TabIs.below {P : Program} {w W : World} {name : String} {k : IntKind} {zs : List Int} (h : Lib.TabIs P w name k zs) (hb : Below w.heap.size w W) : Lib.TabIs P W name k zs := by
  unfold Lib.TabIs at *
  unfold World.var? at *
  cases hg : P.globalNamed name with
  | none => rw [hg] at h; cases h
  | some i =>
    rw [hg] at h
    simp only [Option.bind_some] at h ⊢
    cases hh : w.heap[i]? with
    | none => rw [hh] at h; cases h
    | some o =>
      have hi : i < w.heap.size := (Array.getElem?_eq_some_iff.1 hh).1
      rw [hb.block i hi]
      exact h
theorem bsz (a : Array UInt8) : (⟨a⟩ : ByteArray).size = a.size := rfl
theorem Elems.s0 {W : World} : Elems W [] ([] : List ByteArray) [] := ⟨rfl, rfl⟩
theorem Elems.sc {W : World} {y : ByteArray} {cs : List Value} {ys : List ByteArray} (h : y.size ≤ maxLen) (hs : Elems W cs ys []) : Elems W (.string y :: cs) (y :: ys) [] := ⟨[.string y], cs, [], [], rfl, ⟨rfl, rfl, h⟩, hs, rfl⟩
/-- A literal that a region has laid, as a slice. -/
theorem blk_Sl {α : Type} [Shape α] {W : World} {b : Nat} {cells : List Value} {e : TypeId} {ys : List α} (hne : ys ≠ []) (he : Elems W cells ys []) (hh : W.heap[b]? = some (.cells cells.toArray e (0, 0))) (hm : ys.length ≤ 1000 := by simp) : Sl W (.slice (some ⟨b, 0, none⟩) ys.length ys.length) ys [b] :=
  ⟨some ⟨b, 0, none⟩, ys.length, rfl, Nat.le_refl _, by omega, .inr ⟨b, 0, [], hne, rfl, rfl, (Array.getElem?_eq_some_iff.1 hh).1, he.at 0 (range_of_heap hh)⟩⟩
def preD (z : Int) : List UInt8 := if z = 0 then [] else decDigits z.natAbs
theorem preD_step {z : Int} (h : ¬ z = 0) : preD z = preD (z.tdiv 10) ++ [UInt8.ofNat (48 + (z.tmod 10).natAbs)] := by
  have h1 : (z.tdiv 10).natAbs = z.natAbs / 10 := Int.natAbs_tdiv z 10
  have h2 : (z.tmod 10).natAbs = z.natAbs % 10 := Int.natAbs_tmod z 10
  unfold preD
  rw [if_neg h, h2, decDigits]
  by_cases h3 : z.natAbs < 10
  · rw [dif_pos h3, if_pos (by omega), Nat.mod_eq_of_lt h3]; rfl
  · rw [dif_neg h3, if_neg (by omega), h1]
theorem decDigits_len (u : Nat) : ∀ k : Nat, u < 10 ^ (k + 1) → (decDigits u).length ≤ k + 1
  | 0, h => by
    rw [decDigits, dif_pos (by omega)]; simp
  | k + 1, h => by
    rw [decDigits]
    split
    · simp
    · have := decDigits_len (u / 10) k (by rw [Nat.div_lt_iff_lt_mul (by omega)]; rw [Nat.pow_succ] at h; exact h)
      rw [List.length_append, List.length_singleton]; omega
theorem itoa_len {z : Int} (h : -9223372036854775808 ≤ z ∧ z ≤ 9223372036854775807) : (itoa z).length ≤ 21 := by
  unfold itoa
  split
  · have := decDigits_len z.natAbs 19 (by have : z.natAbs < 10 ^ 20 := by omega
                                          exact this)
    simp; omega
  · have := decDigits_len z.toNat 19 (by have : z.toNat < 10 ^ 20 := by omega
                                         exact this)
    omega
theorem bcons (x : UInt8) (l : List UInt8) : (⟨#[x]⟩ : ByteArray) ++ ⟨l.toArray⟩ = ⟨(x :: l).toArray⟩ := by
  apply ByteArray.ext
  simp
/-- A number in figures. -/
def itoaB (z : Int) : ByteArray := ⟨(itoa z).toArray⟩
theorem itoaB_zero : itoaB 0 = ⟨#[48]⟩ := by
  have h : itoa 0 = [48] := by
    unfold itoa
    rw [if_neg (by omega), show (0 : Int).toNat = 0 from rfl, decDigits_one (by omega)]; rfl
  rw [itoaB, h]
theorem sl_len {z : Int} {sl : List UInt8} {u : Nat} (h : preD z ++ sl = decDigits u) (hu : u ≤ 9223372036854775808) : sl.length ≤ 20 := by
  have h1 := congrArg List.length h
  rw [List.length_append] at h1
  have h3 : u < 10 ^ 20 := by omega
  have h2 := decDigits_len u 19 h3
  omega
theorem itoaB_size {z : Int} (h : -9223372036854775808 ≤ z ∧ z ≤ 9223372036854775807) : (itoaB z).size ≤ 21 := by
  have := itoa_len h
  simpa [itoaB, ByteArray.size] using this
end Go.Proofs.YtchnllpegfbleaaDoor
