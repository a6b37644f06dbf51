/-
  Bits of numbers that are no Nat by their form.
-/
import Derived.Test.YtchnllpegfbleaaGreatSxShf
namespace Go.Proofs.YtchnllpegfbleaaGreat
set_option linter.unusedSimpArgs false
set_option linter.unusedVariables false
open Go.RowKit Go.Lib
def orI (a b : Int) : Int := ((a.toNat ||| b.toNat : Nat) : Int)
def andI (a b : Int) : Int := ((a.toNat &&& b.toNat : Nat) : Int)
def shlI (s : Int) : Int := ((1 <<< s.toNat : Nat) : Int)
def shrI (a s : Int) : Int := ((a.toNat >>> s.toNat : Nat) : Int)
section
variable {P : Program} {n : Nat} {f : Nat → Value} {W : World} {Q : Exit → Act → World → Prop} {K : Value → World → Prop} {d : Option Tmp} {ty : TypeId} {pos : String} {af : Array Go.Edge} {g : Option (Nat × Bool)} {x y : Operand} {t t' : TypeId}
theorem evNat {x : Operand} {a : Int} (h : ev n f x = I a) (h0 : 0 ≤ a) : ev n f x = I ((a.toNat : Nat) : Int) := by rw [Int.toNat_of_nonneg h0]; exact h
theorem stp_orI {a b : Int} (hx : ev n f x = I a) (hy : ev n f y = I b) (ha : 0 ≤ a ∧ a < 4294967296) (hb : 0 ≤ b ∧ b < 4294967296) (k : K (I (orI a b)) W) : Stp P n ⟨d, .binOp .or t x y t', ty, pos, af, g⟩ f W Q K :=
  stp_or (evNat hx ha.1) (evNat hy hb.1) (by omega) (by omega) k
theorem stp_andI {a b : Int} (hx : ev n f x = I a) (hy : ev n f y = I b) (ha : 0 ≤ a ∧ a < 4294967296) (hb : 0 ≤ b ∧ b < 4294967296) (k : K (I (andI a b)) W) : Stp P n ⟨d, .binOp .and t x y t', ty, pos, af, g⟩ f W Q K :=
  stp_and (evNat hx ha.1) (evNat hy hb.1) (by omega) (by omega) k
theorem stp_shlI {s : Int} (hx : ev n f x = I 1) (hy : ev n f y = I s) (hs : 0 ≤ s ∧ s < 60) (k : K (I (shlI s)) W) : Stp P n ⟨d, .binOp .shl t x y t', ty, pos, af, g⟩ f W Q K :=
  stp_shl1 hx (evNat hy hs.1) (by omega) k
theorem stp_shrI {a s : Int} (hx : ev n f x = I a) (hy : ev n f y = I s) (ha : 0 ≤ a) (hs : 0 ≤ s ∧ s < 60) (k : K (I (shrI a s)) W) : Stp P n ⟨d, .binOp .shr t x y t', ty, pos, af, g⟩ f W Q K :=
  stp_shr (evNat hx ha) (evNat hy hs.1) (by omega) k
end
theorem orI_rng {a b : Int} (ha : 0 ≤ a ∧ a < 4294967296) (hb : 0 ≤ b ∧ b < 4294967296) : 0 ≤ orI a b ∧ orI a b < 4294967296 := by
  have h := Nat.or_lt_two_pow (n := 32) (x := a.toNat) (y := b.toNat) (by omega) (by omega)
  unfold orI
  generalize a.toNat ||| b.toNat = m at h ⊢
  omega
theorem shlI_rng {s : Int} (hs : 0 ≤ s ∧ s < 32) : 0 ≤ shlI s ∧ shlI s < 4294967296 := by
  have h : 1 <<< s.toNat < 2 ^ 32 := by
    rw [Nat.one_shiftLeft]
    exact Nat.pow_lt_pow_right (by omega) (by omega)
  unfold shlI
  generalize 1 <<< s.toNat = m at h ⊢
  omega
theorem shrI_rng {a s : Int} (ha : 0 ≤ a ∧ a < 4294967296) : 0 ≤ shrI a s ∧ shrI a s < 4294967296 := by
  have h := Nat.shiftRight_le a.toNat s.toNat
  unfold shrI
  generalize a.toNat >>> s.toNat = m at h ⊢
  omega
theorem andI_one (a s : Int) : andI (shrI a s) 1 = if a.toNat.testBit s.toNat then 1 else 0 := by
  unfold andI shrI
  simp only [Int.toNat_natCast, Int.toNat_one]
  rw [Nat.testBit, Nat.and_comm 1, ]
  have h := Nat.and_one_is_mod (a.toNat >>> s.toNat)
  rw [h]
  have : a.toNat >>> s.toNat % 2 = 0 ∨ a.toNat >>> s.toNat % 2 = 1 := by omega
  rcases this with h | h <;> simp [h]
/-! ### Lists of such numbers -/
def castL (ms : List Nat) : List Int := ms.map (fun m : Nat => (m : Int))
theorem castL_len (ms : List Nat) : (castL ms).length = ms.length := by simp [castL]
theorem castL_rng {ms : List Nat} (hB : ∀ m ∈ ms, m < 4294967296) (i : Nat) (h : i < (castL ms).length) : 0 ≤ (castL ms)[i] ∧ (castL ms)[i] < 4294967296 := by
  simp only [castL, List.getElem_map]
  have := hB (ms[i]'(by simpa [castL] using h)) (List.getElem_mem _)
  omega
theorem castL_at {ms : List Nat} {i : Nat} (h : i < (castL ms).length) : (castL ms)[i].toNat = ms.getD i 0 := by
  have h' : i < ms.length := by simpa [castL] using h
  simp [castL, List.getD, h']
theorem castL_set (ms : List Nat) (i : Nat) (m : Nat) : (castL ms).set i (m : Int) = castL (ms.set i m) := by
  simp [castL, List.map_set]
theorem castL_rep (n : Nat) : List.replicate n (0 : Int) = castL (List.replicate n 0) := by simp [castL]
end Go.Proofs.YtchnllpegfbleaaGreat
