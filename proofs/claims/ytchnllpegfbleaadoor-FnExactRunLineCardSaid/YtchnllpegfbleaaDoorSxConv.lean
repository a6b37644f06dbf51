/-
  Bytes: numbers turned to bytes, rows of bytes turned to strings.
-/
import Derived.Test.YtchnllpegfbleaaDoorSxStr
import Derived.Lib.SlBytesRow
import Derived.Laws.BytesString
namespace Go.Proofs.YtchnllpegfbleaaDoor
set_option linter.unusedSimpArgs false
set_option linter.unusedVariables false
open Go.RowKit Go.Lib
instance : Shape UInt8 := Shape.flat 1 (fun b => [.int .u8 (b.toNat : Int)]) (fun _ => True) (fun _ => rfl) (fun _ v hv => by simp at hv; subst hv; rfl)
instance : Agg UInt8 := ⟨false⟩
section
variable {P : Program} {n : Nat} {f : Nat → Value} {W w : World} {Q : Exit → Act → World → Prop} {K : Value → World → Prop} {d : Option Tmp} {ty : TypeId} {pos : String} {af : Array Go.Edge} {g : Option (Nat × Bool)} {x y : Operand} {t e t' : TypeId}
theorem intKind_u8 (hd : P.underlying t = some (.int .u8)) : P.intKind t = .u8 := by simp [Program.intKind, hd]
theorem stp_byte {a : Int} (hs : (P.underlying t).isSome = true) (hd : P.underlying t' = some (.int .u8)) (hx : ev n f x = I a) (h : 0 ≤ a ∧ a < 256) (k : K (.int .u8 a) W) : Stp P n ⟨d, .convert t t' x, ty, pos, af, g⟩ f W Q K :=
  Stp.run (v := .int .u8 a) (by
    have hw : IntKind.u8.wrap a = a := by simp [IntKind.wrap, IntKind.bits, IntKind.signed]; omega
    have hd' : P.underlying t' = some (.int (P.intKind t')) := by rw [intKind_u8 hd]; exact hd
    have := run_convert_int (P := P) W t t' .i64 a hs hd'
    rw [intKind_u8 hd, hw] at this
    simp only [execOp, hx, Sem.run_bind, this, Result.andThen_ok]; rfl) k
theorem conv_none (hs : P.underlying t = some (.slice e)) (he : P.underlying e = some (.int .u8)) (hd : P.underlying t' = some .string) (p : Option Addr) (c : Nat) (W : World) : (convert t t' (.slice p 0 c)).run P W = .ok (.string ⟨#[]⟩) W := by
  rw [run_convert_bytes_string W t t' e _ 0 c hs he hd]
  cases p
  · simp [Conv.bytesToString, loadCells]; rfl
  · simp [Conv.bytesToString, loadCells]; rfl
theorem bytes_of {v : Value} {bs : List UInt8} {fp : List Nat} (h : Sl W v bs fp) (hne : bs ≠ []) : ∃ b o cap, v = .slice (some ⟨b, o, none⟩) bs.length cap ∧ Bytes W b o ⟨bs.toArray⟩ := by
  obtain ⟨ao, cap, rfl, h1, h2, h3⟩ := h.openk 1 rfl
  obtain ⟨b, o, rfl, hb, hm, he⟩ := h3 (List.length_pos_iff.2 hne)
  refine ⟨b, o, cap, rfl, ?_⟩
  intro i hi
  have hi' : i < bs.length := by simpa [ByteArray.size] using hi
  obtain ⟨cs, f1, hr, ⟨hc, _, _⟩, _⟩ := he i hi'
  subst hc
  have := hr 0 _ rfl
  rw [Nat.mul_one, Nat.add_zero] at this
  rw [this]
  rfl
theorem stp_strOf {bs : List UInt8} {v : Value} {fp : List Nat} (hs : P.underlying t = some (.slice e)) (he : P.underlying e = some (.int .u8)) (hd : P.underlying t' = some .string) (hx : ev n f x = v) (h : Sl w v bs fp) (hb : Below w.heap.size w W) (k : K (.string ⟨bs.toArray⟩) W) : Stp P n ⟨d, .convert t t' x, ty, pos, af, g⟩ f W Q K := by
  have h' := h.below hb
  by_cases hne : bs = []
  · subst hne
    obtain ⟨ao, cap, rfl, _⟩ := h'
    refine Stp.run (v := .string ⟨#[]⟩) ?_ k
    have := conv_none (P := P) hs he hd ao cap W
    simp only [execOp, hx, Sem.run_bind, List.length_nil, this, Result.andThen_ok]
    rfl
  · obtain ⟨b, o, cap, rfl, hB⟩ := bytes_of h' hne
    refine Stp.run (v := .string ⟨bs.toArray⟩) ?_ k
    have hsz : (⟨bs.toArray⟩ : ByteArray).size = bs.length := by simp [ByteArray.size]
    have := run_convert_whole (P := P) W t e t' hs he hd b o ⟨bs.toArray⟩ hB cap
    rw [hsz] at this
    simp only [execOp, hx, Sem.run_bind, this, Result.andThen_ok]
    rfl
theorem i64_of_le {a b : Int} (h1 : 0 ≤ a) (hb : a ≤ b) (h2 : b ≤ 9223372036854775807) : IntKind.i64.wrap a = a := wrap_I64 ⟨by omega, by omega⟩
theorem stp_rem {ty2 : TypeId} {a b : Int} (hx : ev n f x = I a) (hy : ev n f y = I b) (h13 : 0 ≤ a ∧ a ≤ 9223372036854775807) (h2 : 0 < b) (k : K (I (a % b)) W) : Stp P n ⟨d, .binOp .rem t x y ty2, ty, pos, af, g⟩ f W Q K :=
  Stp.run (v := I (a % b)) (by
    obtain ⟨h1, h3⟩ := h13
    have e1 : a.tmod b = a % b := Int.tmod_eq_emod_of_nonneg h1
    have e2 : 0 ≤ a % b := Int.emod_nonneg a (by omega)
    have e3 : a % b ≤ a := by
      rcases Int.lt_or_le a b with h | h
      · rw [Int.emod_eq_of_lt h1 h]; omega
      · have := Int.emod_lt_of_pos a h2; omega
    have e4 : IntKind.i64.wrap (a % b) = a % b := i64_of_le e2 e3 h3
    have hb : ¬ b = 0 := by omega
    simp [execOp, hx, hy, go_sem, Op.intArith, hb, e1, e4]) k
theorem stp_quo {ty2 : TypeId} {a b : Int} (hx : ev n f x = I a) (hy : ev n f y = I b) (h13 : 0 ≤ a ∧ a ≤ 9223372036854775807) (h2 : 0 < b) (k : K (I (a / b)) W) : Stp P n ⟨d, .binOp .quo t x y ty2, ty, pos, af, g⟩ f W Q K :=
  Stp.run (v := I (a / b)) (by
    obtain ⟨h1, h3⟩ := h13
    have e1 : a.tdiv b = a / b := Int.tdiv_eq_ediv_of_nonneg h1
    have e2 : 0 ≤ a / b := Int.ediv_nonneg h1 (by omega)
    have e3 : a / b ≤ a := Int.ediv_le_self _ h1
    have e4 : IntKind.i64.wrap (a / b) = a / b := i64_of_le e2 e3 h3
    have hb : ¬ b = 0 := by omega
    simp [execOp, hx, hy, go_sem, Op.intArith, hb, e1, e4]) k
/-- A literal of one byte, as a string. -/
theorem stp_str1 {b : Nat} {c : Int} {te : TypeId} (hs : P.underlying t = some (.slice e)) (he : P.underlying e = some (.int .u8)) (hd : P.underlying t' = some .string) (hx : ev n f x = .slice (some ⟨b, 0, none⟩) 1 1) (hB : (Res.bx b [.int .u8 c] te).holds W) (hc : 0 ≤ c ∧ c < 256) (k : K (.string ⟨#[UInt8.ofNat c.toNat]⟩) W) : Stp P n ⟨d, .convert t t' x, ty, pos, af, g⟩ f W Q K := by
  have hcb : ((UInt8.ofNat c.toNat).toNat : Int) = c := by
    simp [UInt8.toNat_ofNat']
    omega
  have hbytes : Bytes W b 0 ⟨#[UInt8.ofNat c.toNat]⟩ := by
    intro i hi
    have hi0 : i = 0 := by simp [ByteArray.size] at hi; exact hi
    subst hi0
    have := range_of_heap hB 0 (.int .u8 c) rfl
    rw [this]
    show some (Value.int .u8 c) = some (.int .u8 ((UInt8.ofNat c.toNat).toNat : Int))
    rw [hcb]
  have := run_convert_whole (P := P) W t e t' hs he hd b 0 ⟨#[UInt8.ofNat c.toNat]⟩ hbytes 1
  have hsz : (⟨#[UInt8.ofNat c.toNat]⟩ : ByteArray).size = 1 := rfl
  rw [hsz] at this
  refine Stp.run (v := .string ⟨#[UInt8.ofNat c.toNat]⟩) ?_ k
  simp only [execOp, hx, Sem.run_bind, this, Result.andThen_ok]
  rfl
end
theorem ap_uint8S : ApOk Tryd.prog 64 5 UInt8 1 := apOk Tryd.underlying64 (by kernel_rfl) (by decide)
end Go.Proofs.YtchnllpegfbleaaDoor
