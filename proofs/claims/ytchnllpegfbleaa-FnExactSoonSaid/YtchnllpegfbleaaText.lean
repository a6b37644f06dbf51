/-
  markText. (Printed by a program of this project's.)
-/
import Derived.Test.YtchnllpegfbleaaSxConv
import Derived.Test.YtchnllpegfbleaaKBase
namespace Go.Proofs.Ytchnllpegfbleaa
set_option linter.unusedSimpArgs false
set_option linter.unusedVariables false
set_option maxRecDepth 100000
open Go.RowKit


def dch (k : Nat) : ByteArray := ⟨#[UInt8.ofNat (48 + k % 10)]⟩
/-- Figures ahead of a text. -/
def figs (k : Nat) (out : ByteArray) : ByteArray := if h : k = 0 then out else figs (k / 10) (dch k ++ out)
termination_by k
decreasing_by omega
theorem figs_0 (out : ByteArray) : figs 0 out = out := by rw [figs]; simp
theorem figs_s {k : Nat} (h : 0 < k) (out : ByteArray) : figs k out = figs (k / 10) (dch k ++ out) := by
  conv => lhs; rw [figs]
  rw [dif_neg (by omega)]
theorem figs_size : ∀ (k : Nat) (out : ByteArray), (figs k out).size ≤ k + out.size := by
  intro k
  induction k using Nat.strongRecOn with
  | _ k ih =>
    intro out
    by_cases h : k = 0
    · subst h; rw [figs_0]; omega
    · rw [figs_s (by omega)]
      have := ih (k / 10) (by omega) (dch k ++ out)
      rw [ByteArray.size_append] at this
      have e : (dch k).size = 1 := rfl
      omega
def bM : ByteArray := ⟨#[109]⟩
def bM0 : ByteArray := ⟨#[109, 48]⟩
def mtext (k : Int) : ByteArray := if k ≤ 0 then bM0 else bM ++ figs k.toNat ⟨#[]⟩

theorem dch_eq (K : Nat) : (⟨#[UInt8.ofNat (48 + (K : Int) % 10).toNat]⟩ : ByteArray) = dch K := by
  have : (48 + (K : Int) % 10).toNat = 48 + K % 10 := by omega
  rw [this]; rfl
theorem mtext_size {k : Int} (h : k ≤ 4611686018427387904) : (mtext k).size ≤ maxLen := by
  unfold mtext maxLen
  split
  · show 2 ≤ _; omega
  · rw [ByteArray.size_append]
    have := figs_size k.toNat ⟨#[]⟩
    have e1 : bM.size = 1 := rfl
    have e2 : (⟨#[]⟩ : ByteArray).size = 0 := rfl
    omega
theorem size_app (a b : ByteArray) : (a ++ b).size = a.size + b.size := ByteArray.size_append

end Go.Proofs.Ytchnllpegfbleaa
