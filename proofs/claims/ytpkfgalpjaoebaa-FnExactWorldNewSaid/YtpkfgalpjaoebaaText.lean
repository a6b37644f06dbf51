/-
  markText. (Printed by a program of this project's.)
-/
import Derived.Test.YtpkfgalpjaoebaaSxConv
import Derived.Test.YtpkfgalpjaoebaaKBase
namespace Go.Proofs.Ytpkfgalpjaoebaa
set_option linter.unusedSimpArgs false
set_option linter.unusedVariables false
set_option maxRecDepth 100000
open Go.RowKit


def dch (k : Nat) : ByteArray := ⟨#[UInt8.ofNat (48 + k % 10)]⟩
/-- Figures ahead of a text. -/
def figs (k : Nat) (out : ByteArray) : ByteArray := if h : k = 0 then out else figs (k / 10) (dch k ++ out)
termination_by k
decreasing_by omega
theorem figs_0 (out : ByteArray) : figs 0 out = out := by rw [figs]; simp
theorem figs_s {k : Nat} (h : 0 < k) (out : ByteArray) : figs k out = figs (k / 10) (dch k ++ out) := by
  conv => lhs; rw [figs]
  rw [dif_neg (by omega)]
theorem figs_size : ∀ (k : Nat) (out : ByteArray), (figs k out).size ≤ k + out.size := by
  intro k
  induction k using Nat.strongRecOn with
  | _ k ih =>
    intro out
    by_cases h : k = 0
    · subst h; rw [figs_0]; omega
    · rw [figs_s (by omega)]
      have := ih (k / 10) (by omega) (dch k ++ out)
      rw [ByteArray.size_append] at this
      have e : (dch k).size = 1 := rfl
      omega
def bM : ByteArray := ⟨#[109]⟩
def bM0 : ByteArray := ⟨#[109, 48]⟩
def mtext (k : Int) : ByteArray := if k ≤ 0 then bM0 else bM ++ figs k.toNat ⟨#[]⟩

theorem dch_eq (K : Nat) : (⟨#[UInt8.ofNat (48 + (K : Int) % 10).toNat]⟩ : ByteArray) = dch K := by
  have : (48 + (K : Int) % 10).toNat = 48 + K % 10 := by omega
  rw [this]; rfl
theorem mtext_size {k : Int} (h : k ≤ 4611686018427387904) : (mtext k).size ≤ maxLen := by
  unfold mtext maxLen
  split
  · show 2 ≤ _; omega
  · rw [ByteArray.size_append]
    have := figs_size k.toNat ⟨#[]⟩
    have e1 : bM.size = 1 := rfl
    have e2 : (⟨#[]⟩ : ByteArray).size = 0 := rfl
    omega
theorem size_app (a b : ByteArray) : (a ++ b).size = a.size + b.size := ByteArray.size_append

set_option maxHeartbeats 2000000 in
theorem markText_n (w : World) (k : Int) (hk : k ≤ 4611686018427387904) :
    Calls Try.prog 98 #[I k] w fun e w' => e = .returned (.string (mtext k)) ∧ St w w' [] := by
  refine enter1 Try.func98 rfl Try.ntmps98 (by decide) ?_
  refine wp_seq ?_
  refine sx_region ?_
  refine sx rfl (stp_assign (v := .string (⟨#[]⟩ : ByteArray)) rfl ?_)
  refine sx_nil ?_
  refine wp_seq ?_
  refine wp_seq ?_
  refine sx_region ?_
  refine sx rfl (stp_move (v := I k) rfl ?_)
  refine sx rfl (stp_leq rfl rfl ?_)
  refine sx_nil ?_
  refine sx_if rfl (fun h1 => ?_) (fun h1 => ?_)
  · skip
    have h1p := of_decide_eq_true h1
    refine wp_seq ?_
    refine sx_region ?_
    refine sx rfl (stp_assign (v := .string (⟨#[109, 48]⟩ : ByteArray)) rfl ?_)
    refine sx_nil ?_
    refine wp_ret ?_; repeat (first | refine then_ret ?_ | refine blk_ret ?_)
    refine ret1 Try.results98 rfl ?_
    exact ⟨congrArg (fun z => Ending.returned (.string z)) (by unfold mtext; rw [if_pos (by omega)]; rfl), (St.start w).bare⟩
  · skip
    have h1p := of_decide_eq_false h1
    refine wp_skip ?_
    refine wp_seq ?_
    refine sx_region ?_
    refine sx rfl (stp_assign (v := .string (⟨#[]⟩ : ByteArray)) rfl ?_)
    refine sx_nil ?_
    refine wp_seq ?_
    refine wp_block ?_
    refine sx_loop (fun (m : Nat) (f : Nat → Value) (W : World) => ∃ (K : Nat) (out : ByteArray), figs K out = figs k.toNat ⟨#[]⟩ ∧ out.size + K ≤ k.toNat ∧ m = 2 * K ∧ f 0 = I (K : Int) ∧ f 3 = .string out ∧ St w W ([])) (2 * k.toNat) ?_ ?_
    · exact ⟨k.toNat, ⟨#[]⟩, rfl, (by show 0 + _ ≤ _; omega), rfl, (Eq.trans (show _ = I k from rfl) (show I k = I ((k.toNat : Nat) : Int) from congrArg I (by omega))), rfl, (St.start w)⟩
    intro m2 f3 W4 hJ5
    obtain ⟨K, out, hfig, hsz, rfl, hs7_0, hs7_3, st6⟩ := hJ5
    refine wp_seq ?_
    refine wp_seq ?_
    refine sx_region ?_
    refine sx rfl (stp_move (v := I (K : Int)) hs7_0 ?_)
    refine sx rfl (stp_gtr rfl rfl ?_)
    refine sx_nil ?_
    refine sx_if rfl (fun h8 => ?_) (fun h8 => ?_)
    · skip
      have h8p := of_decide_eq_true h8
      refine wp_skip ?_
      refine wp_block ?_
      refine wp_seq ?_
      refine sx_region ?_
      refine sx rfl (stp_move (v := I (K : Int)) hs7_0 ?_)
      refine sx rfl (stp_rem rfl rfl (by omega) (by omega) ?_)
      refine sx rfl (stp_add rfl rfl (by (simp only [I64]; omega)) ?_)
      refine sx rfl (stp_byte (by kernel_rfl) Try.underlying5 rfl (by omega) ?_)
      refine sx rfl (stp_buildSlice (cs := [.int .u8 (48 + ((K : Int) % 10))]) (e := 5) (pcons (v := .int .u8 (48 + ((K : Int) % 10))) rfl pnil) (run_buildSlice1 ap_uint8S _ _ rfl rfl (by decide)) st6 ?_); intro b9 W10 hb11 st12
      refine sx rfl (stp_str1 Try.underlying161 Try.underlying5 Try.underlying9 rfl (st12.get 0 rfl) (by omega) ?_)
      refine sx rfl (stp_move (v := .string out) hs7_3 ?_)
      refine sx rfl (stp_sadd rfl rfl (by show 1 + out.size ≤ _; omega) ?_)
      refine sx rfl (stp_assign (v := .string ((⟨#[UInt8.ofNat (48 + ((K : Int) % 10)).toNat]⟩ : ByteArray) ++ out)) rfl ?_)
      refine sx_nil ?_
      refine sx_region ?_
      refine sx rfl (stp_move (v := I (K : Int)) hs7_0 ?_)
      refine sx rfl (stp_quo rfl rfl (by omega) (by omega) ?_)
      refine sx rfl (stp_assign (v := I ((K : Int) / 10)) rfl ?_)
      refine sx_nil ?_
      have st14 := st12.d0
      exact ⟨_, 2 * (K / 10), (by omega), rfl, K / 10, (dch K ++ out), (by rw [← figs_s (by omega)]; exact hfig), (by rw [size_app]; show 1 + _ + _ ≤ _; omega), rfl, (Eq.trans (show _ = I ((K : Int) / 10) from rfl) (show _ = I ((K / 10 : Nat) : Int) from congrArg I (by omega))), (Eq.trans (show _ = (.string ((⟨#[UInt8.ofNat (48 + ((K : Int) % 10)).toNat]⟩ : ByteArray) ++ out) : Value) from rfl) (show _ = Value.string (dch K ++ out) from by rw [dch_eq])), st14⟩
    · skip
      have h8p := of_decide_eq_false h8
      refine wp_exit ?_
      refine wp_seq ?_
      refine sx_region ?_
      refine sx rfl (stp_move (v := .string out) hs7_3 ?_)
      refine sx rfl (stp_sadd rfl rfl (by show 1 + out.size ≤ _; omega) ?_)
      refine sx rfl (stp_assign (v := .string ((⟨#[109]⟩ : ByteArray) ++ out)) rfl ?_)
      refine sx_nil ?_
      refine wp_ret ?_; repeat (first | refine then_ret ?_ | refine blk_ret ?_)
      refine ret1 Try.results98 rfl ?_
      obtain rfl : K = 0 := by omega
      rw [figs_0] at hfig
      exact ⟨congrArg (fun z => Ending.returned (.string z)) (by unfold mtext; rw [if_neg (by omega), ← hfig]; rfl), st6.bare⟩
end Go.Proofs.Ytpkfgalpjaoebaa
