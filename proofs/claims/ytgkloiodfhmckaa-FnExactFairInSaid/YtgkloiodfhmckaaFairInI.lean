/-
  FairIn, of the program.
-/
import Derived.Test.YtgkloiodfhmckaaFairInS
import Derived.Lib.QuoteBits
namespace Go.Proofs.Ytgkloiodfhmckaa
set_option linter.unusedSimpArgs false
set_option linter.unusedVariables false
open Go.RowKit

theorem or_nat (a b : Nat) (ha : a < 2 ^ 9) (hb : b < 2 ^ 9) : bits .or .i64 (a : Int) (b : Int) = ((a ||| b : Nat) : Int) := by
  have h := Nat.or_lt_two_pow ha hb
  show IntKind.i64.wrap ((BitVec.ofInt 64 (a : Int) ||| BitVec.ofInt 64 (b : Int)).toNat : Int) = _
  rw [BitVec.toNat_or, ofInt_u64 a (by omega), ofInt_u64 b (by omega)]
  exact Lib.wrap_i64_small _ (by omega)
/-- The word's bits are the agents met. -/
def word (ps : List Int) (m : Int) (M i k mt : Nat) : Prop := mt < 2 ^ M ∧ ∀ q, mt.testBit q = true ↔ (q < M ∧ met ps m i k q)
theorem word_zero (ps : List Int) (m : Int) (M i : Nat) : word ps m M i i 0 := by
  refine ⟨Nat.two_pow_pos _, fun q => ?_⟩
  simp only [Nat.zero_testBit, Bool.false_eq_true, false_iff]
  exact fun h => met_zero h.2
theorem word_set {ps : List Int} {m : Int} {M i k s mt : Nat} (h : word ps m M i k mt) (hk : k < ps.length) (hi : i ≤ k) (hs : s < M) (hp : pk ps[k] m = s) : word ps m M i (k + 1) (mt ||| 2 ^ s) := by
  refine ⟨Nat.or_lt_two_pow h.1 (Nat.pow_lt_pow_right (by omega) hs), fun q => ?_⟩
  rw [Nat.testBit_or, Bool.or_eq_true, h.2 q, Nat.testBit_two_pow, decide_eq_true_eq, met_step hk hi, hp]
  constructor
  · rintro (⟨h1, h2⟩ | rfl)
    · exact ⟨h1, .inl h2⟩
    · exact ⟨hs, .inr rfl⟩
  · rintro ⟨h1, h2 | h2⟩
    · exact .inl ⟨h1, h2⟩
    · exact .inr (by exact_mod_cast h2)
theorem word_win {ps : List Int} {M i b mt : Nat} (h : word ps M M i (i + b) mt) : mt = 2 ^ M - 1 ↔ win ps M i b := by
  constructor
  · rintro rfl w hw
    have hw' : w < M := by omega
    have := (h.2 w).1 (by rw [Nat.testBit_two_pow_sub_one]; simpa using hw')
    exact this.2
  · intro hw
    apply Nat.eq_of_testBit_eq
    intro q
    rw [Nat.testBit_two_pow_sub_one, Bool.eq_iff_iff, h.2 q, decide_eq_true_eq]
    exact ⟨fun h => h.1, fun h => ⟨h, hw q (by omega)⟩⟩
theorem pow_small {s : Nat} (h : s ≤ 8) : 2 ^ s ≤ 256 := by
  have := Nat.pow_le_pow_right (n := 2) (by omega) h
  omega
theorem wrap_pow_fin : ∀ s : Fin 9, wrap64 ((2 : Int) ^ s.val) = ((2 ^ s.val : Nat) : Int) := by decide +kernel
theorem wrap_pow {s : Nat} (h : s ≤ 8) : wrap64 ((2 : Int) ^ s) = ((2 ^ s : Nat) : Int) := wrap_pow_fin ⟨s, by omega⟩
theorem wrap_pred_fin : ∀ s : Fin 9, wrap64 (wrap64 ((2 : Int) ^ s.val) - 1) = ((2 ^ s.val - 1 : Nat) : Int) := by decide +kernel
theorem wrap_pred {s : Nat} (h : s ≤ 8) : wrap64 (wrap64 ((2 : Int) ^ s) - 1) = ((2 ^ s - 1 : Nat) : Int) := wrap_pred_fin ⟨s, by omega⟩
theorem or_word {mt s M : Nat} (hs : s < M) (hM : M ≤ 8) (h : mt < 2 ^ M) : bits .or .i64 (mt : Int) (wrap64 ((2 : Int) ^ s)) = ((mt ||| 2 ^ s : Nat) : Int) := by
  rw [wrap_pow (by omega)]
  have h1 := pow_small hM
  have h2 := pow_small (s := s) (by omega)
  exact or_nat _ _ (by omega) (by omega)

theorem or_word0 {mt M : Nat} (hM : M ≤ 8) (h : mt < 2 ^ M) : bits .or .i64 (mt : Int) 1 = ((mt ||| 2 ^ 0 : Nat) : Int) := by
  have h1 := pow_small hM
  exact or_nat mt 1 (by omega) (by omega)

set_option maxHeartbeats 1000000 in
theorem fairInI_any (v : Value) (ps : List Int) (fp : List Nat) (m b : Int) (w : World) (h : Sl w v ps fp) : Calls Try.prog 16 #[v, .int .i64 m, .int .i64 b] w fun e w' => e = .returned (.bool (pB (fair ps m b))) ∧ Below w.heap.size w w' := by
  obtain ⟨ao, ca, rfl, ha1, ha2, ha3⟩ := h.openk 1 rfl
  have HA3 := Lib.hid ha3
  clear ha3 h
  by_cases h1 : 1 ≤ m ∧ m ≤ 8
  · have k1 := inB_t h1
    by_cases h2 : 1 ≤ b ∧ b ≤ 600
    · have k2 := inB_t h2
      by_cases h3 : ps.length ≤ 600
      · obtain ⟨M, rfl⟩ := Int.eq_ofNat_of_zero_le (by omega : 0 ≤ m)
        obtain ⟨Bn, rfl⟩ := Int.eq_ofNat_of_zero_le (by omega : 0 ≤ b)
        have K12 := Lib.hid (And.intro h1 (And.intro h2 h3))
        obtain ⟨h1a, h1b⟩ := h1
        obtain ⟨h2a, h2b⟩ := h2
        go_enter Try.func16, Try.ntmps16
        go_wp2_with (go_at_call 38; refine (within_any _ _ _ _).mono ?_; rintro e w' ⟨rfl, rfl⟩)
        go_loopw [7] (fun i wr => ∃ n : Nat, n ≤ ps.length ∧ i = .int .i64 n ∧ wr = w ∧ ∀ i', i' < n → win ps M i' Bn) (fun i _ => ps.length - (intOf i).toNat)
        case atStart => exact ⟨0, Nat.zero_le _, rfl, rfl, fun _ h => by omega⟩
        case round =>
          obtain ⟨n, hn, rfl, rfl, hu⟩ := hrel
          have HU := Lib.hid hu
          clear hu
          by_cases hlt : n + Bn ≤ ps.length
          · obtain ⟨b1, o1, rfl, hb1, _, he1⟩ := HA3.out (by omega)
            have HE := Lib.hid he1
            clear he1
            go_wp2_with fail
            go_loopw [8, 39] (fun t x wi => ∃ k mt : Nat, k ≤ Bn ∧ x = .int .i64 k ∧ t = .int .i64 mt ∧ wi = wr ∧ word ps M M n (n + k) mt) (fun _ x _ => Bn - (intOf x).toNat)
            case atStart => exact ⟨0, 0, Nat.zero_le _, rfl, rfl, rfl, word_zero _ _ _ _⟩
            case round =>
              obtain ⟨k, mt, hk, rfl, rfl, rfl, hw⟩ := hrel
              have HW := Lib.hid hw
              clear hw
              by_cases hlk : k < Bn
              · have hkl : n + k < ps.length := by omega
                obtain ⟨_, _, hr1, ⟨rfl, _, hok⟩, _⟩ := HE.out (n + k) hkl
                have c0 := hr1 0 _ rfl
                simp only [Nat.add_zero, Nat.mul_one, ← Nat.add_assoc] at c0
                clear hr1
                obtain ⟨p, hP⟩ : ∃ p, ps[n + k] = p := ⟨_, rfl⟩
                rw [hP] at c0
                have HP := Lib.hid hP
                clear hP
                have hk1 : (k : Int) < Bn := by omega
                by_cases hp : 0 < p
                · obtain ⟨s, hs⟩ : ∃ s : Nat, p % (M : Int) = s := Int.eq_ofNat_of_zero_le (Int.emod_nonneg _ (by omega))
                  have hsM : s < M := by have := Int.emod_lt_of_pos p (b := M) (by omega); omega
                  have hpk : pk p M = s := by rw [pk, if_pos hp, hs]
                  have HPK := Lib.hid hpk
                  clear hpk
                  have hww := or_word hsM (by omega) HW.out.1
                  go_wp2_with fail
                  go_round
                  case rel =>
                    refine ⟨k + 1, mt ||| 2 ^ s, by omega, by go_num, rfl, trivial, ?_⟩
                    have := word_set HW.out hkl (by omega) hsM (by rw [HP.out]; exact HPK.out)
                    rwa [Nat.add_assoc] at this
                  case measure => simp [intOf]; omega
                · have hpk : pk p M = (0 : Nat) := by rw [pk, if_neg hp]; simp
                  have HPK := Lib.hid hpk
                  clear hpk
                  have HWW := Lib.hid (or_word0 (by omega : M ≤ 8) HW.out.1)
                  have hnext : word ps M M n (n + (k + 1)) (mt ||| 2 ^ 0) := by
                    have := word_set HW.out hkl (by omega) (by omega : 0 < M) (by rw [HP.out]; exact HPK.out)
                    rwa [Nat.add_assoc] at this
                  have HN := Lib.hid hnext
                  clear hnext
                  have h0m : (0 : Int) % (M : Int) = 0 := by simp
                  by_cases hz : p = 0
                  · subst hz
                    go_wp2_with fail
                    go_round
                    case rel => exact ⟨k + 1, mt ||| 2 ^ 0, by omega, by go_num, congrArg (Value.int .i64) HWW.out, trivial, HN.out⟩
                    case measure => simp [intOf]; omega
                  · have hpn : p < 0 := by omega
                    go_wp2_with fail
                    go_round
                    case rel => exact ⟨k + 1, mt ||| 2 ^ 0, by omega, by go_num, congrArg (Value.int .i64) HWW.out, trivial, HN.out⟩
                    case measure => simp [intOf]; omega
              · obtain rfl : k = Bn := by omega
                have HWIN := Lib.hid (word_win HW.out)
                have hwp := wrap_pred (s := M) (by omega)
                by_cases he : mt = 2 ^ M - 1
                · have he' : ((mt : Int) != wrap64 (wrap64 (2 ^ M) - 1)) = false := by rw [hwp, he]; simp
                  have HE2 := Lib.hid he
                  clear he hwp
                  go_wp2_with fail
                  go_roundw
                  case rel =>
                    refine ⟨n + 1, by omega, by go_num, trivial, fun i' h' => ?_⟩
                    by_cases e : i' = n
                    · subst e; exact HWIN.out.1 HE2.out
                    · exact HU.out i' (by omega)
                  case measure => simp [intOf]; omega
                · have he' : ((mt : Int) != wrap64 (wrap64 (2 ^ M) - 1)) = true := by rw [hwp]; simp only [bne_iff_ne, ne_eq]; exact fun h => he (by exact_mod_cast h)
                  have HE2 := Lib.hid he
                  clear he hwp
                  go_wp2_with fail
                  go_ret
                  refine ⟨ret_f (fun h => ?_), Below.refl _ _⟩
                  have := h.2.2.2 n (by simp; omega)
                  simp only [Int.toNat_natCast] at this
                  exact HE2.out (HWIN.out.2 this)
          · go_wp2_with fail
            go_ret
            exact ⟨ret_t ⟨K12.out.1, K12.out.2.1, K12.out.2.2, fun i hi => HU.out i (by simp at hi; omega)⟩, Below.refl _ _⟩
      · go_enter Try.func16, Try.ntmps16
        go_wp2_with (go_at_call 38; refine (within_any _ _ _ _).mono ?_; rintro e w' ⟨rfl, rfl⟩)
        go_ret
        exact ⟨ret_f (fun h => h3 h.2.2.1), Below.refl _ _⟩
    · have k2 := inB_f h2
      go_enter Try.func16, Try.ntmps16
      go_wp2_with (go_at_call 38; refine (within_any _ _ _ _).mono ?_; rintro e w' ⟨rfl, rfl⟩)
      go_ret
      exact ⟨ret_f (fun h => h2 h.2.1), Below.refl _ _⟩
  · have k1 := inB_f h1
    go_enter Try.func16, Try.ntmps16
    go_wp2_with (go_at_call 38; refine (within_any _ _ _ _).mono ?_; rintro e w' ⟨rfl, rfl⟩)
    go_ret
    exact ⟨ret_f (fun h => h1 h.1), Below.refl _ _⟩
end Go.Proofs.Ytgkloiodfhmckaa
