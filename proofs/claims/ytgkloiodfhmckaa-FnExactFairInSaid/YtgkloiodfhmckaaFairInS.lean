/-
  FairIn, of the reference.
-/
import Derived.Test.YtgkloiodfhmckaaToInts
namespace Go.Proofs.Ytgkloiodfhmckaa
set_option linter.unusedSimpArgs false
set_option linter.unusedVariables false
open Go.RowKit

/-- Whose turn a pick is. -/
def pk (p m : Int) : Int := (if 0 < p then p else 0) % m
theorem pk_bd (p m : Int) (h : 1 ≤ m) : 0 ≤ pk p m ∧ pk p m < m := by
  unfold pk
  exact ⟨Int.emod_nonneg _ (by omega), Int.emod_lt_of_pos _ (by omega)⟩
/-- Among the picks i .. k-1 it is w's turn. -/
def met (ps : List Int) (m : Int) (i k w : Nat) : Prop := ∃ j, ∃ h : j < ps.length, i ≤ j ∧ j < k ∧ pk ps[j] m = w
theorem met_step {ps : List Int} {m : Int} {i k w : Nat} (hk : k < ps.length) (hi : i ≤ k) : met ps m i (k + 1) w ↔ (met ps m i k w ∨ pk ps[k] m = w) := by
  constructor
  · rintro ⟨j, hj, h1, h2, h3⟩
    by_cases e : j = k
    · subst e; exact .inr h3
    · exact .inl ⟨j, hj, h1, by omega, h3⟩
  · rintro (⟨j, hj, h1, h2, h3⟩ | h)
    · exact ⟨j, hj, h1, by omega, h3⟩
    · exact ⟨k, hk, hi, by omega, h⟩
theorem met_zero {ps : List Int} {m : Int} {i w : Nat} : ¬ met ps m i i w := by
  rintro ⟨j, _, h1, h2, _⟩; omega
/-- Whether all have a turn among the picks from i on. -/
def win (ps : List Int) (m : Int) (i b : Nat) : Prop := ∀ w : Nat, (w : Int) < m → met ps m i (i + b) w
def fair (ps : List Int) (m b : Int) : Prop := (1 ≤ m ∧ m ≤ 8) ∧ (1 ≤ b ∧ b ≤ 600) ∧ ps.length ≤ 600 ∧ ∀ i : Nat, i + b.toNat ≤ ps.length → win ps m i b.toNat

theorem met_set {ps : List Int} {m : Int} {n k s M b : Nat} {w : World} (h : ∀ q, q < M → ∃ f : Bool, w.cell? ⟨b, q, none⟩ = some (.bool f) ∧ (f = true ↔ met ps m n k q)) (hk : k < ps.length) (hn : n ≤ k) (hs : s < M) (hp : pk ps[k] m = s) :
    ∀ q, q < M → ∃ f : Bool, (w.setCell ⟨b, s, none⟩ (.bool true)).cell? ⟨b, q, none⟩ = some (.bool f) ∧ (f = true ↔ met ps m n (k + 1) q) := by
  intro q hq
  obtain ⟨f, hf, hi⟩ := h q hq
  by_cases e : s = q
  · subst e
    exact ⟨true, World.cell?_setCell_same _ _ _ hf, by simp only [true_iff]; exact (met_step hk hn).2 (.inr hp)⟩
  · refine ⟨f, ?_, ?_⟩
    · rw [World.cell?_setCell_other _ _ _ _ (fun h => e (by injection h))]; exact hf
    · rw [met_step hk hn, hi]
      constructor
      · exact .inl
      · rintro (h | h)
        · exact h
        · exact absurd (by rw [hp] at h; exact_mod_cast h) e
theorem info_bool : (Try.prog.info? 4).map (fun i => (i.zero, i.size, i.bytes)) = some (some (.bool false), 1, 1) := by kernel_rfl

set_option maxHeartbeats 1000000 in
theorem fairInS_any (v : Value) (ps : List Int) (fp : List Nat) (m b : Int) (w : World) (h : Sl w v ps fp) : Calls Try.prog 14 #[v, .int .i64 m, .int .i64 b] w fun e w' => e = .returned (.bool (pB (fair ps m b))) ∧ Below w.heap.size w w' := by
  obtain ⟨ao, ca, rfl, ha1, ha2, ha3⟩ := h.openk 1 rfl
  have HA3 := Lib.hid ha3
  clear ha3 h
  by_cases h1 : 1 ≤ m ∧ m ≤ 8
  · have k1 := inB_t h1
    by_cases h2 : 1 ≤ b ∧ b ≤ 600
    · have k2 := inB_t h2
      by_cases h3 : ps.length ≤ 600
      · obtain ⟨M, rfl⟩ := Int.eq_ofNat_of_zero_le (by omega : 0 ≤ m)
        obtain ⟨Bn, rfl⟩ := Int.eq_ofNat_of_zero_le (by omega : 0 ≤ b)
        obtain ⟨i0, hi, hz0, hz1, hz2⟩ := info_parts info_bool
        have hmk := fun W => run_make (P := Try.prog) W 71 4 i0 _ Try.underlying71 hi hz0 .i64 .i64 M M (by omega) (by omega) (by rw [hz2]; omega) (by omega)
        have K12 := Lib.hid (And.intro h1 (And.intro h2 h3))
        obtain ⟨h1a, h1b⟩ := h1
        obtain ⟨h2a, h2b⟩ := h2
        go_enter Try.func14, Try.ntmps14
        go_wp2_with (go_at_call 37; refine (l01In_any _ _ _ _).mono ?_; rintro e w' ⟨rfl, rfl⟩)
        go_loopw [7] (fun i wr => ∃ n : Nat, n ≤ ps.length ∧ i = .int .i64 n ∧ Below w.heap.size w wr ∧ ∀ i', i' < n → win ps M i' Bn) (fun i _ => ps.length - (intOf i).toNat)
        case atStart => exact ⟨0, Nat.zero_le _, rfl, Below.refl _ _, fun _ h => by omega⟩
        case round =>
          obtain ⟨n, hn, rfl, hbw, hu⟩ := hrel
          have HU := Lib.hid hu
          clear hu
          by_cases hlt : n + Bn ≤ ps.length
          · obtain ⟨b1, o1, rfl, hb1, _, he1⟩ := HA3.out (by omega)
            have HE := Lib.hid he1
            clear he1
            go_wp2_with fail
            have hrow : Row (wr.alloc (.cells (madeCells #[Value.bool false] M) 4)) wr.heap.size 4 M := Row.made wr _ _ _
            have hcells : ∀ q, q < M → (wr.alloc (.cells (madeCells #[Value.bool false] M) 4)).cell? ⟨wr.heap.size, q, none⟩ = some (.bool false) := by
              intro q hq
              rw [World.cell?_alloc_at _ _ _ _ rfl]
              simp [madeCells, hq, Nat.mod_one]
            have hbo : Below wr.heap.size wr (wr.alloc (.cells (madeCells #[Value.bool false] M) 4)) := below_alloc (Below.refl _ _)
            have HR := Lib.hid hrow
            have HC := Lib.hid hcells
            clear hrow hcells
            obtain ⟨wa, rfl⟩ : ∃ wa : World, wa = wr := ⟨_, rfl⟩
            go_loopw [9] (fun j wi => ∃ k : Nat, n ≤ k ∧ k ≤ n + Bn ∧ j = .int .i64 k ∧ Below wa.heap.size wa wi ∧ Row wi wa.heap.size 4 M ∧ ∀ q, q < M → ∃ f : Bool, wi.cell? ⟨wa.heap.size, q, none⟩ = some (.bool f) ∧ (f = true ↔ met ps M n k q)) (fun j _ => n + Bn - (intOf j).toNat)
            case atStart => exact ⟨n, Nat.le_refl _, by omega, rfl, hbo, HR.out, fun q hq => ⟨false, HC.out q hq, by simpa using met_zero⟩⟩
            case round =>
              obtain ⟨k, hnk, hk, rfl, hbi, hRi, hci⟩ := hrel
              have HCI := Lib.hid hci
              have hrl := hRi.lt
              have HRI := Lib.hid hRi
              clear hci hRi HR HC
              by_cases hlk : k < n + Bn
              · have hkl : k < ps.length := by omega
                obtain ⟨_, _, hr1, ⟨rfl, _, hok⟩, _⟩ := HE.out k hkl
                have c0 := (rangeAt_below hr1 (hbw.trans (hbi.mono hbw.size))) 0 _ rfl
                simp only [Nat.add_zero, Nat.mul_one] at c0
                clear hr1
                obtain ⟨p, hP⟩ : ∃ p, ps[k] = p := ⟨_, rfl⟩
                rw [hP] at c0
                have HP := Lib.hid hP
                clear hP
                have hpb := pk_bd p M (by omega)
                have hk1 : (k : Int) < (n : Int) + Bn := by omega
                have hk2 : (k : Int) < ps.length := by omega
                by_cases hp : 0 < p
                · obtain ⟨s, hs⟩ : ∃ s : Nat, p % (M : Int) = s := Int.eq_ofNat_of_zero_le (Int.emod_nonneg _ (by omega))
                  have hsM : s < M := by have := Int.emod_lt_of_pos p (b := M) (by omega); omega
                  have hpk : pk p M = s := by rw [pk, if_pos hp, hs]
                  have HPK := Lib.hid hpk
                  clear hpk hpb
                  obtain ⟨f, hf, _⟩ := HCI.out s hsM
                  have hfr := (HRI.out.there s 1 (by omega) 0 (by omega)).2
                  simp only [Nat.add_zero] at hfr
                  have hsM' : (s : Int) < M := by omega
                  go_wp2_with fail
                  go_roundw
                  case rel => exact ⟨k + 1, by omega, by omega, by go_num, below_setCell hbi (Nat.le_refl _), HRI.out.setCell _ _, met_set HCI.out hkl hnk hsM (by rw [HP.out]; exact HPK.out)⟩
                  case measure => simp [intOf]; omega
                · have hpk : pk p M = (0 : Nat) := by rw [pk, if_neg hp]; simp
                  have HPK := Lib.hid hpk
                  clear hpk hpb
                  obtain ⟨f, hf, _⟩ := HCI.out 0 (by omega)
                  have hfr := (HRI.out.there 0 1 (by omega) 0 (by omega)).2
                  simp only [Nat.add_zero] at hfr
                  have hM0 : (0 : Int) < M := by omega
                  go_wp2_with fail
                  go_roundw
                  case rel => exact ⟨k + 1, by omega, by omega, by go_num, below_setCell hbi (Nat.le_refl _), HRI.out.setCell _ _, met_set HCI.out hkl hnk (by omega) (by rw [HP.out]; exact HPK.out)⟩
                  case measure => simp [intOf]; omega
              · obtain rfl : k = n + Bn := by omega
                have hk1 : ¬ (((n + Bn : Nat) : Int) < (n : Int) + Bn) := by omega
                go_wp2_with fail
                have hbw2 : Below w.heap.size w wr := hbw.trans (hbi.mono hbw.size)
                go_loop [10] (fun x => ∃ q : Nat, q ≤ M ∧ x = .int .i64 q ∧ ∀ q', q' < q → met ps M n (n + Bn) q') (fun x => M - (intOf x).toNat)
                case atStart => exact ⟨0, Nat.zero_le _, rfl, fun _ h => by omega⟩
                case round =>
                  obtain ⟨q, hq, rfl, hmq⟩ := hrel
                  have HMQ := Lib.hid hmq
                  clear hmq
                  by_cases hqM : q < M
                  · obtain ⟨f, hf, hfi⟩ := HCI.out q hqM
                    have HF := Lib.hid hfi
                    clear hfi
                    have hqM' : (q : Int) < M := by omega
                    cases f with
                    | true =>
                      go_wp2_with fail
                      go_round
                      case rel =>
                        refine ⟨q + 1, by omega, by go_num, fun q' h' => ?_⟩
                        by_cases e : q' = q
                        · subst e; exact HF.out.1 rfl
                        · exact HMQ.out q' (by omega)
                      case measure => simp [intOf]; omega
                    | false =>
                      go_wp2_with fail
                      go_ret
                      refine ⟨ret_f (fun h => ?_), hbw2⟩
                      have := h.2.2.2 n (by simp; omega) q (by omega)
                      simp only [Int.toNat_natCast] at this
                      exact absurd (HF.out.2 this) (by simp)
                  · go_wp2_with fail
                    go_roundw
                    case rel =>
                      refine ⟨n + 1, by omega, by go_num, hbw2, fun i' h' => ?_⟩
                      by_cases e : i' = n
                      · subst e; exact fun q hq => HMQ.out q (by omega)
                      · exact HU.out i' (by omega)
                    case measure => simp [intOf]; omega
          · go_wp2_with fail
            go_ret
            exact ⟨ret_t ⟨K12.out.1, K12.out.2.1, K12.out.2.2, fun i hi => HU.out i (by simp at hi; omega)⟩, hbw⟩
      · go_enter Try.func14, Try.ntmps14
        go_wp2_with (go_at_call 37; refine (l01In_any _ _ _ _).mono ?_; rintro e w' ⟨rfl, rfl⟩)
        go_ret
        exact ⟨ret_f (fun h => h3 h.2.2.1), Below.refl _ _⟩
    · have k2 := inB_f h2
      go_enter Try.func14, Try.ntmps14
      go_wp2_with (go_at_call 37; refine (l01In_any _ _ _ _).mono ?_; rintro e w' ⟨rfl, rfl⟩)
      go_ret
      exact ⟨ret_f (fun h => h2 h.2.1), Below.refl _ _⟩
  · have k1 := inB_f h1
    go_enter Try.func14, Try.ntmps14
    go_wp2_with (go_at_call 37; refine (l01In_any _ _ _ _).mono ?_; rintro e w' ⟨rfl, rfl⟩)
    go_ret
    exact ⟨ret_f (fun h => h1 h.1), Below.refl _ _⟩
end Go.Proofs.Ytgkloiodfhmckaa
