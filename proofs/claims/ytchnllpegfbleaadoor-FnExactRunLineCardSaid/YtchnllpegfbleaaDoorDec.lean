/-
  Numbers in figures: of the program and of the reference. (Printed by a program of this project's.)
-/
import Derived.Test.YtchnllpegfbleaaDoorDecT
import Derived.Test.YtchnllpegfbleaaDoorLeft
import Derived.Shelf.Strconv.Itoa3
namespace Go.Proofs.YtchnllpegfbleaaDoor
set_option linter.unusedSimpArgs false
set_option linter.unusedVariables false
set_option maxRecDepth 100000
open Go.RowKit
open Go.Lib
def laysM171_ren : Go.Shelf.Ren := ⟨fun | 171 => 52 | 243 => 68 | 246 => 76 | 283 => 87 | 284 => 88 | 285 => 89 | 286 => 90 | 129 => 100 | 317 => 99 | 318 => 101 | 319 => 102 | 320 => 103 | 337 => 107 | 338 => 108 | n => n, fun | 3 => 3 | 9 => 9 | 2 => 2 | 4 => 4 | 171 => 121 | 0 => 0 | 53 => 122 | 37 => 64 | 5 => 5 | 173 => 125 | 212 => 137 | 51 => 127 | 20 => 20 | 213 => 138 | 46 => 119 | 232 => 156 | 233 => 157 | n => n, fun | 17 => 1 | 18 => 6 | 19 => 7 | n => n⟩
theorem laysM171 : Go.Proofs.LaysM.n171 Tryd.prog laysM171_ren where
  mixed := by kernel_rfl
  f129 := Tryd.func100.trans (congrArg some (by kernel_rfl))
  f171 := Tryd.func52.trans (congrArg some (by kernel_rfl))
  f243 := Tryd.func68.trans (congrArg some (by kernel_rfl))
  f246 := Tryd.func76.trans (congrArg some (by kernel_rfl))
  f283 := Tryd.func87.trans (congrArg some (by kernel_rfl))
  f284 := Tryd.func88.trans (congrArg some (by kernel_rfl))
  f285 := Tryd.func89.trans (congrArg some (by kernel_rfl))
  f286 := Tryd.func90.trans (congrArg some (by kernel_rfl))
  f317 := Tryd.func99.trans (congrArg some (by kernel_rfl))
  f318 := Tryd.func101.trans (congrArg some (by kernel_rfl))
  f319 := Tryd.func102.trans (congrArg some (by kernel_rfl))
  f320 := Tryd.func103.trans (congrArg some (by kernel_rfl))
  f337 := Tryd.func107.trans (congrArg some (by kernel_rfl))
  f338 := Tryd.func108.trans (congrArg some (by kernel_rfl))
  t0 := Tryd.underlying0
  a0 := Tryd.isAgg0
  z0 := Tryd.sizeOf0
  v0 := Tryd.zeroValue0
  t2 := Tryd.underlying2
  a2 := Tryd.isAgg2
  z2 := Tryd.sizeOf2
  v2 := Tryd.zeroValue2
  t3 := Tryd.underlying3
  a3 := Tryd.isAgg3
  z3 := Tryd.sizeOf3
  v3 := Tryd.zeroValue3
  t4 := Tryd.underlying4
  a4 := Tryd.isAgg4
  z4 := Tryd.sizeOf4
  v4 := Tryd.zeroValue4
  t5 := Tryd.underlying5
  a5 := Tryd.isAgg5
  z5 := Tryd.sizeOf5
  v5 := Tryd.zeroValue5
  t9 := Tryd.underlying9
  a9 := Tryd.isAgg9
  z9 := Tryd.sizeOf9
  v9 := Tryd.zeroValue9
  t20 := Tryd.underlying20
  a20 := Tryd.isAgg20
  z20 := Tryd.sizeOf20
  v20 := Tryd.zeroValue20
  t37 := Tryd.underlying64
  a37 := Tryd.isAgg64
  z37 := Tryd.sizeOf64
  v37 := Tryd.zeroValue64
  t46 := Tryd.underlying119
  a46 := Tryd.isAgg119
  z46 := Tryd.sizeOf119
  v46 := Tryd.zeroValue119
  t51 := Tryd.underlying127
  a51 := Tryd.isAgg127
  z51 := Tryd.sizeOf127
  v51 := Tryd.zeroValue127
  t53 := Tryd.underlying122
  a53 := Tryd.isAgg122
  z53 := Tryd.sizeOf122
  v53 := Tryd.zeroValue122
  t171 := Tryd.underlying121
  a171 := Tryd.isAgg121
  z171 := Tryd.sizeOf121
  v171 := Tryd.zeroValue121
  t173 := Tryd.underlying125
  a173 := Tryd.isAgg125
  z173 := Tryd.sizeOf125
  v173 := Tryd.zeroValue125
  t212 := Tryd.underlying137
  a212 := Tryd.isAgg137
  z212 := Tryd.sizeOf137
  v212 := Tryd.zeroValue137
  t213 := Tryd.underlying138
  a213 := Tryd.isAgg138
  z213 := Tryd.sizeOf138
  t232 := Tryd.underlying156
  a232 := Tryd.isAgg156
  z232 := Tryd.sizeOf156
  v232 := Tryd.zeroValue156
  t233 := Tryd.underlying157
  a233 := Tryd.isAgg157
  z233 := Tryd.sizeOf157
  v233 := Tryd.zeroValue157
  g17 := by kernel_rfl
  g18 := by kernel_rfl
  g19 := by kernel_rfl
  i0 := by kernel_rfl
  i2 := by kernel_rfl
  i3 := by kernel_rfl
  i4 := by kernel_rfl
  i5 := by kernel_rfl
  i9 := by kernel_rfl
  i20 := by kernel_rfl
  i37 := by kernel_rfl
  i46 := by kernel_rfl
  i51 := by kernel_rfl
  i53 := by kernel_rfl
  i171 := by kernel_rfl
  i173 := by kernel_rfl
  i212 := by kernel_rfl
  i232 := by kernel_rfl
  i233 := by kernel_rfl
  m17 := by kernel_rfl
  m18 := by kernel_rfl
  m19 := by kernel_rfl


theorem DecimalI0 (w : World) (n : Int) (hn : -9223372036854775808 ≤ n ∧ n ≤ 9223372036854775807) (htab : Lib.TabIs Tryd.prog w "internal/strconv.uint64pow10" .u64 Lib.pow10Tab) : Calls Tryd.prog 52 #[I n] w fun e w' => e = .returned (.string (itoaB n)) ∧ St w w' [] := by
  refine (Any.strconv_Itoa laysM171 n hn.1 hn.2 w htab).mono ?_
  rintro e w' ⟨he, k, os, rfl⟩
  refine ⟨he, St.of_below ⟨rfl, rfl, rfl, ?_, fun j hj => ?_⟩⟩
  · simp [Go.Sort.grow, World.drewN]
  · exact Go.Sort.heap_grow_old _ _ hj

set_option maxHeartbeats 2000000 in
theorem DecimalI (w : World) (n : Int) (hn : -9223372036854775808 ≤ n ∧ n ≤ 9223372036854775807) (htab : Lib.TabIs Tryd.prog w "internal/strconv.uint64pow10" .u64 Lib.pow10Tab) :
    Calls Tryd.prog 31 #[I n] w fun e w' => e = .returned (.string (itoaB n)) ∧ St w w' [] := by
  refine enter1 Tryd.func31 rfl Tryd.ntmps31 (by decide) ?_
  refine wp_seq ?_
  refine sx_region ?_
  refine sx rfl (stp_assign (v := .string (⟨#[]⟩ : ByteArray)) rfl ?_)
  refine sx_nil ?_
  refine wp_seq ?_
  refine sx_region ?_
  refine sx rfl (stp_move (v := I n) rfl ?_)
  refine sx rfl (stp_call1 Tryd.func52 rfl rfl ((DecimalI0 w n (by omega) (TabIs.below htab (Below.refl _ _))).mono ?_)); rintro _ W1 ⟨rfl, hk2⟩; refine ⟨_, rfl, ?_⟩
  have st3 := St.call (St.start w) hk2
  refine sx rfl (stp_assign (v := .string (itoaB n)) rfl ?_)
  refine sx_nil ?_
  refine wp_ret ?_; repeat (first | refine then_ret ?_ | refine blk_ret ?_)
  refine ret1 Tryd.results31 rfl ?_
  exact ⟨rfl, st3.bare⟩
set_option maxHeartbeats 2000000 in
theorem FigureS (w : World) (n : Int) (hn : 0 ≤ n ∧ n < 10) :
    Calls Tryd.prog 48 #[I n] w fun e w' => e = .returned (.int .u8 (48 + n)) ∧ St w w' [] := by
  refine enter1 Tryd.func48 rfl Tryd.ntmps48 (by decide) ?_
  refine wp_seq ?_
  refine sx_region ?_
  refine sx rfl (stp_assign (v := .int .u8 0) rfl ?_)
  refine sx_nil ?_
  refine wp_seq ?_
  refine wp_seq ?_
  refine sx_region ?_
  refine sx rfl (stp_move (v := I n) rfl ?_)
  refine sx rfl (stp_lss rfl rfl ?_)
  refine sx_nil ?_
  refine sx_if rfl (fun h1 => ?_) (fun h1 => ?_)
  · skip
    have h1p := of_decide_eq_true h1
    refine wp_seq ?_
    refine sx_region ?_
    refine sx rfl (stp_move (v := I n) rfl ?_)
    refine sx rfl (stp_add rfl rfl (by (simp only [I64] at *; omega)) ?_)
    refine sx rfl (stp_byte (by kernel_rfl) Tryd.underlying5 rfl (by omega) ?_)
    refine sx rfl (stp_assign (v := .int .u8 (48 + n)) rfl ?_)
    refine sx_nil ?_
    refine wp_ret ?_; repeat (first | refine then_ret ?_ | refine blk_ret ?_)
    refine ret1 Tryd.results48 rfl ?_
    exact ⟨rfl, (St.start w).bare⟩
  · skip
    have h1p := of_decide_eq_false h1
    omega
set_option maxHeartbeats 2000000 in
theorem DecimalS (w : World) (n : Int) (hn : -9223372036854775808 ≤ n ∧ n ≤ 9223372036854775807) :
    Calls Tryd.prog 24 #[I n] w fun e w' => e = .returned (.string (itoaB n)) ∧ St w w' [] := by
  refine enter1 Tryd.func24 rfl Tryd.ntmps24 (by decide) ?_
  refine wp_seq ?_
  refine sx_region ?_
  refine sx rfl (stp_assign (v := .string (⟨#[]⟩ : ByteArray)) rfl ?_)
  refine sx_nil ?_
  refine wp_seq ?_
  refine wp_seq ?_
  refine sx_region ?_
  refine sx rfl (stp_move (v := I n) rfl ?_)
  refine sx rfl (stp_eql rfl rfl ?_)
  refine sx_nil ?_
  refine sx_if rfl (fun h1 => ?_) (fun h1 => ?_)
  · skip
    have h1p := of_decide_eq_true h1
    refine wp_seq ?_
    refine sx_region ?_
    refine sx rfl (stp_assign (v := .string (⟨#[48]⟩ : ByteArray)) rfl ?_)
    refine sx_nil ?_
    refine wp_ret ?_; repeat (first | refine then_ret ?_ | refine blk_ret ?_)
    refine ret1 Tryd.results24 rfl ?_
    exact ⟨(congrArg (fun z => Ending.returned (.string z)) (by rw [show n = 0 by omega, itoaB_zero])), (St.start w).bare⟩
  · skip
    have h1p := of_decide_eq_false h1
    refine wp_skip ?_
    refine wp_seq ?_
    refine sx_region ?_
    refine sx rfl (stp_move (v := I n) rfl ?_)
    refine sx rfl (stp_lss rfl rfl ?_)
    refine sx rfl (stp_assign (v := .bool (decide (n < 0))) rfl ?_)
    refine sx_nil ?_
    refine wp_seq ?_
    refine sx_region ?_
    refine sx rfl (stp_assign (v := .string (⟨#[]⟩ : ByteArray)) rfl ?_)
    refine sx_nil ?_
    refine wp_seq ?_
    refine wp_block ?_
    refine sx_loop (fun (m : Nat) (f : Nat → Value) (W : World) => ∃ (z : Int) (sl : List UInt8), (-9223372036854775808 ≤ z ∧ z ≤ 9223372036854775807) ∧ preD z ++ sl = decDigits n.natAbs ∧ m = z.natAbs ∧ f 0 = I z ∧ f 3 = .bool (decide (n < 0)) ∧ f 4 = .string (⟨sl.toArray⟩ : ByteArray) ∧ St w W ([])) (n.natAbs) ?_ ?_
    · exact ⟨n, [], hn, (by rw [preD, if_neg (by omega), List.append_nil]), rfl, rfl, rfl, rfl, (St.start w)⟩
    intro m2 f3 W4 hJ5
    obtain ⟨z, sl, hz, hsl, rfl, hs7_0, hs7_3, hs7_4, st6⟩ := hJ5
    have hrng := tmod_rng (a := z) (b := 10) (by omega)
    have hslen := sl_len hsl (by omega)
    have hdec : ¬ z = 0 → (Int.tdiv z 10).natAbs < z.natAbs := fun h0 => by rw [Int.natAbs_tdiv]; exact Nat.div_lt_self (by omega) (by decide)
    refine wp_seq ?_
    refine wp_seq ?_
    refine sx_region ?_
    refine sx rfl (stp_move (v := I z) hs7_0 ?_)
    refine sx rfl (stp_neq rfl rfl ?_)
    refine sx_nil ?_
    refine sx_if rfl (fun h8 => ?_) (fun h8 => ?_)
    · skip
      have h8p := of_decide_eq_false (bnot_t h8)
      refine wp_skip ?_
      refine wp_block ?_
      refine wp_seq ?_
      refine sx_region ?_
      refine sx rfl (stp_move (v := I z) hs7_0 ?_)
      refine sx rfl (stp_remT rfl rfl (by omega) (by omega) ?_)
      refine sx rfl (stp_assign (v := I (Int.tmod z 10)) rfl ?_)
      refine sx_nil ?_
      refine wp_seq ?_
      refine wp_seq ?_
      refine sx_region ?_
      refine sx rfl (stp_move (v := I (Int.tmod z 10)) rfl ?_)
      refine sx rfl (stp_lss rfl rfl ?_)
      refine sx_nil ?_
      refine sx_if rfl (fun h9 => ?_) (fun h9 => ?_)
      · skip
        have h9p := of_decide_eq_true h9
        refine sx_region ?_
        refine sx rfl (stp_move (v := I (Int.tmod z 10)) rfl ?_)
        refine sx rfl (stp_neg rfl (by (simp only [I64] at *; omega)) ?_)
        refine sx rfl (stp_assign (v := I (-(Int.tmod z 10))) rfl ?_)
        refine sx_nil ?_
        refine wp_seq ?_
        refine sx_region ?_
        refine sx rfl (stp_move (v := I (-(Int.tmod z 10))) rfl ?_)
        refine sx rfl (stp_call1 Tryd.func48 rfl rfl ((FigureS W4 (-(Int.tmod z 10)) (by omega)).mono ?_)); rintro _ W10 ⟨rfl, hk11⟩; refine ⟨_, rfl, ?_⟩
        have st12 := St.call st6 hk11
        refine sx rfl (stp_buildSlice (cs := [.int .u8 (48 + (-(Int.tmod z 10)))]) (e := 5) (pcons (v := .int .u8 (48 + (-(Int.tmod z 10)))) rfl pnil) (run_buildSlice1 ap_uint8S _ _ rfl rfl (by decide)) st12 ?_); intro b14 W15 hb16 st17
        refine sx rfl (stp_str1 Tryd.underlying64 Tryd.underlying5 Tryd.underlying9 rfl (st17.get 0 rfl) (by omega) ?_)
        refine sx rfl (stp_move (v := .string (⟨sl.toArray⟩ : ByteArray)) hs7_4 ?_)
        refine sx rfl (stp_sadd rfl rfl (by simp [ByteArray.size]; omega) ?_)
        refine sx rfl (stp_assign (v := .string ((⟨#[UInt8.ofNat (48 + (-(Int.tmod z 10))).toNat]⟩ : ByteArray) ++ (⟨sl.toArray⟩ : ByteArray))) rfl ?_)
        refine sx_nil ?_
        refine sx_region ?_
        refine sx rfl (stp_move (v := I z) hs7_0 ?_)
        refine sx rfl (stp_quoT rfl rfl (by omega) (by omega) ?_)
        refine sx rfl (stp_assign (v := I (Int.tdiv z 10)) rfl ?_)
        refine sx_nil ?_
        have st19 := st17.d0
        exact ⟨_, (Int.tdiv z 10).natAbs, (by omega), rfl, Int.tdiv z 10, (UInt8.ofNat (48 + (z.tmod 10).natAbs) :: sl), (by have := tdiv_rng (a := z) (b := 10) (by omega); omega), (by rw [show UInt8.ofNat (48 + (z.tmod 10).natAbs) :: sl = [UInt8.ofNat (48 + (z.tmod 10).natAbs)] ++ sl from rfl, ← List.append_assoc, ← preD_step (by omega)]; exact hsl), rfl, rfl, hs7_3, (Eq.trans (show _ = (.string ((⟨#[UInt8.ofNat (48 + (-(Int.tmod z 10))).toNat]⟩ : ByteArray) ++ (⟨sl.toArray⟩ : ByteArray)) : Value) from rfl) (congrArg Value.string (by rw [show (48 + (-(Int.tmod z 10))).toNat = 48 + (z.tmod 10).natAbs by omega, bcons]))), st19⟩
      · skip
        have h9p := of_decide_eq_false h9
        refine wp_skip ?_
        refine wp_seq ?_
        refine sx_region ?_
        refine sx rfl (stp_move (v := I (Int.tmod z 10)) rfl ?_)
        refine sx rfl (stp_call1 Tryd.func48 rfl rfl ((FigureS W4 (Int.tmod z 10) (by omega)).mono ?_)); rintro _ W20 ⟨rfl, hk21⟩; refine ⟨_, rfl, ?_⟩
        have st22 := St.call st6 hk21
        refine sx rfl (stp_buildSlice (cs := [.int .u8 (48 + (Int.tmod z 10))]) (e := 5) (pcons (v := .int .u8 (48 + (Int.tmod z 10))) rfl pnil) (run_buildSlice1 ap_uint8S _ _ rfl rfl (by decide)) st22 ?_); intro b24 W25 hb26 st27
        refine sx rfl (stp_str1 Tryd.underlying64 Tryd.underlying5 Tryd.underlying9 rfl (st27.get 0 rfl) (by omega) ?_)
        refine sx rfl (stp_move (v := .string (⟨sl.toArray⟩ : ByteArray)) hs7_4 ?_)
        refine sx rfl (stp_sadd rfl rfl (by simp [ByteArray.size]; omega) ?_)
        refine sx rfl (stp_assign (v := .string ((⟨#[UInt8.ofNat (48 + (Int.tmod z 10)).toNat]⟩ : ByteArray) ++ (⟨sl.toArray⟩ : ByteArray))) rfl ?_)
        refine sx_nil ?_
        refine sx_region ?_
        refine sx rfl (stp_move (v := I z) hs7_0 ?_)
        refine sx rfl (stp_quoT rfl rfl (by omega) (by omega) ?_)
        refine sx rfl (stp_assign (v := I (Int.tdiv z 10)) rfl ?_)
        refine sx_nil ?_
        have st29 := st27.d0
        exact ⟨_, (Int.tdiv z 10).natAbs, (by omega), rfl, Int.tdiv z 10, (UInt8.ofNat (48 + (z.tmod 10).natAbs) :: sl), (by have := tdiv_rng (a := z) (b := 10) (by omega); omega), (by rw [show UInt8.ofNat (48 + (z.tmod 10).natAbs) :: sl = [UInt8.ofNat (48 + (z.tmod 10).natAbs)] ++ sl from rfl, ← List.append_assoc, ← preD_step (by omega)]; exact hsl), rfl, rfl, hs7_3, (Eq.trans (show _ = (.string ((⟨#[UInt8.ofNat (48 + (Int.tmod z 10)).toNat]⟩ : ByteArray) ++ (⟨sl.toArray⟩ : ByteArray)) : Value) from rfl) (congrArg Value.string (by rw [show (48 + (Int.tmod z 10)).toNat = 48 + (z.tmod 10).natAbs by omega, bcons]))), st29⟩
    · skip
      have h8p := of_decide_eq_true (bnot_f h8)
      refine wp_exit ?_
      refine wp_seq ?_
      refine wp_seq ?_
      refine sx_region ?_
      refine sx rfl (stp_move (v := .bool (decide (n < 0))) hs7_3 ?_)
      refine sx_nil ?_
      refine sx_if rfl (fun h30 => ?_) (fun h30 => ?_)
      · skip
        have h30p := of_decide_eq_true h30
        refine wp_seq ?_
        refine sx_region ?_
        refine sx rfl (stp_move (v := .string (⟨sl.toArray⟩ : ByteArray)) hs7_4 ?_)
        refine sx rfl (stp_sadd rfl rfl (by simp [ByteArray.size]; omega) ?_)
        refine sx rfl (stp_assign (v := .string ((⟨#[45]⟩ : ByteArray) ++ (⟨sl.toArray⟩ : ByteArray))) rfl ?_)
        refine sx_nil ?_
        refine wp_ret ?_; repeat (first | refine then_ret ?_ | refine blk_ret ?_)
        refine ret1 Tryd.results24 rfl ?_
        have hfin : sl = decDigits n.natAbs := by rw [show z = 0 by omega] at hsl; exact hsl
        exact ⟨(congrArg (fun z => Ending.returned (.string z)) (by rw [bcons, hfin, itoaB, itoa, if_pos (by omega)])), st6.bare⟩
      · skip
        have h30p := of_decide_eq_false h30
        refine wp_skip ?_
        refine wp_seq ?_
        refine sx_region ?_
        refine sx rfl (stp_move (v := .string (⟨sl.toArray⟩ : ByteArray)) hs7_4 ?_)
        refine sx rfl (stp_assign (v := .string (⟨sl.toArray⟩ : ByteArray)) rfl ?_)
        refine sx_nil ?_
        refine wp_ret ?_; repeat (first | refine then_ret ?_ | refine blk_ret ?_)
        refine ret1 Tryd.results24 rfl ?_
        have hfin : sl = decDigits n.natAbs := by rw [show z = 0 by omega] at hsl; exact hsl
        exact ⟨(congrArg (fun z => Ending.returned (.string z)) (by rw [hfin, itoaB, itoa, if_neg (by omega), show n.natAbs = n.toNat by omega])), st6.bare⟩
end Go.Proofs.YtchnllpegfbleaaDoor
