/-
  Overlaps, of the program and of the reference. (Printed by a program of this project's.)
-/
import Derived.Test.YtbnjncjplkbijaaReady
namespace Go.Proofs.Ytbnjncjplkbijaa
set_option linter.unusedSimpArgs false
set_option linter.unusedVariables false
set_option maxRecDepth 100000
open Go.RowKit


/-- Whether two spans overlap. -/
def lap (a b : Span) : Bool := !decide (a.end_ < b.begin_) && !decide (b.end_ < a.begin_)
def lapI (xs : List Span) (i : Nat) (b : Span) : Bool := match xs[i]? with | some a => lap a b | none => false
def ovRow (xs : List Span) (i j : Nat) : Nat := ((xs.take j).filter (lapI xs i)).length
def ovTo (xs : List Span) : Nat → Nat
  | 0 => 0
  | i + 1 => ovTo xs i + ovRow xs i i
def overlaps (xs : List Span) : Int := if xs.length ≤ 6 then (ovTo xs xs.length : Nat) else 0
theorem lapI_eq {xs : List Span} {i : Nat} (h : i < xs.length) (b : Span) : lapI xs i b = lap xs[i] b := by simp [lapI, h]
theorem ovRow_le (xs : List Span) (i j : Nat) : ovRow xs i j ≤ j := by
  unfold ovRow
  have h1 := List.length_filter_le (lapI xs i) (xs.take j)
  have h2 := List.length_take_le j xs
  omega
theorem ovTo_le (xs : List Span) : ∀ i, i ≤ 6 → ovTo xs i ≤ 6 * i
  | 0, _ => Nat.le_refl _
  | i + 1, h => by
    have h1 := ovTo_le xs i (by omega)
    have h2 := ovRow_le xs i i
    rw [ovTo]; omega
theorem ovRow_t {xs : List Span} {i j : Nat} (hi : i < xs.length) (hj : j < xs.length) (h : lap xs[i] xs[j] = true) : ovRow xs i (j + 1) = ovRow xs i j + 1 := by
  unfold ovRow
  rw [filt_to hj (by rw [lapI_eq hi]; exact h), List.length_append]; rfl
theorem ovRow_f {xs : List Span} {i j : Nat} (hi : i < xs.length) (hj : j < xs.length) (h : lap xs[i] xs[j] = false) : ovRow xs i (j + 1) = ovRow xs i j := by
  unfold ovRow
  rw [filt_to_f hj (by rw [lapI_eq hi]; exact h)]
theorem lap_t {a b : Span} (h1 : (!decide (a.end_ < b.begin_)) = true) (h2 : (!decide (b.end_ < a.begin_)) = true) : lap a b = true := by unfold lap; rw [h1, h2]; rfl
theorem lap_f1 {a b : Span} (h1 : (!decide (a.end_ < b.begin_)) = false) : lap a b = false := by unfold lap; rw [h1]; rfl
theorem lap_f2 {a b : Span} (h2 : (!decide (b.end_ < a.begin_)) = false) : lap a b = false := by unfold lap; rw [h2, Bool.and_false]

set_option maxHeartbeats 2000000 in
theorem Ahead2I (w : World) {x y : Span} {cs ds : List Value} {fp gp : List Nat} (hc : Shape.C w cs x fp) (hd : Shape.C w ds y gp) :
    Calls Try.prog 60 #[.agg cs.toArray, .agg ds.toArray] w fun e w' => e = .returned (.bool (decide (x.end_ < y.begin_))) ∧ St w w' [] := by
  refine enter2 Try.func60 rfl Try.ntmps60 (by decide) ?_
  refine wp_seq ?_
  refine sx_region ?_
  refine sx rfl (stp_box_agg (cs := cs) rfl (St.start w) ?_); intro b1 W2 hb3 st4
  refine sx rfl (stp_box_agg (cs := ds) rfl st4 ?_); intro b6 W7 hb8 st9
  refine sx rfl (stp_assign (v := .bool false) rfl ?_)
  refine sx_nil ?_
  refine wp_seq ?_
  refine sx_region ?_
  refine sx rfl (stp_fieldAddr fa_Span_2 rfl ?_)
  have hk11 := hc
  obtain ⟨v11_0, g11_0, rfl, hok11, h11_0, rfl⟩ := hk11
  refine sx rfl (stp_load_bx ld_int rfl rfl (st9.get 1 rfl) (i := 12) rfl rfl ?_)
  refine sx rfl (stp_fieldAddr fa_Span_1 rfl ?_)
  have hk12 := hd
  obtain ⟨v12_0, g12_0, rfl, hok12, h12_0, rfl⟩ := hk12
  refine sx rfl (stp_load_bx ld_int rfl rfl (st9.get 0 rfl) (i := 11) rfl rfl ?_)
  refine sx rfl (stp_lss rfl rfl ?_)
  refine sx rfl (stp_assign (v := .bool (decide (x.end_ < y.begin_))) rfl ?_)
  refine sx_nil ?_
  refine wp_ret ?_; repeat (first | refine then_ret ?_ | refine blk_ret ?_)
  refine ret1 Try.results60 rfl ?_
  exact ⟨rfl, st9.bare⟩
set_option maxHeartbeats 2000000 in
theorem OverlapsI (w : World) {v : Value} {xs : List Span} {fp : List Nat} (h : Sl w v xs fp) :
    Calls Try.prog 16 #[v] w fun e w' => e = .returned (I (overlaps xs)) ∧ St w w' [] := by
  have hcap := h.len_le
  refine enter1 Try.func16 rfl Try.ntmps16 (by decide) ?_
  refine wp_seq ?_
  refine sx_region ?_
  refine sx rfl (stp_assign (v := I 0) rfl ?_)
  refine sx_nil ?_
  refine wp_seq ?_
  refine wp_seq ?_
  refine sx_region ?_
  refine sx rfl (stp_move (v := v) rfl ?_)
  refine sx rfl (stp_len sl_SpanS rfl h ?_)
  refine sx rfl (stp_gtr rfl rfl ?_)
  refine sx_nil ?_
  refine sx_if rfl (fun h1 => ?_) (fun h1 => ?_)
  · skip
    have h1p := of_decide_eq_true h1
    refine wp_seq ?_
    refine sx_region ?_
    refine sx rfl (stp_assign (v := I 0) rfl ?_)
    refine sx_nil ?_
    refine wp_ret ?_; repeat (first | refine then_ret ?_ | refine blk_ret ?_)
    refine ret1 Try.results16 rfl ?_
    exact ⟨congrArg (fun z => Ending.returned (I z)) (by unfold overlaps; rw [if_neg (by omega)]), (St.start w).bare⟩
  · skip
    have h1p := of_decide_eq_false h1
    refine wp_skip ?_
    refine wp_seq ?_
    refine sx_region ?_
    refine sx rfl (stp_assign (v := I 0) rfl ?_)
    refine sx_nil ?_
    refine wp_seq ?_
    refine wp_seq ?_
    refine sx_region ?_
    refine sx rfl (stp_move (v := v) rfl ?_)
    refine sx rfl (stp_len sl_SpanS rfl h ?_)
    refine sx rfl (stp_move (v := I 0) rfl ?_)
    refine sx_nil ?_
    refine wp_block ?_
    refine sx_loop (fun (m : Nat) (f : Nat → Value) (W : World) => ∃ (k : Nat), k ≤ xs.length ∧ m = xs.length - k ∧ f 0 = v ∧ f 3 = I ((ovTo xs k : Nat) : Int) ∧ f 11 = v ∧ f 12 = I (xs.length : Int) ∧ f 13 = I (k : Int) ∧ St w W ([])) (xs.length - 0) ?_ ?_
    · exact ⟨0, (by first | omega | simp), rfl, rfl, (Eq.trans (show _ = I 0 from rfl) (show I 0 = I (((ovTo xs 0 : Nat) : Int)) from rfl)), rfl, rfl, rfl, (St.start w)⟩
    intro m2 f3 W4 hJ5
    obtain ⟨k, hcd7_0, rfl, hs7_0, hs7_3, hs7_11, hs7_12, hs7_13, st6⟩ := hJ5
    have hle := ovTo_le xs k (by omega)
    refine wp_seq ?_
    refine sx_region ?_
    refine sx rfl (stp_lss hs7_13 hs7_12 ?_)
    refine sx_nil ?_
    refine wp_seq ?_
    refine sx_if rfl (fun h8 => ?_) (fun h8 => ?_)
    · skip
      have h8p := of_decide_eq_true h8
      refine wp_skip ?_
      refine wp_seq ?_
      refine wp_block ?_
      refine wp_seq ?_
      refine sx_region ?_
      refine sx rfl (stp_move (v := I (k : Int)) hs7_13 ?_)
      have hi51fab : k < xs.length := (by omega)
      have hq_ := idx h (i := k) hi51fab
      obtain ⟨b9, o9, cs9, f9, hp9, hr9, hc9, hm9⟩ := hq_
      refine sx rfl (stp_indexAddr sl_SpanS hs7_11 hp9 hs7_13 rfl ?_)
      refine sx rfl (stp_load_rga ld_Span rfl rfl hr9 st6.below (Shape.len hc9) ?_)
      refine sx rfl (stp_alloc zz_Span st6 ?_); intro b10 W11 hb12 st13
      refine sx rfl (stp_assign (v := I (k : Int)) rfl ?_)
      refine sx rfl (stp_store_all (cs := cs9) ld_Span hc9 rfl rfl st13 rfl ?_); intro W15 st16
      refine sx_nil ?_
      refine wp_seq ?_
      refine sx_region ?_
      refine sx rfl (stp_move (v := v) hs7_0 ?_)
      refine sx rfl (stp_move (v := I (k : Int)) rfl ?_)
      have htk : (xs.take k).length = k := by rw [List.length_take]; omega
      refine sx rfl (stp_slice_h (h := k) sl_SpanS rfl h rfl rfl (by omega) ?_); intro v17 g18 h19 hm20
      refine sx rfl (stp_len sl_SpanS rfl h19 ?_)
      refine sx rfl (stp_move (v := I 0) rfl ?_)
      refine sx_nil ?_
      refine wp_block ?_
      refine sx_loop (fun (m : Nat) (f : Nat → Value) (W : World) => ∃ (j : Nat), j ≤ k ∧ m = k - j ∧ f 0 = v ∧ f 3 = I ((ovTo xs k + ovRow xs k j : Nat) : Int) ∧ f 5 = .pointer (some ⟨b10, 0, none⟩) ∧ f 11 = v ∧ f 12 = I (xs.length : Int) ∧ f 13 = I (k : Int) ∧ f 20 = v17 ∧ f 21 = I ((xs.take k).length : Int) ∧ f 22 = I (j : Int) ∧ St w W ([Res.bx b10 cs9 47])) (k - 0) ?_ ?_
      · exact ⟨0, (by first | omega | simp), rfl, hs7_0, (Eq.trans (show _ = I ((ovTo xs k : Nat) : Int) from hs7_3) (show I (((ovTo xs k : Nat) : Int)) = I (((ovTo xs k + ovRow xs k 0 : Nat) : Int)) from rfl)), rfl, hs7_11, hs7_12, hs7_13, rfl, rfl, rfl, st16⟩
      intro m21 f22 W23 hJ24
      obtain ⟨j, hcd26_0, rfl, hs26_0, hs26_3, hs26_5, hs26_11, hs26_12, hs26_13, hs26_20, hs26_21, hs26_22, st25⟩ := hJ24
      have hrl := ovRow_le xs k j
      refine wp_seq ?_
      refine sx_region ?_
      refine sx rfl (stp_lss hs26_22 hs26_21 ?_)
      refine sx_nil ?_
      refine wp_seq ?_
      refine sx_if rfl (fun h27 => ?_) (fun h27 => ?_)
      · skip
        have h27p := of_decide_eq_true h27
        refine wp_skip ?_
        refine wp_seq ?_
        refine wp_block ?_
        refine wp_seq ?_
        refine sx_region ?_
        have hid1ba9 : j < (xs.take k).length := (by omega)
        have hq_ := idx h19 (i := j) hid1ba9
        obtain ⟨b28, o28, cs28, f28, hp28, hr28, hc28, hm28⟩ := hq_
        refine sx rfl (stp_indexAddr sl_SpanS hs26_20 hp28 hs26_22 rfl ?_)
        refine sx rfl (stp_load_rga ld_Span rfl rfl hr28 st25.below (Shape.len hc28) ?_)
        refine sx rfl (stp_alloc zz_Span st25 ?_); intro b29 W30 hb31 st32
        refine sx rfl (stp_store_all (cs := cs28) ld_Span hc28 rfl rfl st32 rfl ?_); intro W34 st35
        refine sx_nil ?_
        refine wp_seq ?_
        refine sx_region ?_
        refine sx rfl (stp_load_bxa ld_Span rfl hs26_5 (st35.get 1 rfl) (Shape.len hc9) ?_)
        refine sx rfl (stp_load_bxa ld_Span rfl rfl (st35.get 0 rfl) (Shape.len hc28) ?_)
        refine sx rfl (stp_call2 Try.func60 rfl rfl rfl ((Ahead2I W34 (C_below hc9 st35.below) (C_below hc28 st35.below)).mono ?_)); rintro _ W36 ⟨rfl, hk37⟩; refine ⟨_, rfl, ?_⟩
        have st38 := St.call st35 hk37
        refine sx rfl (stp_not rfl ?_)
        refine sx rfl (stp_move (v := .bool (!decide ((xs[k]'hi51fab).end_ < ((xs.take k)[j]'hid1ba9).begin_))) rfl ?_)
        rcases bd (!decide ((xs[k]'hi51fab).end_ < ((xs.take k)[j]'hid1ba9).begin_)) with h40 | h40
        · skip
          have h40p := of_decide_eq_true (bnot_f h40)
          refine sx_off (j := 4) (dd := 30) rfl rfl (by decide) (yl_off (e := !decide ((xs[k]'hi51fab).end_ < ((xs.take k)[j]'hid1ba9).begin_)) rfl h40) ?_
          refine sx_off (j := 4) (dd := 30) rfl rfl (by decide) (yl_off (e := !decide ((xs[k]'hi51fab).end_ < ((xs.take k)[j]'hid1ba9).begin_)) rfl h40) ?_
          refine sx_off (j := 4) (dd := 30) rfl rfl (by decide) (yl_off (e := !decide ((xs[k]'hi51fab).end_ < ((xs.take k)[j]'hid1ba9).begin_)) rfl h40) ?_
          refine sx_off (j := 4) (dd := 30) rfl rfl (by decide) (yl_off (e := !decide ((xs[k]'hi51fab).end_ < ((xs.take k)[j]'hid1ba9).begin_)) rfl h40) ?_
          refine sx rfl (stp_pick_f (v := .bool false) ((rfl : _ = (.bool (!decide ((xs[k]'hi51fab).end_ < ((xs.take k)[j]'hid1ba9).begin_)) : Value)).trans (congrArg Value.bool h40)) rfl ?_)
          refine sx_nil ?_
          refine sx_f rfl rfl ?_
          refine wp_skip ?_
          refine sx_region ?_
          refine sx rfl (stp_add hs26_22 rfl (by (simp only [I64] at *; omega)) ?_)
          refine sx rfl (stp_move (v := I ((j : Int) + 1)) rfl ?_)
          refine sx_nil ?_
          have st41 := st38.f1
          have st42 := st41.d1
          exact ⟨_, k - (j + 1), (by omega), rfl, j + 1, (by omega), rfl, hs26_0, (Eq.trans (show _ = I ((ovTo xs k + ovRow xs k j : Nat) : Int) from hs26_3) (show I ((ovTo xs k + ovRow xs k j : Nat) : Int) = I (((ovTo xs k + ovRow xs k (j + 1) : Nat) : Int)) from congrArg I (by have := ovRow_f (xs := xs) (i := k) (j := j) (by omega) (by omega) (by first | (simpa only [List.getElem_take] using lap_f1 h40) | (simpa only [List.getElem_take] using lap_f2 h40)); omega))), hs26_5, hs26_11, hs26_12, hs26_13, hs26_20, hs26_21, rfl, st42⟩
        · skip
          have h40p := of_decide_eq_false (bnot_t h40)
          refine sx_on (j := 4) (dd := 30) rfl rfl (by decide) (yl_on (e := !decide ((xs[k]'hi51fab).end_ < ((xs.take k)[j]'hid1ba9).begin_)) rfl h40) (stp_load_bxa ld_Span rfl rfl (st38.get 0 rfl) (Shape.len hc28) ?_)
          refine sx_on (j := 4) (dd := 30) rfl rfl (by decide) (yl_on (e := !decide ((xs[k]'hi51fab).end_ < ((xs.take k)[j]'hid1ba9).begin_)) rfl h40) (stp_load_bxa ld_Span rfl hs26_5 (st38.get 1 rfl) (Shape.len hc9) ?_)
          refine sx_on (j := 4) (dd := 30) rfl rfl (by decide) (yl_on (e := !decide ((xs[k]'hi51fab).end_ < ((xs.take k)[j]'hid1ba9).begin_)) rfl h40) (stp_call2 Try.func60 rfl rfl rfl ((Ahead2I W36 (C_below hc28 st38.below) (C_below hc9 st38.below)).mono ?_)); rintro _ W43 ⟨rfl, hk44⟩; refine ⟨_, rfl, ?_⟩
          have st45 := St.call st38 hk44
          refine sx_on (j := 4) (dd := 30) rfl rfl (by decide) (yl_on (e := !decide ((xs[k]'hi51fab).end_ < ((xs.take k)[j]'hid1ba9).begin_)) rfl h40) (stp_not rfl ?_)
          refine sx rfl (stp_pick_t (v := .bool (!decide (((xs.take k)[j]'hid1ba9).end_ < (xs[k]'hi51fab).begin_))) ((rfl : _ = (.bool (!decide ((xs[k]'hi51fab).end_ < ((xs.take k)[j]'hid1ba9).begin_)) : Value)).trans (congrArg Value.bool h40)) rfl ?_)
          refine sx_nil ?_
          refine sx_if rfl (fun h47 => ?_) (fun h47 => ?_)
          · skip
            have h47p := of_decide_eq_false (bnot_t h47)
            refine sx_region ?_
            refine sx rfl (stp_move (v := I ((ovTo xs k + ovRow xs k j : Nat) : Int)) hs26_3 ?_)
            refine sx rfl (stp_add rfl rfl (by (simp only [I64] at *; omega)) ?_)
            refine sx rfl (stp_assign (v := I (((ovTo xs k + ovRow xs k j : Nat) : Int) + 1)) rfl ?_)
            refine sx_nil ?_
            refine sx_region ?_
            refine sx rfl (stp_add hs26_22 rfl (by (simp only [I64] at *; omega)) ?_)
            refine sx rfl (stp_move (v := I ((j : Int) + 1)) rfl ?_)
            refine sx_nil ?_
            have st48 := st45.f1
            have st49 := st48.d1
            exact ⟨_, k - (j + 1), (by omega), rfl, j + 1, (by omega), rfl, hs26_0, (Eq.trans (show _ = I (((ovTo xs k + ovRow xs k j : Nat) : Int) + 1) from rfl) (show I (((ovTo xs k + ovRow xs k j : Nat) : Int) + 1) = I (((ovTo xs k + ovRow xs k (j + 1) : Nat) : Int)) from congrArg I (by have := ovRow_t (xs := xs) (i := k) (j := j) (by omega) (by omega) (by simpa only [List.getElem_take] using lap_t h40 h47); omega))), hs26_5, hs26_11, hs26_12, hs26_13, hs26_20, hs26_21, rfl, st49⟩
          · skip
            have h47p := of_decide_eq_true (bnot_f h47)
            refine wp_skip ?_
            refine sx_region ?_
            refine sx rfl (stp_add hs26_22 rfl (by (simp only [I64] at *; omega)) ?_)
            refine sx rfl (stp_move (v := I ((j : Int) + 1)) rfl ?_)
            refine sx_nil ?_
            have st50 := st45.f1
            have st51 := st50.d1
            exact ⟨_, k - (j + 1), (by omega), rfl, j + 1, (by omega), rfl, hs26_0, (Eq.trans (show _ = I ((ovTo xs k + ovRow xs k j : Nat) : Int) from hs26_3) (show I ((ovTo xs k + ovRow xs k j : Nat) : Int) = I (((ovTo xs k + ovRow xs k (j + 1) : Nat) : Int)) from congrArg I (by have := ovRow_f (xs := xs) (i := k) (j := j) (by omega) (by omega) (by first | (simpa only [List.getElem_take] using lap_f1 h47) | (simpa only [List.getElem_take] using lap_f2 h47)); omega))), hs26_5, hs26_11, hs26_12, hs26_13, hs26_20, hs26_21, rfl, st51⟩
      · skip
        have h27p := of_decide_eq_false h27
        refine wp_exit ?_
        refine sx_region ?_
        refine sx rfl (stp_add hs26_13 rfl (by (simp only [I64] at *; omega)) ?_)
        refine sx rfl (stp_move (v := I ((k : Int) + 1)) rfl ?_)
        refine sx_nil ?_
        have st52 := st25.d0
        exact ⟨_, xs.length - (k + 1), (by omega), rfl, k + 1, (by omega), rfl, hs26_0, (Eq.trans (show _ = I ((ovTo xs k + ovRow xs k j : Nat) : Int) from hs26_3) (show I ((ovTo xs k + ovRow xs k j : Nat) : Int) = I (((ovTo xs (k + 1) : Nat) : Int)) from congrArg I (by obtain rfl : j = k := (by omega); rfl))), hs26_11, hs26_12, rfl, st52⟩
    · skip
      have h8p := of_decide_eq_false h8
      refine wp_exit ?_
      refine wp_seq ?_
      refine sx_region ?_
      refine sx rfl (stp_move (v := I ((ovTo xs k : Nat) : Int)) hs7_3 ?_)
      refine sx rfl (stp_assign (v := I ((ovTo xs k : Nat) : Int)) rfl ?_)
      refine sx_nil ?_
      refine wp_ret ?_; repeat (first | refine then_ret ?_ | refine blk_ret ?_)
      refine ret1 Try.results16 rfl ?_
      obtain rfl : k = xs.length := by omega
      exact ⟨congrArg (fun z => Ending.returned (I z)) (by unfold overlaps; rw [if_pos (by omega)]), st6.bare⟩
set_option maxHeartbeats 2000000 in
theorem Ahead2S (w : World) {x y : Span} {cs ds : List Value} {fp gp : List Nat} (hc : Shape.C w cs x fp) (hd : Shape.C w ds y gp) :
    Calls Try.prog 59 #[.agg cs.toArray, .agg ds.toArray] w fun e w' => e = .returned (.bool (decide (x.end_ < y.begin_))) ∧ St w w' [] := by
  refine enter2 Try.func59 rfl Try.ntmps59 (by decide) ?_
  refine wp_seq ?_
  refine sx_region ?_
  refine sx rfl (stp_box_agg (cs := cs) rfl (St.start w) ?_); intro b1 W2 hb3 st4
  refine sx rfl (stp_box_agg (cs := ds) rfl st4 ?_); intro b6 W7 hb8 st9
  refine sx rfl (stp_assign (v := .bool false) rfl ?_)
  refine sx_nil ?_
  refine wp_seq ?_
  refine sx_region ?_
  refine sx rfl (stp_fieldAddr fa_Span_2 rfl ?_)
  have hk11 := hc
  obtain ⟨v11_0, g11_0, rfl, hok11, h11_0, rfl⟩ := hk11
  refine sx rfl (stp_load_bx ld_int rfl rfl (st9.get 1 rfl) (i := 12) rfl rfl ?_)
  refine sx rfl (stp_fieldAddr fa_Span_1 rfl ?_)
  have hk12 := hd
  obtain ⟨v12_0, g12_0, rfl, hok12, h12_0, rfl⟩ := hk12
  refine sx rfl (stp_load_bx ld_int rfl rfl (st9.get 0 rfl) (i := 11) rfl rfl ?_)
  refine sx rfl (stp_lss rfl rfl ?_)
  refine sx rfl (stp_assign (v := .bool (decide (x.end_ < y.begin_))) rfl ?_)
  refine sx_nil ?_
  refine wp_ret ?_; repeat (first | refine then_ret ?_ | refine blk_ret ?_)
  refine ret1 Try.results59 rfl ?_
  exact ⟨rfl, st9.bare⟩
set_option maxHeartbeats 2000000 in
theorem OverlapsS (w : World) {v : Value} {xs : List Span} {fp : List Nat} (h : Sl w v xs fp) :
    Calls Try.prog 14 #[v] w fun e w' => e = .returned (I (overlaps xs)) ∧ St w w' [] := by
  have hcap := h.len_le
  refine enter1 Try.func14 rfl Try.ntmps14 (by decide) ?_
  refine wp_seq ?_
  refine sx_region ?_
  refine sx rfl (stp_assign (v := I 0) rfl ?_)
  refine sx_nil ?_
  refine wp_seq ?_
  refine sx_region ?_
  refine sx rfl (stp_assign (v := I 0) rfl ?_)
  refine sx_nil ?_
  refine wp_seq ?_
  refine wp_seq ?_
  refine sx_region ?_
  refine sx rfl (stp_move (v := v) rfl ?_)
  refine sx rfl (stp_len sl_SpanS rfl h ?_)
  refine sx rfl (stp_gtr rfl rfl ?_)
  refine sx_nil ?_
  refine sx_if rfl (fun h1 => ?_) (fun h1 => ?_)
  · skip
    have h1p := of_decide_eq_true h1
    refine wp_seq ?_
    refine sx_region ?_
    refine sx rfl (stp_assign (v := I 0) rfl ?_)
    refine sx_nil ?_
    refine wp_ret ?_; repeat (first | refine then_ret ?_ | refine blk_ret ?_)
    refine ret1 Try.results14 rfl ?_
    exact ⟨congrArg (fun z => Ending.returned (I z)) (by unfold overlaps; rw [if_neg (by omega)]), (St.start w).bare⟩
  · skip
    have h1p := of_decide_eq_false h1
    refine wp_skip ?_
    refine wp_seq ?_
    refine wp_seq ?_
    refine sx_region ?_
    refine sx rfl (stp_assign (v := I 0) rfl ?_)
    refine sx_nil ?_
    refine wp_block ?_
    refine sx_loop (fun (m : Nat) (f : Nat → Value) (W : World) => ∃ (k : Nat), k ≤ xs.length ∧ m = xs.length - k ∧ f 0 = v ∧ f 3 = I ((ovTo xs k : Nat) : Int) ∧ f 4 = I (k : Int) ∧ St w W ([])) (xs.length - 0) ?_ ?_
    · exact ⟨0, (by first | omega | simp), rfl, rfl, (Eq.trans (show _ = I 0 from rfl) (show I 0 = I (((ovTo xs 0 : Nat) : Int)) from rfl)), rfl, (St.start w)⟩
    intro m2 f3 W4 hJ5
    obtain ⟨k, hcd7_0, rfl, hs7_0, hs7_3, hs7_4, st6⟩ := hJ5
    have hle := ovTo_le xs k (by omega)
    refine wp_seq ?_
    refine wp_seq ?_
    refine sx_region ?_
    refine sx rfl (stp_move (v := I (k : Int)) hs7_4 ?_)
    refine sx rfl (stp_move (v := v) hs7_0 ?_)
    refine sx rfl (stp_len sl_SpanS rfl h ?_)
    refine sx rfl (stp_lss rfl rfl ?_)
    refine sx_nil ?_
    refine sx_if rfl (fun h8 => ?_) (fun h8 => ?_)
    · skip
      have h8p := of_decide_eq_true h8
      refine wp_skip ?_
      refine wp_seq ?_
      refine wp_block ?_
      refine wp_seq ?_
      refine sx_region ?_
      refine sx rfl (stp_assign (v := I 0) rfl ?_)
      refine sx_nil ?_
      refine wp_block ?_
      refine sx_loop (fun (m : Nat) (f : Nat → Value) (W : World) => ∃ (j : Nat), j ≤ k ∧ m = k - j ∧ f 0 = v ∧ f 3 = I ((ovTo xs k + ovRow xs k j : Nat) : Int) ∧ f 4 = I (k : Int) ∧ f 5 = I (j : Int) ∧ St w W ([])) (k - 0) ?_ ?_
      · exact ⟨0, (by first | omega | simp), rfl, hs7_0, (Eq.trans (show _ = I ((ovTo xs k : Nat) : Int) from hs7_3) (show I (((ovTo xs k : Nat) : Int)) = I (((ovTo xs k + ovRow xs k 0 : Nat) : Int)) from rfl)), hs7_4, rfl, st6⟩
      intro m9 f10 W11 hJ12
      obtain ⟨j, hcd14_0, rfl, hs14_0, hs14_3, hs14_4, hs14_5, st13⟩ := hJ12
      have hrl := ovRow_le xs k j
      refine wp_seq ?_
      refine wp_seq ?_
      refine sx_region ?_
      refine sx rfl (stp_move (v := I (j : Int)) hs14_5 ?_)
      refine sx rfl (stp_move (v := I (k : Int)) hs14_4 ?_)
      refine sx rfl (stp_lss rfl rfl ?_)
      refine sx_nil ?_
      refine sx_if rfl (fun h15 => ?_) (fun h15 => ?_)
      · skip
        have h15p := of_decide_eq_true h15
        refine wp_skip ?_
        refine wp_seq ?_
        refine wp_block ?_
        refine wp_seq ?_
        have hi51fab : k < xs.length := (by omega)
        have hi1a2d8 : j < xs.length := (by omega)
        rcases bd (!decide ((xs[k]'hi51fab).end_ < (xs[j]'hi1a2d8).begin_)) with h18 | h18
        · skip
          have h18p := of_decide_eq_true (bnot_f h18)
          have hi51fab : k < xs.length := (by omega)
          have hq_ := idx h (i := k) hi51fab
          obtain ⟨b19, o19, cs19, f19, hp19, hr19, hc19, hm19⟩ := hq_
          have hi1a2d8 : j < xs.length := (by omega)
          have hq_ := idx h (i := j) hi1a2d8
          obtain ⟨b20, o20, cs20, f20, hp20, hr20, hc20, hm20⟩ := hq_
          refine sx_any [Pl.is (v) (Sl.yl h), Pl.is (I (k : Int)), Pl.is (.pointer (some ⟨b19, o19, none⟩)), Pl.is (.agg cs19.toArray), Pl.is (v) (Sl.yl h), Pl.is (I (j : Int)), Pl.is (.pointer (some ⟨b20, o20, none⟩)), Pl.is (.agg cs20.toArray), Pl.bool (decide ((xs[k]'hi51fab).end_ < (xs[j]'hi1a2d8).begin_)), Pl.bool false, Pl.bool false, Pl.off, Pl.off, Pl.off, Pl.off, Pl.off, Pl.off, Pl.off, Pl.off, Pl.off, Pl.off, Pl.bool false] mix (by rfl) st13 ⟨(fun f W hst hbl hd hf => stp_move (v := v) ((hf 0 rfl).trans hs14_0) ⟨Below.refl _ _, rfl⟩), (fun f W hst hbl hd hf => stp_move (v := I (k : Int)) ((hf 4 rfl).trans hs14_4) ⟨Below.refl _ _, rfl⟩), (fun f W hst hbl hd hf => stp_indexAddr sl_SpanS (hd 0 20 rfl rfl) hp19 (hd 1 21 rfl rfl) rfl ⟨Below.refl _ _, rfl⟩), (fun f W hst hbl hd hf => stp_load_rga ld_Span rfl (hd 2 22 rfl rfl) hr19 hst.below (Shape.len hc19) ⟨Below.refl _ _, rfl⟩), (fun f W hst hbl hd hf => stp_move (v := v) ((hf 0 rfl).trans hs14_0) ⟨Below.refl _ _, rfl⟩), (fun f W hst hbl hd hf => stp_move (v := I (j : Int)) ((hf 5 rfl).trans hs14_5) ⟨Below.refl _ _, rfl⟩), (fun f W hst hbl hd hf => stp_indexAddr sl_SpanS (hd 4 24 rfl rfl) hp20 (hd 5 25 rfl rfl) rfl ⟨Below.refl _ _, rfl⟩), (fun f W hst hbl hd hf => stp_load_rga ld_Span rfl (hd 6 26 rfl rfl) hr20 hst.below (Shape.len hc20) ⟨Below.refl _ _, rfl⟩), (fun f W hst hbl hd hf => stp_call2 Try.func59 rfl (hd 3 23 rfl rfl) (hd 7 27 rfl rfl) ((Ahead2S W (C_below hc19 hst.below) (C_below hc20 hst.below)).mono (by rintro e W2 ⟨rfl, hk⟩; exact ⟨_, rfl, hk.below, rfl⟩))), (fun f W hst hbl hd hf => stp_not (hd 8 28 rfl rfl) ⟨Below.refl _ _, congrArg Value.bool h18⟩), (fun f W hst hbl hd hf => stp_move (v := .bool false) (hd 9 29 rfl rfl) ⟨Below.refl _ _, rfl⟩), (fun f W hst hbl hd hf => rfl), (fun f W hst hbl hd hf => rfl), (fun f W hst hbl hd hf => rfl), (fun f W hst hbl hd hf => rfl), (fun f W hst hbl hd hf => rfl), (fun f W hst hbl hd hf => rfl), (fun f W hst hbl hd hf => rfl), (fun f W hst hbl hd hf => rfl), (fun f W hst hbl hd hf => rfl), (fun f W hst hbl hd hf => rfl), (fun f W hst hbl hd hf => stp_pick_f (v := .bool false) (hd 10 30 rfl rfl) rfl ⟨Below.refl _ _, rfl⟩), trivial⟩ ?_
          intro f21 W22 st23 hb24 hv25 hf26
          refine sx_f (hv25 21 41 (by decide) rfl) rfl ?_
          refine wp_skip ?_
          refine sx_region ?_
          refine sx rfl (stp_move (v := I (j : Int)) ((hf26 5 rfl).trans hs14_5) ?_)
          refine sx rfl (stp_add rfl rfl (by (simp only [I64] at *; omega)) ?_)
          refine sx rfl (stp_assign (v := I ((j : Int) + 1)) rfl ?_)
          refine sx_nil ?_
          exact ⟨_, k - (j + 1), (by omega), rfl, j + 1, (by omega), rfl, ((hf26 0 rfl).trans hs14_0), (Eq.trans (show _ = I ((ovTo xs k + ovRow xs k j : Nat) : Int) from ((hf26 3 rfl).trans hs14_3)) (show I ((ovTo xs k + ovRow xs k j : Nat) : Int) = I (((ovTo xs k + ovRow xs k (j + 1) : Nat) : Int)) from congrArg I (by have := ovRow_f (xs := xs) (i := k) (j := j) (by omega) (by omega) (by first | (simpa only [List.getElem_take] using lap_f1 h18) | (simpa only [List.getElem_take] using lap_f2 h18)); omega))), ((hf26 4 rfl).trans hs14_4), rfl, st23⟩
        · skip
          have h18p := of_decide_eq_false (bnot_t h18)
          have hi51fab : k < xs.length := (by omega)
          have hq_ := idx h (i := k) hi51fab
          obtain ⟨b27, o27, cs27, f27, hp27, hr27, hc27, hm27⟩ := hq_
          have hi1a2d8 : j < xs.length := (by omega)
          have hq_ := idx h (i := j) hi1a2d8
          obtain ⟨b28, o28, cs28, f28, hp28, hr28, hc28, hm28⟩ := hq_
          refine sx_any [Pl.is (v) (Sl.yl h), Pl.is (I (k : Int)), Pl.is (.pointer (some ⟨b27, o27, none⟩)), Pl.is (.agg cs27.toArray), Pl.is (v) (Sl.yl h), Pl.is (I (j : Int)), Pl.is (.pointer (some ⟨b28, o28, none⟩)), Pl.is (.agg cs28.toArray), Pl.bool (decide ((xs[k]'hi51fab).end_ < (xs[j]'hi1a2d8).begin_)), Pl.bool true, Pl.bool true, Pl.is (v) (Sl.yl h), Pl.is (I (j : Int)), Pl.is (.pointer (some ⟨b28, o28, none⟩)), Pl.is (.agg cs28.toArray), Pl.is (v) (Sl.yl h), Pl.is (I (k : Int)), Pl.is (.pointer (some ⟨b27, o27, none⟩)), Pl.is (.agg cs27.toArray), Pl.bool (decide ((xs[j]'hi1a2d8).end_ < (xs[k]'hi51fab).begin_)), Pl.bool (!decide ((xs[j]'hi1a2d8).end_ < (xs[k]'hi51fab).begin_)), Pl.bool (!decide ((xs[j]'hi1a2d8).end_ < (xs[k]'hi51fab).begin_))] mix (by rfl) st13 ⟨(fun f W hst hbl hd hf => stp_move (v := v) ((hf 0 rfl).trans hs14_0) ⟨Below.refl _ _, rfl⟩), (fun f W hst hbl hd hf => stp_move (v := I (k : Int)) ((hf 4 rfl).trans hs14_4) ⟨Below.refl _ _, rfl⟩), (fun f W hst hbl hd hf => stp_indexAddr sl_SpanS (hd 0 20 rfl rfl) hp27 (hd 1 21 rfl rfl) rfl ⟨Below.refl _ _, rfl⟩), (fun f W hst hbl hd hf => stp_load_rga ld_Span rfl (hd 2 22 rfl rfl) hr27 hst.below (Shape.len hc27) ⟨Below.refl _ _, rfl⟩), (fun f W hst hbl hd hf => stp_move (v := v) ((hf 0 rfl).trans hs14_0) ⟨Below.refl _ _, rfl⟩), (fun f W hst hbl hd hf => stp_move (v := I (j : Int)) ((hf 5 rfl).trans hs14_5) ⟨Below.refl _ _, rfl⟩), (fun f W hst hbl hd hf => stp_indexAddr sl_SpanS (hd 4 24 rfl rfl) hp28 (hd 5 25 rfl rfl) rfl ⟨Below.refl _ _, rfl⟩), (fun f W hst hbl hd hf => stp_load_rga ld_Span rfl (hd 6 26 rfl rfl) hr28 hst.below (Shape.len hc28) ⟨Below.refl _ _, rfl⟩), (fun f W hst hbl hd hf => stp_call2 Try.func59 rfl (hd 3 23 rfl rfl) (hd 7 27 rfl rfl) ((Ahead2S W (C_below hc27 hst.below) (C_below hc28 hst.below)).mono (by rintro e W2 ⟨rfl, hk⟩; exact ⟨_, rfl, hk.below, rfl⟩))), (fun f W hst hbl hd hf => stp_not (hd 8 28 rfl rfl) ⟨Below.refl _ _, congrArg Value.bool h18⟩), (fun f W hst hbl hd hf => stp_move (v := .bool true) (hd 9 29 rfl rfl) ⟨Below.refl _ _, rfl⟩), (fun f W hst hbl hd hf => stp_move (v := v) ((hf 0 rfl).trans hs14_0) ⟨Below.refl _ _, rfl⟩), (fun f W hst hbl hd hf => stp_move (v := I (j : Int)) ((hf 5 rfl).trans hs14_5) ⟨Below.refl _ _, rfl⟩), (fun f W hst hbl hd hf => stp_indexAddr sl_SpanS (hd 11 31 rfl rfl) hp28 (hd 12 32 rfl rfl) rfl ⟨Below.refl _ _, rfl⟩), (fun f W hst hbl hd hf => stp_load_rga ld_Span rfl (hd 13 33 rfl rfl) hr28 hst.below (Shape.len hc28) ⟨Below.refl _ _, rfl⟩), (fun f W hst hbl hd hf => stp_move (v := v) ((hf 0 rfl).trans hs14_0) ⟨Below.refl _ _, rfl⟩), (fun f W hst hbl hd hf => stp_move (v := I (k : Int)) ((hf 4 rfl).trans hs14_4) ⟨Below.refl _ _, rfl⟩), (fun f W hst hbl hd hf => stp_indexAddr sl_SpanS (hd 15 35 rfl rfl) hp27 (hd 16 36 rfl rfl) rfl ⟨Below.refl _ _, rfl⟩), (fun f W hst hbl hd hf => stp_load_rga ld_Span rfl (hd 17 37 rfl rfl) hr27 hst.below (Shape.len hc27) ⟨Below.refl _ _, rfl⟩), (fun f W hst hbl hd hf => stp_call2 Try.func59 rfl (hd 14 34 rfl rfl) (hd 18 38 rfl rfl) ((Ahead2S W (C_below hc28 hst.below) (C_below hc27 hst.below)).mono (by rintro e W2 ⟨rfl, hk⟩; exact ⟨_, rfl, hk.below, rfl⟩))), (fun f W hst hbl hd hf => stp_not (hd 19 39 rfl rfl) ⟨Below.refl _ _, rfl⟩), (fun f W hst hbl hd hf => stp_pick_t (v := .bool (!decide ((xs[j]'hi1a2d8).end_ < (xs[k]'hi51fab).begin_))) (hd 10 30 rfl rfl) (hd 20 40 rfl rfl) ⟨Below.refl _ _, rfl⟩), trivial⟩ ?_
          intro f29 W30 st31 hb32 hv33 hf34
          refine sx_if (hv33 21 41 (by decide) rfl) (fun h35 => ?_) (fun h35 => ?_)
          · skip
            have h35p := of_decide_eq_false (bnot_t h35)
            refine sx_region ?_
            refine sx rfl (stp_move (v := I ((ovTo xs k + ovRow xs k j : Nat) : Int)) ((hf34 3 rfl).trans hs14_3) ?_)
            refine sx rfl (stp_add rfl rfl (by (simp only [I64] at *; omega)) ?_)
            refine sx rfl (stp_assign (v := I (((ovTo xs k + ovRow xs k j : Nat) : Int) + 1)) rfl ?_)
            refine sx_nil ?_
            refine sx_region ?_
            refine sx rfl (stp_move (v := I (j : Int)) ((hf34 5 rfl).trans hs14_5) ?_)
            refine sx rfl (stp_add rfl rfl (by (simp only [I64] at *; omega)) ?_)
            refine sx rfl (stp_assign (v := I ((j : Int) + 1)) rfl ?_)
            refine sx_nil ?_
            exact ⟨_, k - (j + 1), (by omega), rfl, j + 1, (by omega), rfl, ((hf34 0 rfl).trans hs14_0), (Eq.trans (show _ = I (((ovTo xs k + ovRow xs k j : Nat) : Int) + 1) from rfl) (show I (((ovTo xs k + ovRow xs k j : Nat) : Int) + 1) = I (((ovTo xs k + ovRow xs k (j + 1) : Nat) : Int)) from congrArg I (by have := ovRow_t (xs := xs) (i := k) (j := j) (by omega) (by omega) (by simpa only [List.getElem_take] using lap_t h18 h35); omega))), ((hf34 4 rfl).trans hs14_4), rfl, st31⟩
          · skip
            have h35p := of_decide_eq_true (bnot_f h35)
            refine wp_skip ?_
            refine sx_region ?_
            refine sx rfl (stp_move (v := I (j : Int)) ((hf34 5 rfl).trans hs14_5) ?_)
            refine sx rfl (stp_add rfl rfl (by (simp only [I64] at *; omega)) ?_)
            refine sx rfl (stp_assign (v := I ((j : Int) + 1)) rfl ?_)
            refine sx_nil ?_
            exact ⟨_, k - (j + 1), (by omega), rfl, j + 1, (by omega), rfl, ((hf34 0 rfl).trans hs14_0), (Eq.trans (show _ = I ((ovTo xs k + ovRow xs k j : Nat) : Int) from ((hf34 3 rfl).trans hs14_3)) (show I ((ovTo xs k + ovRow xs k j : Nat) : Int) = I (((ovTo xs k + ovRow xs k (j + 1) : Nat) : Int)) from congrArg I (by have := ovRow_f (xs := xs) (i := k) (j := j) (by omega) (by omega) (by first | (simpa only [List.getElem_take] using lap_f1 h35) | (simpa only [List.getElem_take] using lap_f2 h35)); omega))), ((hf34 4 rfl).trans hs14_4), rfl, st31⟩
      · skip
        have h15p := of_decide_eq_false h15
        refine wp_exit ?_
        refine sx_region ?_
        refine sx rfl (stp_move (v := I (k : Int)) hs14_4 ?_)
        refine sx rfl (stp_add rfl rfl (by (simp only [I64] at *; omega)) ?_)
        refine sx rfl (stp_assign (v := I ((k : Int) + 1)) rfl ?_)
        refine sx_nil ?_
        exact ⟨_, xs.length - (k + 1), (by omega), rfl, k + 1, (by omega), rfl, hs14_0, (Eq.trans (show _ = I ((ovTo xs k + ovRow xs k j : Nat) : Int) from hs14_3) (show I ((ovTo xs k + ovRow xs k j : Nat) : Int) = I (((ovTo xs (k + 1) : Nat) : Int)) from congrArg I (by obtain rfl : j = k := (by omega); rfl))), rfl, st13⟩
    · skip
      have h8p := of_decide_eq_false h8
      refine wp_exit ?_
      refine wp_seq ?_
      refine sx_region ?_
      refine sx rfl (stp_move (v := I ((ovTo xs k : Nat) : Int)) hs7_3 ?_)
      refine sx rfl (stp_assign (v := I ((ovTo xs k : Nat) : Int)) rfl ?_)
      refine sx_nil ?_
      refine wp_ret ?_; repeat (first | refine then_ret ?_ | refine blk_ret ?_)
      refine ret1 Try.results14 rfl ?_
      obtain rfl : k = xs.length := by omega
      exact ⟨congrArg (fun z => Ending.returned (I z)) (by unfold overlaps; rw [if_pos (by omega)]), st6.bare⟩
end Go.Proofs.Ytbnjncjplkbijaa
