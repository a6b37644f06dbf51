/-
  When a shelf is right: of the program and of the reference.
  Copies of plans, runs, entries, yards, of both.
  An entry put on a shelf, of both.
  Bytes of strings; xor; what stands for a number, and its sum.
  The shelf of an id, of both.
  RunAt, Fresh, the entries, of the program and of the reference.
  What a yard gets on its shelf, of the program.
  ReadyOf, OldestOf, of the program and of the reference.
  Slots, and the entries of a run: of the program and of the reference.
-/
import Derived.Laws.IdiomStrings
import Derived.Test.YtchnllpegfbleaaGreatQ01
import Derived.Test.YtchnllpegfbleaaGreatQ02
import Derived.Test.YtchnllpegfbleaaGreatQ03
namespace Go.Proofs.YtchnllpegfbleaaGreat
set_option linter.unusedSimpArgs false
set_option linter.unusedVariables false
set_option maxRecDepth 100000
set_option maxHeartbeats 2000000
open Go.RowKit
def dW (a b : Entry) : Bool := decide (b.prio < a.prio) || (decide (a.prio = b.prio) && decide (a.seq < b.seq))
def nZ (xs : List Entry) (k : Nat) : Prop := ∀ i, i + 1 < k → ∀ h : i + 1 < xs.length, dW xs[i] xs[i + 1] = true
noncomputable def eY (xs : List Entry) : Bool := pB (xs.length ≤ 80 ∧ nZ xs xs.length)
theorem qA {xs : List Entry} {k : Nat} (hk : 1 ≤ k) (h : k < xs.length) (h0 : nZ xs k) (h1 : dW (xs[k - 1]'(by omega)) xs[k] = true) : nZ xs (k + 1) := by
 intro i hi hx
 by_cases h2 : i + 1 < k
 ·exact h0 i h2 hx
 ·have e : i = k - 1 := by omega
  subst e
  have e2 : k - 1 + 1 = k := by omega
  simp only [e2]
  exact h1
theorem sF {xs : List Entry} {k : Nat} (hk : 1 ≤ k) (h : k < xs.length) (h1 : dW (xs[k - 1]'(by omega)) xs[k] = false) : ¬ nZ xs xs.length := by
 intro h0
 have := h0 (k - 1) aD aD
 have e2 : k - 1 + 1 = k := by omega
 simp only [e2] at this
 rw [h1] at this
 cases this

theorem IndexN (w : World) {v : Value} {xs : List Int} {fp : List Nat} (h : Sl w v xs fp) (y : Int) :
  Calls Tryz.prog 144 #[v, I y] w fun e w' => e = .returned (I (ixI (fE (fun x => eqB y x) xs))) ∧ St w w' [] := by
 have hcap := h.len_le
 refine bR Tryz.func144 rfl Tryz.ntmps144 aX (wp_seq (aA (sg (aC (v := I 0) rfl (aB (wp_seq (wp_seq (aA (rn (St.start w) 3 Ag.nil.put.put.put [] [(7, I (xs.length : Int)), (8, I 0)] [ql h] aE fun f4 h4_ => (aB (wp_block (aY (fun (m : Nat) (f : Nat → Value) (W : World) => ∃ (k : Nat), k ≤ xs.length ∧ (xs.take k).any (fun x => eqB y x) = false ∧ m = xs.length - k ∧ Ag [(0, v), (1, I y), (7, I (xs.length : Int)), (8, I (k : Int))] f ∧ St w W ([])) (xs.length - 0) ?_ ?_))))))))))))
 ·exact ⟨0, Nat.zero_le _, rfl, rfl, (h4_.to aE), (St.start w)⟩
 intro m5 f6 W7 hJ8
 obtain ⟨k, hk, hany, rfl, hA10, st9⟩ := hJ8
 refine wp_seq (aA (sg (bS (hA10.at 8) (hA10.at 7) (aB (wp_seq (aK rfl (fun h13p => ?_) (fun h13p => ?_)))))))
 ·refine wp_skip (wp_seq (wp_block (wp_seq (aA (sg (aF (v := I (k : Int)) (hA10.at 8) (sg (aC (v := I (k : Int)) rfl (aB (wp_seq (aA ?_)))))))))))
  have hi51fab : k < xs.length := aD
  have hq_ := idx h (i := k) hi51fab
  obtain ⟨b17, o17, cs17, f17, hp17, hr17, hc17, hm17⟩ := hq_
  have hk17 := hc17
  obtain ⟨rfl, rfl, hok17⟩ := hk17
  refine rn st9 6 hA10.put.put.put [] [(16, .bool (decide (y = (xs[k]'hi51fab))))] [qx hp17, qr hr17 0, .o] aE fun f18 h18_ => (aB (aK (h18_.at 16) (fun h19p => ?_) (fun h19p => ?_)))
  ·refine wp_seq (aA (sg (aF (v := I (k : Int)) (h18_.at 5) (sg (aC (v := I (k : Int)) rfl (aB (wr (aL Tryz.results144 rfl ?_))))))))
   exact ⟨(fI (by rw [jI aD hany (dB h19p)]; try rfl)), st9.bare⟩
  ·refine wp_skip (aA (sg (bY (h18_.at 8) rfl dX (sg (aF (v := I ((k : Int) + 1)) rfl (aB ?_))))))
   exact ⟨_, xs.length - (k + 1), aD, rfl, k + 1, aD, (mU aD hany (dZ h19p)), rfl, (h18_.put.put.to aE), st9⟩
 ·refine wp_exit (wp_seq (aA (sg (aC (v := I (-1)) rfl (aB (wr (aL Tryz.results144 rfl ?_)))))))
  obtain rfl : k = xs.length := by omega
  rw [List.take_length] at hany
  exact ⟨(fI (by rw [jJ hany]; try rfl)), st9.bare⟩
theorem ContN (w : World) {v : Value} {xs : List Int} {fp : List Nat} (h : Sl w v xs fp) (y : Int) :
  Calls Tryz.prog 75 #[v, I y] w fun e w' => e = .returned (.bool (decide (y ∈ xs))) ∧ St w w' [] := by
 refine bR Tryz.func75 rfl Tryz.ntmps75 aX (wp_seq (aA (sg (aC (v := .bool false) rfl (aB (wp_seq (aA (rc (St.start w) 5 Ag.nil.put.put.put [4] [(4, .bool (decide (0 ≤ (ixI (fE (fun x => eqB y x) xs)))))] [qc Tryz.func144 rfl (fun W s b => IndexN W (h.below s.below) y), .o] aE fun f4 W5 h4_ st6 hb7 => (aB (wr (aL Tryz.results75 (h4_.at 4) ?_)))))))))))
 exact ⟨(fB (aB5 y xs)), st6.bare⟩
theorem aC7 (w : World) {a b : Entry} {cs ds : List Value} {fp gp : List Nat} (hc : Shape.C w cs a fp) (hd : Shape.C w ds b gp) :
  Calls Tryz.prog 159 #[.agg cs.toArray, .agg ds.toArray] w fun e w' => e = .returned (.bool (dW a b)) ∧ St w w' [] := by
 refine bR Tryz.func159 rfl Tryz.ntmps159 aX (wp_seq (aA (sg (aJ (cs := cs) rfl (St.start w) ?_)))); intro b1 W2 hb3 st4
 refine sg (aJ (cs := ds) rfl st4 ?_); intro b6 W7 hb8 st9
 refine sg (aC (v := .bool false) rfl (aB (wp_seq (aA ?_))))
 have hk14 := hc
 obtain ⟨he14, rfl, hok14⟩ := hk14
 have he14 : _ = [I a.prio, I a.seq, I a.run, I a.task] := he14
 subst he14
 have hk15 := hd
 obtain ⟨he15, rfl, hok15⟩ := hk15
 have he15 : _ = [I b.prio, I b.seq, I b.run, I b.task] := he15
 subst he15
 rcases nem (b.prio < a.prio) with h16p | h16p
 ·have h16 := decide_eq_false h16p
  rcases nem (a.prio = b.prio) with h17p | h17p
  ·have h17 := decide_eq_false h17p
   refine rn st9 20 Ag.nil.put.put.put.put.put [4] [(4, .bool false)] [qb 1 rfl 0, qb 0 rfl 0, qk h16, qb 1 rfl 0, qb 0 rfl 0, qk h17] aE fun f18 h18_ => (aB (wr (aL Tryz.results159 (h18_.at 4) ?_)))
   exact ⟨(fB (by unfold dW; simp only [h16, h17, decide_true, decide_false, Bool.true_or, Bool.false_or, Bool.false_and, Bool.true_and, Bool.or_false, Bool.or_true, Bool.and_true, Bool.and_false])), st9.bare⟩
  ·have h17 := decide_eq_true h17p
   refine rn st9 20 Ag.nil.put.put.put.put.put [4] [(4, .bool (decide (a.seq < b.seq)))] [qb 1 rfl 0, qb 0 rfl 0, qk h16, qb 1 rfl 0, qb 0 rfl 0, qk h17, qb 1 rfl 1, qb 0 rfl 1, .o] aE fun f19 h19_ => (aB ?_)
   rcases nem (a.seq < b.seq) with h20p | h20p
   ·have h20 := decide_eq_false h20p
    refine wr (aL Tryz.results159 ((h19_.at 4).trans (congrArg Value.bool h20)) ?_)
    exact ⟨(fB (by unfold dW; simp only [h16, h17, h20, decide_true, decide_false, Bool.true_or, Bool.false_or, Bool.false_and, Bool.true_and, Bool.or_false, Bool.or_true, Bool.and_true, Bool.and_false])), st9.bare⟩
   ·have h20 := decide_eq_true h20p
    refine wr (aL Tryz.results159 ((h19_.at 4).trans (congrArg Value.bool h20)) ?_)
    exact ⟨(fB (by unfold dW; simp only [h16, h17, h20, decide_true, decide_false, Bool.true_or, Bool.false_or, Bool.false_and, Bool.true_and, Bool.or_false, Bool.or_true, Bool.and_true, Bool.and_false])), st9.bare⟩
 ·have h16 := decide_eq_true h16p
  refine rn st9 20 Ag.nil.put.put.put.put.put [4] [(4, .bool true)] [qb 1 rfl 0, qb 0 rfl 0, qk h16] aE fun f21 h21_ => (aB (wr (aL Tryz.results159 (h21_.at 4) ?_)))
  exact ⟨(fB (by unfold dW; simp only [h16, decide_true, decide_false, Bool.true_or, Bool.false_or, Bool.false_and, Bool.true_and, Bool.or_false, Bool.or_true, Bool.and_true, Bool.and_false])), st9.bare⟩
theorem aC6 (w : World) {a b : Entry} {cs ds : List Value} {fp gp : List Nat} (hc : Shape.C w cs a fp) (hd : Shape.C w ds b gp) :
  Calls Tryz.prog 211 #[.agg cs.toArray, .agg ds.toArray] w fun e w' => e = .returned (.bool (dW a b)) ∧ St w w' [] := by
 refine bR Tryz.func211 rfl Tryz.ntmps211 aX (wp_seq (aA (sg (aJ (cs := cs) rfl (St.start w) ?_)))); intro b1 W2 hb3 st4
 refine sg (aJ (cs := ds) rfl st4 ?_); intro b6 W7 hb8 st9
 refine sg (aC (v := .bool false) rfl (aB (wp_seq (aA ?_))))
 have hk14 := hc
 obtain ⟨he14, rfl, hok14⟩ := hk14
 have he14 : _ = [I a.prio, I a.seq, I a.run, I a.task] := he14
 subst he14
 have hk15 := hd
 obtain ⟨he15, rfl, hok15⟩ := hk15
 have he15 : _ = [I b.prio, I b.seq, I b.run, I b.task] := he15
 subst he15
 rcases nem (b.prio < a.prio) with h16p | h16p
 ·have h16 := decide_eq_false h16p
  rcases nem (a.prio = b.prio) with h17p | h17p
  ·have h17 := decide_eq_false h17p
   refine rn st9 20 Ag.nil.put.put.put.put.put [4] [(4, .bool false)] [qb 1 rfl 0, qb 0 rfl 0, qk h16, qb 1 rfl 0, qb 0 rfl 0, qk h17] aE fun f18 h18_ => (aB (wr (aL Tryz.results211 (h18_.at 4) ?_)))
   exact ⟨(fB (by unfold dW; simp only [h16, h17, decide_true, decide_false, Bool.true_or, Bool.false_or, Bool.false_and, Bool.true_and, Bool.or_false, Bool.or_true, Bool.and_true, Bool.and_false])), st9.bare⟩
  ·have h17 := decide_eq_true h17p
   refine rn st9 20 Ag.nil.put.put.put.put.put [4] [(4, .bool (decide (a.seq < b.seq)))] [qb 1 rfl 0, qb 0 rfl 0, qk h16, qb 1 rfl 0, qb 0 rfl 0, qk h17, qb 1 rfl 1, qb 0 rfl 1, .o] aE fun f19 h19_ => (aB ?_)
   rcases nem (a.seq < b.seq) with h20p | h20p
   ·have h20 := decide_eq_false h20p
    refine wr (aL Tryz.results211 ((h19_.at 4).trans (congrArg Value.bool h20)) ?_)
    exact ⟨(fB (by unfold dW; simp only [h16, h17, h20, decide_true, decide_false, Bool.true_or, Bool.false_or, Bool.false_and, Bool.true_and, Bool.or_false, Bool.or_true, Bool.and_true, Bool.and_false])), st9.bare⟩
   ·have h20 := decide_eq_true h20p
    refine wr (aL Tryz.results211 ((h19_.at 4).trans (congrArg Value.bool h20)) ?_)
    exact ⟨(fB (by unfold dW; simp only [h16, h17, h20, decide_true, decide_false, Bool.true_or, Bool.false_or, Bool.false_and, Bool.true_and, Bool.or_false, Bool.or_true, Bool.and_true, Bool.and_false])), st9.bare⟩
 ·have h16 := decide_eq_true h16p
  refine rn st9 20 Ag.nil.put.put.put.put.put [4] [(4, .bool true)] [qb 1 rfl 0, qb 0 rfl 0, qk h16] aE fun f21 h21_ => (aB (wr (aL Tryz.results211 (h21_.at 4) ?_)))
  exact ⟨(fB (by unfold dW; simp only [h16, decide_true, decide_false, Bool.true_or, Bool.false_or, Bool.false_and, Bool.true_and, Bool.or_false, Bool.or_true, Bool.and_true, Bool.and_false])), st9.bare⟩
theorem ShelfOkI (w : World) {v : Value} {xs : List Entry} {fp : List Nat} (h : Sl w v xs fp) :
  Calls Tryz.prog 95 #[v] w fun e w' => e = .returned (.bool (eY xs)) ∧ St w w' [] := by
 have hcap := h.len_le
 refine cR Tryz.func95 rfl Tryz.ntmps95 aX (wp_seq (aA (sg (aC (v := .bool false) rfl (aB (wp_seq (wp_seq (aA (sg (aC (v := I 1) rfl (aB (wp_block (aY (fun (m : Nat) (f : Nat → Value) (W : World) => ∃ (k : Nat), 1 ≤ k ∧ (k ≤ xs.length ∨ k = 1) ∧ nZ xs k ∧ m = xs.length - k ∧ Ag [(0, v), (3, I (k : Int))] f ∧ St w W ([])) (xs.length - 1) ?_ ?_)))))))))))))
 ·exact ⟨1, aD, aD, (fun i hi => by omega), rfl, (Ag.nil.put.put.put.to aE), (St.start w)⟩
 intro m5 f6 W7 hJ8
 obtain ⟨k, hk1, hk, hS, rfl, hA10, st9⟩ := hJ8
 refine wp_seq (wp_seq (aA (rn st9 4 hA10 [] [(7, .bool (decide ((k : Int) < (xs.length : Int))))] [ql h, .o] aE fun f12 h12_ => (aB (aK (h12_.at 7) (fun h13p => ?_) (fun h13p => ?_))))))
 ·refine wp_skip (wp_seq (wp_block (wp_seq ?_)))
  have hid0318 : ((k : Int) - 1).toNat < xs.length := aD
  have hq_ := idx h (i := ((k : Int) - 1).toNat) hid0318
  obtain ⟨b15, o15, cs15, f15, hp15, hr15, hc15, hm15⟩ := hq_
  have hk16 := hc15
  obtain ⟨he16, rfl, hok16⟩ := hk16
  have he16 : _ = [I (xs[((k : Int) - 1).toNat]'hid0318).prio, I (xs[((k : Int) - 1).toNat]'hid0318).seq, I (xs[((k : Int) - 1).toNat]'hid0318).run, I (xs[((k : Int) - 1).toNat]'hid0318).task] := he16
  subst he16
  have hi51fab : k < xs.length := aD
  have hq_ := idx h (i := k) hi51fab
  obtain ⟨b17, o17, cs17, f17, hp17, hr17, hc17, hm17⟩ := hq_
  have hk18 := hc17
  obtain ⟨he18, rfl, hok18⟩ := hk18
  have he18 : _ = [I (xs[k]'hi51fab).prio, I (xs[k]'hi51fab).seq, I (xs[k]'hi51fab).run, I (xs[k]'hi51fab).task] := he18
  subst he18
  refine rd st9 h12_ [] [(20, .bool (!(dW (xs[((k : Int) - 1).toNat]'hid0318) (xs[k]'hi51fab))))] [qsb (k : Int) 1, qxe hp15 (e := (k : Int) - 1) aD, qr hr15 0, qx hp17, qr hr17 0, qc (args := [.agg #[I (xs[((k : Int) - 1).toNat]'hid0318).prio, I (xs[((k : Int) - 1).toNat]'hid0318).seq, I (xs[((k : Int) - 1).toNat]'hid0318).run, I (xs[((k : Int) - 1).toNat]'hid0318).task], .agg #[I (xs[k]'hi51fab).prio, I (xs[k]'hi51fab).seq, I (xs[k]'hi51fab).run, I (xs[k]'hi51fab).task]]) (v := .bool (dW (xs[((k : Int) - 1).toNat]'hid0318) (xs[k]'hi51fab))) Tryz.func159 rfl (fun W s b => aC7 W hc15 hc17), .o] aE aE fun f19 W20 h19_ st21 hb22 => (cT (h19_.at 20) (fun h23 => ?_) (fun h23 => ?_))
  ·refine wp_seq (aA (sg (aC (v := .bool false) rfl (aB (wr (aL Tryz.results95 rfl ?_))))))
   exact ⟨(fB (by unfold eY; rw [cQ (fun hz => sF (k := k) aD aD ((by have hz := aW h23; rw [← hz]; simp only [show ((k : Int) - 1).toNat = k - 1 by omega])) hz.2)])), st21.bare⟩
  ·refine wp_skip (aA (rn st21 3 h19_ [3] [(3, I ((k : Int) + 1))] [qad (k : Int) 1] aE fun f27 h27_ => (aB ?_)))
   exact ⟨_, xs.length - (k + 1), aD, rfl, k + 1, aD, aD, (qA aD aD hS (by have hz := bG h23; rw [← hz]; simp only [show ((k : Int) - 1).toNat = k - 1 by omega])), rfl, (h27_.to aE), st21⟩
 ·refine wp_exit (wp_seq (aA (rn st9 4 h12_ [] [(2, .bool (decide ((xs.length : Int) ≤ 80)))] [ql h, .o] aE fun f29 h29_ => (aB ?_))))
  rcases nem ((xs.length : Int) ≤ 80) with h30p | h30p
  ·have h30 := decide_eq_false h30p
   refine wr (aL Tryz.results95 ((h29_.at 2).trans (congrArg Value.bool h30)) ?_)
   exact ⟨(fB (by unfold eY; rw [cQ (fun hz => by omega)])), st9.bare⟩
  ·have h30 := decide_eq_true h30p
   refine wr (aL Tryz.results95 ((h29_.at 2).trans (congrArg Value.bool h30)) ?_)
   exact ⟨(fB (by unfold eY; rw [gG ⟨by omega, by intro i hi hx; exact hS i aD hx⟩])), st9.bare⟩
theorem ShelfOkS (w : World) {v : Value} {xs : List Entry} {fp : List Nat} (h : Sl w v xs fp) :
  Calls Tryz.prog 154 #[v] w fun e w' => e = .returned (.bool (eY xs)) ∧ St w w' [] := by
 have hcap := h.len_le
 refine cR Tryz.func154 rfl Tryz.ntmps154 aX (wp_seq (aA (sg (aC (v := .bool false) rfl (aB (wp_seq (wp_seq (aA (rn (St.start w) 3 Ag.nil.put.put [] [(6, .bool (decide (80 < (xs.length : Int))))] [ql h, .o] aE fun f4 h4_ => (aB (aK (h4_.at 6) (fun h5p => ?_) (fun h5p => ?_))))))))))))
 ·refine wp_seq (aA (sg (aC (v := .bool false) rfl (aB (wr (aL Tryz.results154 rfl ?_))))))
  exact ⟨(fB (by unfold eY; rw [cQ (fun hz => by omega)])), (St.start w).bare⟩
 ·refine wp_skip (wp_seq (wp_seq (aA (sg (aC (v := I 1) rfl (aB (wp_block (aY (fun (m : Nat) (f : Nat → Value) (W : World) => ∃ (k : Nat), 1 ≤ k ∧ (k ≤ xs.length ∨ k = 1) ∧ nZ xs k ∧ m = xs.length - k ∧ Ag [(0, v), (3, I (k : Int))] f ∧ St w W ([])) (xs.length - 1) ?_ ?_))))))))
  ·exact ⟨1, aD, aD, (fun i hi => by omega), rfl, (h4_.put.to aE), (St.start w)⟩
  intro m10 f11 W12 hJ13
  obtain ⟨k, hk1, hk, hS, rfl, hA15, st14⟩ := hJ13
  refine wp_seq (wp_seq (aA (rn st14 4 hA15 [] [(10, .bool (decide ((k : Int) < (xs.length : Int))))] [ql h, .o] aE fun f17 h17_ => (aB (aK (h17_.at 10) (fun h18p => ?_) (fun h18p => ?_))))))
  ·refine wp_skip (wp_seq (wp_block (wp_seq ?_)))
   have hid0318 : ((k : Int) - 1).toNat < xs.length := aD
   have hq_ := idx h (i := ((k : Int) - 1).toNat) hid0318
   obtain ⟨b20, o20, cs20, f20, hp20, hr20, hc20, hm20⟩ := hq_
   have hk21 := hc20
   obtain ⟨he21, rfl, hok21⟩ := hk21
   have he21 : _ = [I (xs[((k : Int) - 1).toNat]'hid0318).prio, I (xs[((k : Int) - 1).toNat]'hid0318).seq, I (xs[((k : Int) - 1).toNat]'hid0318).run, I (xs[((k : Int) - 1).toNat]'hid0318).task] := he21
   subst he21
   have hi51fab : k < xs.length := aD
   have hq_ := idx h (i := k) hi51fab
   obtain ⟨b22, o22, cs22, f22, hp22, hr22, hc22, hm22⟩ := hq_
   have hk23 := hc22
   obtain ⟨he23, rfl, hok23⟩ := hk23
   have he23 : _ = [I (xs[k]'hi51fab).prio, I (xs[k]'hi51fab).seq, I (xs[k]'hi51fab).run, I (xs[k]'hi51fab).task] := he23
   subst he23
   refine rd st14 h17_ [] [(23, .bool (!(dW (xs[((k : Int) - 1).toNat]'hid0318) (xs[k]'hi51fab))))] [qsb (k : Int) 1, qxe hp20 (e := (k : Int) - 1) aD, qr hr20 0, qx hp22, qr hr22 0, qc (args := [.agg #[I (xs[((k : Int) - 1).toNat]'hid0318).prio, I (xs[((k : Int) - 1).toNat]'hid0318).seq, I (xs[((k : Int) - 1).toNat]'hid0318).run, I (xs[((k : Int) - 1).toNat]'hid0318).task], .agg #[I (xs[k]'hi51fab).prio, I (xs[k]'hi51fab).seq, I (xs[k]'hi51fab).run, I (xs[k]'hi51fab).task]]) (v := .bool (dW (xs[((k : Int) - 1).toNat]'hid0318) (xs[k]'hi51fab))) Tryz.func211 rfl (fun W s b => aC6 W hc20 hc22), .o] aE aE fun f24 W25 h24_ st26 hb27 => (cT (h24_.at 23) (fun h28 => ?_) (fun h28 => ?_))
   ·refine wp_seq (aA (sg (aC (v := .bool false) rfl (aB (wr (aL Tryz.results154 rfl ?_))))))
    exact ⟨(fB (by unfold eY; rw [cQ (fun hz => sF (k := k) aD aD ((by have hz := aW h28; rw [← hz]; simp only [show ((k : Int) - 1).toNat = k - 1 by omega])) hz.2)])), st26.bare⟩
   ·refine wp_skip (aA (rn st26 3 h24_ [3] [(3, I ((k : Int) + 1))] [qad (k : Int) 1] aE fun f32 h32_ => (aB ?_)))
    exact ⟨_, xs.length - (k + 1), aD, rfl, k + 1, aD, aD, (qA aD aD hS (by have hz := bG h28; rw [← hz]; simp only [show ((k : Int) - 1).toNat = k - 1 by omega])), rfl, (h32_.to aE), st26⟩
  ·refine wp_exit (wp_seq (aA (sg (aC (v := .bool true) rfl (aB (wr (aL Tryz.results154 rfl ?_)))))))
   exact ⟨(fB (by unfold eY; rw [gG ⟨by omega, by intro i hi hx; exact hS i aD hx⟩])), st14.bare⟩
theorem wD (xs : List (List Entry)) (k : Nat) (h : k < xs.length) : xs.take k ++ [xs[k]] = xs.take (k + 1) := (List.take_succ_eq_append_getElem h).symm
theorem xV (xs : List Run) (k : Nat) (h : k < xs.length) : xs.take k ++ [xs[k]] = xs.take (k + 1) := (List.take_succ_eq_append_getElem h).symm
theorem nY (y : Yard) (k : Nat) (h : k < y.shelf.length) : y.shelf[k].length + y.shelf.length ≤ y.wt := by
 unfold Yard.wt wtL
 have := pO (fun z : List Entry => z.length) y.shelf k h
 omega

theorem fM (w : World) {v : Value} {xs : List Entry} {fp : List Nat} (h : Sl w v xs fp) (hw : xs.length ≤ 1048576) :
  Calls Tryz.prog 174 #[v] w fun e w' => ∃ (v' : Value), e = .returned v' ∧ St w w' [Res.row 131 v' xs []] := by
 refine cR Tryz.func174 rfl Tryz.ntmps174 aX (wp_seq (aA (sg (aC (v := .slice none 0 0) rfl (aB (wp_seq (aA (sg (aF (v := v) rfl ?_)))))))))
 have st5 := (St.start w).row_nil (α := Entry) 131
 refine sg (cE eI cA rfl rfl h (Below.refl _ _) st5 (by simp only [List.length_nil]; unfold maxLen; omega) (by simp only [List.length_nil]; omega) ?_); intro v7 W8 st9
 refine sg (aC (v := v7) rfl (aB (wr (aL Tryz.results174 rfl ?_))))
 exact ⟨_, rfl, st9.only 0 rfl⟩
theorem CopyPlanI (w : World) {p : Plan} {cs : List Value} {fp : List Nat} (hc : Shape.C w cs p fp) (hw : p.wt ≤ 1048576) :
  Calls Tryz.prog 222 #[.agg cs.toArray] w fun e w' => ∃ (cs' : List Value) (fp' : List Nat), e = .returned (.agg cs'.toArray) ∧ St w w' [Res.own (.agg cs'.toArray) p fp'] := by
 have hw2 : p.edges.length ≤ 1048576 := hw
 refine cR Tryz.func222 rfl Tryz.ntmps222 aX (wp_seq (aA (sg (aJ (cs := cs) rfl (St.start w) ?_)))); intro b1 W2 hb3 st4
 refine sg (aR sR st4 ?_); intro b6 W7 hb8 st9
 refine aB (wp_seq (aA ?_))
 have hk12 := hc
 obtain ⟨v12_0, g12_0, rfl, hok12, h12_0, rfl⟩ := hk12
 refine sg (aH iT rfl (sg (aU nM rfl rfl (st9.get 1 rfl) (i := 4) rfl rfl ?_)))
 have st14 := st9.row_nil (α := Edge) 176
 refine sg (cE tW rG rfl rfl h12_0 st14.below st14 (by simp only [List.length_nil]; unfold maxLen; omega) (by simp only [List.length_nil]; omega) ?_); intro v16 W17 st18
 refine sg (aH iT rfl (sgn (aQ (v := v16) (C' := [I p.prio, I p.most, I p.wait, I p.tasks, v16]) aE rfl rfl (Sl.cells (bW (st18.f2.get 1 rfl))) (Sl.one (bW (st18.f2.get 1 rfl))) st18.f2 bP rfl ?_))); intro W22 st23
 refine aB (wp_seq (aA (sg (aV (cs := [I p.prio, I p.most, I p.wait, I p.tasks, v16]) jO rfl rfl (st23.get 0 rfl) rfl rfl (sgn (aM (cs := [I p.prio, I p.most, I p.wait, I p.tasks, v16]) (C' := [I p.prio, I p.most, I p.wait, I p.tasks, v16]) aE rfl rfl (aG rfl (aG rfl (aG rfl (aG rfl (aG (Sl.one (bW (st23.f2.get 2 rfl))) bK))))) st23.f2 bP rfl ?_)))))); intro W27 st28
 refine aB (wr (eO jO rfl Tryz.results222 rfl (st28.get 0 rfl) rfl ?_))
 have hq_ := st28.f2.shut
 obtain ⟨fp31, st30⟩ := hq_
 have st32 := rS (x := p) st30 eS
 exact ⟨_, _, rfl, st32.only 0 rfl⟩
theorem CopyPlanS (w : World) {p : Plan} {cs : List Value} {fp : List Nat} (hc : Shape.C w cs p fp) (hw : p.wt ≤ 1048576) :
  Calls Tryz.prog 193 #[.agg cs.toArray] w fun e w' => ∃ (cs' : List Value) (fp' : List Nat), e = .returned (.agg cs'.toArray) ∧ St w w' [Res.own (.agg cs'.toArray) p fp'] := by
 have hw2 : p.edges.length ≤ 1048576 := hw
 refine cR Tryz.func193 rfl Tryz.ntmps193 aX (wp_seq (aA (sg (aJ (cs := cs) rfl (St.start w) ?_)))); intro b1 W2 hb3 st4
 refine sg (aR sR st4 ?_); intro b6 W7 hb8 st9
 refine aB (wp_seq (aA (sg (aT (cs := []) (e := 176) eA (bV rG _) st9 ?_)))); intro b11 W12 hb13 st14
 have st14 := st14.row_empty (α := Edge)
 have hk17 := hc
 obtain ⟨v17_0, g17_0, rfl, hok17, h17_0, rfl⟩ := hk17
 refine sg (aH iT rfl (sg (aU nM rfl rfl (st14.get 2 rfl) (i := 4) rfl rfl (sg (cE tW rG rfl rfl h17_0 st14.below st14 (by simp only [List.length_nil]; unfold maxLen; omega) (by simp only [List.length_nil]; omega) ?_))))); intro v19 W20 st21
 refine sg (aH iT rfl (sgn (aQ (v := v19) (C' := [I p.prio, I p.most, I p.wait, I p.tasks, v19]) aE rfl rfl (Sl.cells (bW (st21.f2.get 1 rfl))) (Sl.one (bW (st21.f2.get 1 rfl))) st21.f2 bP rfl ?_))); intro W25 st26
 refine aB (wp_seq (aA (sg (aV (cs := [I p.prio, I p.most, I p.wait, I p.tasks, v19]) jO rfl rfl (st26.get 0 rfl) rfl rfl (sgn (aM (cs := [I p.prio, I p.most, I p.wait, I p.tasks, v19]) (C' := [I p.prio, I p.most, I p.wait, I p.tasks, v19]) aE rfl rfl (aG rfl (aG rfl (aG rfl (aG rfl (aG (Sl.one (bW (st26.f2.get 2 rfl))) bK))))) st26.f2 bP rfl ?_)))))); intro W30 st31
 refine aB (wr (eO jO rfl Tryz.results193 rfl (st31.get 0 rfl) rfl ?_))
 have hq_ := st31.f2.shut
 obtain ⟨fp34, st33⟩ := hq_
 have st35 := rS (x := p) st33 eS
 exact ⟨_, _, rfl, st35.only 0 rfl⟩
theorem CopyRunI (w : World) {r : Run} {cs : List Value} {fp : List Nat} (hc : Shape.C w cs r fp) (hw : r.wt ≤ 1048576) :
  Calls Tryz.prog 175 #[.agg cs.toArray] w fun e w' => ∃ (cs' : List Value) (fp' : List Nat), e = .returned (.agg cs'.toArray) ∧ St w w' [Res.own (.agg cs'.toArray) r fp'] := by
 have hw2 : r.plan.wt + r.tasks.length ≤ 1048576 := hw
 refine cR Tryz.func175 rfl Tryz.ntmps175 aX (wp_seq (aA (sg (aJ (cs := cs) rfl (St.start w) ?_)))); intro b1 W2 hb3 st4
 refine sg (aR jV st4 ?_); intro b6 W7 hb8 st9
 refine aB (wp_seq (aA ?_))
 have hk12 := hc
 obtain ⟨v12_0, v12_1, g12_0, g12_1, rfl, hok12, h12_0, h12_1, rfl⟩ := hk12
 refine sg (aH jU rfl (sg (aV (cs := [I r.plan.prio, I r.plan.most, I r.plan.wait, I r.plan.tasks, v12_0]) jO rfl rfl (st9.get 1 rfl) rfl rfl (sg (bF Tryz.func222 rfl rfl ((CopyPlanI W7 (show Shape.C _ [I r.plan.prio, I r.plan.most, I r.plan.wait, I r.plan.tasks, v12_0] r.plan _ from ⟨_, _, rfl, eS, (h12_0.below st9.below), rfl⟩) aD).mono ?_)))))); rintro _ W16 ⟨cs14, fp14, rfl, hk17⟩; refine ⟨_, rfl, ?_⟩
 have st18 := St.call st9 hk17
 refine sg (aH jU rfl ?_)
 have hq_ := rU st18
 obtain ⟨v22_0, g22_0, he22, hok22, st23⟩ := hq_
 subst he22
 refine sgn (aM (cs := [I r.plan.prio, I r.plan.most, I r.plan.wait, I r.plan.tasks, v22_0]) (C' := [I r.id, I r.plan.prio, I r.plan.most, I r.plan.wait, I r.plan.tasks, v22_0, I r.state, v12_1]) aE rfl rfl (aG rfl (aG rfl (aG rfl (aG rfl (aG (Sl.one (aI (st23.f2.get 1 rfl))) bK))))) st23.f2 bP rfl ?_); intro W26 st27
 refine aB (wp_seq (aA (sg (aH jC rfl (sg (aU nL rfl rfl (st27.get 0 rfl) (i := 7) rfl rfl ?_))))))
 have st30 := st27.row_nil (α := Task) 140
 refine sg (cE tV rE rfl rfl h12_1 st30.below st30 (by simp only [List.length_nil]; unfold maxLen; omega) (by simp only [List.length_nil]; omega) ?_); intro v32 W33 st34
 refine sg (aH jC rfl (sgn (aQ (v := v32) (C' := [I r.id, I r.plan.prio, I r.plan.most, I r.plan.wait, I r.plan.tasks, v22_0, I r.state, v32]) aE rfl rfl (Sl.cells (bW (st34.f1.get 1 rfl))) (Sl.one (bW (st34.f1.get 1 rfl))) st34.f1 bP rfl ?_))); intro W38 st39
 refine aB (wp_seq (aA (sg (aV (cs := [I r.id, I r.plan.prio, I r.plan.most, I r.plan.wait, I r.plan.tasks, v22_0, I r.state, v32]) eC rfl rfl (st39.get 0 rfl) rfl rfl (sgn (aM (cs := [I r.id, I r.plan.prio, I r.plan.most, I r.plan.wait, I r.plan.tasks, v22_0, I r.state, v32]) (C' := [I r.id, I r.plan.prio, I r.plan.most, I r.plan.wait, I r.plan.tasks, v22_0, I r.state, v32]) aE rfl rfl (aG rfl (aG rfl (aG rfl (aG rfl (aG rfl (aG (Sl.one (aI (st39.f3.get 3 rfl))) (aG rfl (aG (Sl.one (bW (st39.f3.get 2 rfl))) bK)))))))) st39.f3 bP rfl ?_)))))); intro W43 st44
 refine aB (wr (eO eC rfl Tryz.results175 rfl (st44.get 0 rfl) rfl ?_))
 have hq_ := st44.f2.shut
 obtain ⟨fp47, st46⟩ := hq_
 have st49 := iH (x := r) st46.f3 eS
 exact ⟨_, _, rfl, st49.only 0 rfl⟩
theorem vB (w : World) {r : Run} {cs : List Value} {fp : List Nat} (hc : Shape.C w cs r fp) (hw : r.wt ≤ 1048576) :
  Calls Tryz.prog 136 #[.agg cs.toArray] w fun e w' => ∃ (cs' : List Value) (fp' : List Nat), e = .returned (.agg cs'.toArray) ∧ St w w' [Res.own (.agg cs'.toArray) r fp'] := by
 have hw2 : r.plan.wt + r.tasks.length ≤ 1048576 := hw
 refine cR Tryz.func136 rfl Tryz.ntmps136 aX (wp_seq (aA (sg (aJ (cs := cs) rfl (St.start w) ?_)))); intro b1 W2 hb3 st4
 refine sg (aR jV st4 ?_); intro b6 W7 hb8 st9
 refine aB (wp_seq (aA ?_))
 have hk12 := hc
 obtain ⟨v12_0, v12_1, g12_0, g12_1, rfl, hok12, h12_0, h12_1, rfl⟩ := hk12
 refine sg (aH jU rfl (sg (aV (cs := [I r.plan.prio, I r.plan.most, I r.plan.wait, I r.plan.tasks, v12_0]) jO rfl rfl (st9.get 1 rfl) rfl rfl (sg (bF Tryz.func193 rfl rfl ((CopyPlanS W7 (show Shape.C _ [I r.plan.prio, I r.plan.most, I r.plan.wait, I r.plan.tasks, v12_0] r.plan _ from ⟨_, _, rfl, eS, (h12_0.below st9.below), rfl⟩) aD).mono ?_)))))); rintro _ W16 ⟨cs14, fp14, rfl, hk17⟩; refine ⟨_, rfl, ?_⟩
 have st18 := St.call st9 hk17
 refine sg (aH jU rfl ?_)
 have hq_ := rU st18
 obtain ⟨v22_0, g22_0, he22, hok22, st23⟩ := hq_
 subst he22
 refine sgn (aM (cs := [I r.plan.prio, I r.plan.most, I r.plan.wait, I r.plan.tasks, v22_0]) (C' := [I r.id, I r.plan.prio, I r.plan.most, I r.plan.wait, I r.plan.tasks, v22_0, I r.state, v12_1]) aE rfl rfl (aG rfl (aG rfl (aG rfl (aG rfl (aG (Sl.one (aI (st23.f2.get 1 rfl))) bK))))) st23.f2 bP rfl ?_); intro W26 st27
 refine aB (wp_seq (aA (sg (aT (cs := []) (e := 140) eA (bV rE _) st27 ?_)))); intro b28 W29 hb30 st31
 have st31 := st31.row_empty (α := Task)
 refine sg (aH jC rfl (sg (aU nL rfl rfl (st31.get 1 rfl) (i := 7) rfl rfl (sg (cE tV rE rfl rfl h12_1 st31.below st31 (by simp only [List.length_nil]; unfold maxLen; omega) (by simp only [List.length_nil]; omega) ?_))))); intro v35 W36 st37
 refine sg (aH jC rfl (sgn (aQ (v := v35) (C' := [I r.id, I r.plan.prio, I r.plan.most, I r.plan.wait, I r.plan.tasks, v22_0, I r.state, v35]) aE rfl rfl (Sl.cells (bW (st37.f1.get 1 rfl))) (Sl.one (bW (st37.f1.get 1 rfl))) st37.f1 bP rfl ?_))); intro W41 st42
 refine aB (wp_seq (aA (sg (aV (cs := [I r.id, I r.plan.prio, I r.plan.most, I r.plan.wait, I r.plan.tasks, v22_0, I r.state, v35]) eC rfl rfl (st42.get 0 rfl) rfl rfl (sgn (aM (cs := [I r.id, I r.plan.prio, I r.plan.most, I r.plan.wait, I r.plan.tasks, v22_0, I r.state, v35]) (C' := [I r.id, I r.plan.prio, I r.plan.most, I r.plan.wait, I r.plan.tasks, v22_0, I r.state, v35]) aE rfl rfl (aG rfl (aG rfl (aG rfl (aG rfl (aG rfl (aG (Sl.one (aI (st42.f3.get 3 rfl))) (aG rfl (aG (Sl.one (bW (st42.f3.get 2 rfl))) bK)))))))) st42.f3 bP rfl ?_)))))); intro W46 st47
 refine aB (wr (eO eC rfl Tryz.results136 rfl (st47.get 0 rfl) rfl ?_))
 have hq_ := st47.f2.shut
 obtain ⟨fp50, st49⟩ := hq_
 have st52 := iH (x := r) st49.f3 eS
 exact ⟨_, _, rfl, st52.only 0 rfl⟩
theorem mF (w : World) {y : Yard} {cs : List Value} {fp : List Nat} (hc : Shape.C w cs y fp) (hw : y.wt ≤ 1048576) :
  Calls Tryz.prog 108 #[.agg cs.toArray] w fun e w' => ∃ (cs' : List Value) (fp' : List Nat), e = .returned (.agg cs'.toArray) ∧ St w w' [Res.own (.agg cs'.toArray) y fp'] := by
 have hys : y.shelf.length + y.runs.length ≤ y.wt := by unfold Yard.wt wtL; omega
 refine cR Tryz.func108 rfl Tryz.ntmps108 aX (wp_seq (aA (sg (aJ (cs := cs) rfl (St.start w) ?_)))); intro b1 W2 hb3 st4
 refine sg (aR fA st4 ?_); intro b6 W7 hb8 st9
 refine aB (wp_seq (aA ?_))
 have hk12 := hc
 obtain ⟨v12_0, v12_1, g12_0, g12_1, rfl, hok12, h12_0, h12_1, rfl⟩ := hk12
 refine rn st9 4 Ag.nil.put.put.put [] [(9, I y.now), (11, I y.seq)] [qb 1 rfl 0, qb 1 rfl 1] aE fun f13 h13_ => (sg (eJ (vs := [(0, I y.now), (1, I y.seq)]) (cs := [I y.now, I y.seq, .slice none 0 0, .slice none 0 0]) (cY (v := I y.now) (h13_.at 9) (cY (v := I y.seq) (h13_.at 11) eA)) aE (sg (aR fA st9 ?_)))); intro b14 W15 hb16 st17
 refine sgn (aM (cs := [I y.now, I y.seq, .slice none 0 0, .slice none 0 0]) (C' := [I y.now, I y.seq, .slice none 0 0, .slice none 0 0]) aE rfl rfl (aG rfl (aG rfl (aG rfl (aG rfl bK)))) st17 bP rfl ?_); intro W19 st20
 refine aB (wp_seq (wp_seq (aA (rn st20 4 h13_.put.put [] [(14, v12_0), (15, I (y.shelf.length : Int)), (16, I 0)] [qb 2 rfl 2, ql h12_0] aE fun f22 h22_ => (aB (wp_block ?_))))))
 have st23 := st20.row_nil (α := (List Entry)) 124
 refine aY (fun (m : Nat) (f : Nat → Value) (W : World) => ∃ (k : Nat) (v25 : Value) (fe26 : List Nat), k ≤ y.shelf.length ∧ m = y.shelf.length - k ∧ Ag [(1, .pointer (some ⟨b1, 0, none⟩)), (2, .pointer (some ⟨b6, 0, none⟩)), (3, .pointer (some ⟨b14, 0, none⟩)), (14, v12_0), (15, I (y.shelf.length : Int)), (16, I (k : Int))] f ∧ St w W ([Res.row (α := (List Entry)) 124 v25 (y.shelf.take k) fe26, Res.bx b14 [I y.now, I y.seq, v25, .slice none 0 0] 34, Res.bx b6 [I 0, I 0, .slice none 0 0, .slice none 0 0] 34, Res.bx b1 [I y.now, I y.seq, v12_0, v12_1] 34])) (y.shelf.length - 0) ?_ ?_
 ·exact ⟨0, (.slice none 0 0), [], Nat.zero_le _, rfl, (h22_.to aE), st23⟩
 intro m27 f28 W29 hJ30
 obtain ⟨k, v25, fe26, hcd32_0, rfl, hA32, st31⟩ := hJ30
 refine wp_seq (aA (sg (bS (hA32.at 16) (hA32.at 15) (aB (wp_seq (aK rfl (fun h35p => ?_) (fun h35p => ?_)))))))
 ·refine wp_skip (wp_seq (wp_block (wp_seq (aA ?_))))
  have hi019db : k < y.shelf.length := aD
  have hq_ := idx h12_0 (i := k) hi019db
  obtain ⟨b36, o36, cs36, f36, hp36, hr36, hc36, hm36⟩ := hq_
  have hk36 := hc36
  obtain ⟨v37, rfl, h38⟩ := hk36
  refine rn st31 3 hA32.put [] [(5, v37)] [qx hp36, qr hr36 0] aE fun f40 h40_ => (aB ?_)
  have hyk := nY y k aD
  refine eX 5 [3, 4] [[], [3], [3, 4]] [[(0, 1)], [(1, 2)]] (w1 := W29) (rs := [Res.row (α := (List Entry)) 124 v25 (y.shelf.take k) fe26, Res.bx b14 [I y.now, I y.seq, v25, .slice none 0 0] 34, Res.bx b6 [I 0, I 0, .slice none 0 0, .slice none 0 0] 34, Res.bx b1 [I y.now, I y.seq, v12_0, v12_1] 34]) (fun q => match q with | 0 => Cp.fr (ι := Unit) (fun _ => []) (fun _ => []) | 1 => Cp.fr (ι := Value) (fun v42 => [v42]) (fun v42 => [Res.row (α := Entry) 131 v42 (y.shelf[k]'hi019db) []]) | _ => Cp.fr (ι := Nat × Value) (fun ⟨b49, v42⟩ => [v42, .slice (some ⟨b49, 0, none⟩) 1 1]) (fun ⟨b49, v42⟩ => [Res.bx b49 [v42] 124, Res.row (α := Entry) 131 v42 (y.shelf[k]'hi019db) []])) [Pq.is (.pointer (some ⟨b14, 0 + 2, none⟩)), Pq.is (v25) (Sl.yl (bW (st31.get 0 rfl))), Pq.is (v37) (Sl.yl h38), Pq.none, Pq.none] mix (by rfl) (by rfl) (by rfl) ⟨(), rfl, st31, (Below.refl _ _)⟩ (by rfl) ⟨(fun f W hst hbl hd hf => aH eE ((hf 3 rfl).trans (h40_.at 3)) brq), (fun f W hst hbl hd hf => aU eG rfl (hd 0 20 rfl rfl) (hst.get 1 rfl) (i := 2) rfl rfl brq), (fun f W hst hbl hd hf => aF (v := v37) ((hf 5 rfl).trans (h40_.at 5)) brq), ⟨rfl, ?_, True.intro⟩, ⟨rfl, ?_, True.intro⟩, trivial⟩ ?_
  ·intro f W hC hd hf
   have hC_ := hC
   obtain ⟨_, hu, st41, hbl⟩ := hC_
   try dsimp only [cap_, dP] at st41
   refine (bF Tryz.func174 rfl (hd 2 22 rfl rfl) ((fM W (h38.below st41.below) aD).mono ?_)); rintro _ W44 ⟨v42, rfl, hk45⟩; refine ⟨_, rfl, ?_⟩
   have st46 := St.call st41 hk45
   exact ⟨⟨v42, (ce rfl rfl), st46, (hbl.trans (Below.mono hk45.below hbl.size))⟩, Sl.yl (bW (st46.get 0 rfl))⟩
  ·intro f W hC hd hf
   have hC_ := hC
   obtain ⟨v42, hu, st48, hbl⟩ := hC_
   try dsimp only [cap_, dP] at st48
   have hu4_23 : f 23 = v42 := congrArg (fun l => l.getD 0 undef) hu
   refine (aT (cs := [v42]) (e := 124) (cY (v := v42) hu4_23 eA) (bN kW _ _ (Sl.cells (bW (st48.get 0 rfl))) rfl aX) st48 ?_); intro b49 W50 hb51 st52
   exact ⟨⟨(b49, v42), (ce hu4_23 (ce rfl rfl)), st52, (hbl.trans (Below.mono hb51 hbl.size))⟩, rfl⟩
  intro f54 W55 hC hv56 hf57
  have hC_ := hC
  obtain ⟨⟨b49, v42⟩, hu, st58, hbl59⟩ := hC_
  try dsimp only [cap_, dP] at st58
  have hu60 : f54 23 = v42 := congrArg (fun l => l.getD 0 undef) hu
  have hu61 : f54 24 = .slice (some ⟨b49, 0, none⟩) 1 1 := congrArg (fun l => l.getD 1 undef) hu
  have st63 := st58.f1
  have hq_ := st63.shut
  obtain ⟨fp64, st65⟩ := hq_
  have st66 := st65.cs1
  refine sg (iX kW (hv56 1 21 aX rfl) hu61 st66.f1.f2 (by rw [List.length_take]; unfold maxLen; omega) (by rw [List.length_take]; omega) ?_); intro v69 W70 st71
  refine sg (aH eE ((hf57 3 rfl).trans (h40_.at 3)) (sgn (aQ (v := v69) (C' := [I y.now, I y.seq, v69, .slice none 0 0]) aE rfl rfl (Sl.cells (bW (st71.f1.get 1 rfl))) (Sl.one (bW (st71.f1.get 1 rfl))) st71.f1 bP rfl ?_))); intro W75 st76
  refine aB (aA (sg (bY ((hf57 16 rfl).trans (h40_.at 16)) rfl dX (sg (aF (v := I ((k : Int) + 1)) rfl (aB ?_))))))
  exact ⟨_, y.shelf.length - (k + 1), aD, rfl, k + 1, v69, fe26 ++ fp64, aD, rfl, (Ag.cons ((hf57 1 rfl).trans (h40_.at 1)) (Ag.cons ((hf57 2 rfl).trans (h40_.at 2)) (Ag.cons ((hf57 3 rfl).trans (h40_.at 3)) (Ag.cons ((hf57 14 rfl).trans (h40_.at 14)) (Ag.cons ((hf57 15 rfl).trans (h40_.at 15)) (Ag.cons rfl Ag.nil)))))), (by rw [← wD _ _ aD]; exact st76.f3.f3.f2.f3)⟩
 ·refine wp_exit (wp_seq (wp_seq (aA (rn st31 4 hA32.put [] [(29, v12_1), (30, I (y.runs.length : Int)), (31, I 0)] [qb 3 rfl 3, ql h12_1] aE fun f84 h84_ => (aB (wp_block ?_))))))
  have hke : k = y.shelf.length := by omega
  rw [hke, List.take_length] at st31
  have st85 := st31.row_nil (α := Run) 123
  refine aY (fun (m : Nat) (f : Nat → Value) (W : World) => ∃ (j : Nat) (v87 : Value) (fe88 : List Nat), j ≤ y.runs.length ∧ m = y.runs.length - j ∧ Ag [(2, .pointer (some ⟨b6, 0, none⟩)), (3, .pointer (some ⟨b14, 0, none⟩)), (29, v12_1), (30, I (y.runs.length : Int)), (31, I (j : Int))] f ∧ St w W ([Res.row (α := Run) 123 v87 (y.runs.take j) fe88, Res.row (α := (List Entry)) 124 v25 y.shelf fe26, Res.bx b14 [I y.now, I y.seq, v25, v87] 34, Res.bx b6 [I 0, I 0, .slice none 0 0, .slice none 0 0] 34, Res.bx b1 [I y.now, I y.seq, v12_0, v12_1] 34])) (y.runs.length - 0) ?_ ?_
  ·exact ⟨0, (.slice none 0 0), [], Nat.zero_le _, rfl, (h84_.to aE), st85⟩
  intro m89 f90 W91 hJ92
  obtain ⟨j, v87, fe88, hcd94_0, rfl, hA94, st93⟩ := hJ92
  refine wp_seq (aA (sg (bS (hA94.at 31) (hA94.at 30) (aB (wp_seq (aK rfl (fun h97p => ?_) (fun h97p => ?_)))))))
  ·refine wp_skip (wp_seq (wp_block (wp_seq (aA ?_))))
   have hif099f : j < y.runs.length := aD
   have hq_ := idx h12_1 (i := j) hif099f
   obtain ⟨b98, o98, cs98, f98, hp98, hr98, hc98, hm98⟩ := hq_
   refine sg (aN iY (hA94.at 29) hp98 (hA94.at 31) rfl (sg (dL eC rfl rfl hr98 st93.below (Shape.len hc98) (sg (aR jV st93 ?_))))); intro b101 W102 hb103 st104
   refine sgn (aO (cs := cs98) eC hc98 rfl rfl st104 rfl ?_); intro W106 st107
   refine aB ?_
   have hyk := jQ (y := y) (k := j) aD
   refine eX 5 [3, 4] [[], [3], [3, 4]] [[(0, 1)], [(1, 2)]] (w1 := W106) (rs := [Res.bx b101 cs98 123, Res.row (α := Run) 123 v87 (y.runs.take j) fe88, Res.row (α := (List Entry)) 124 v25 y.shelf fe26, Res.bx b14 [I y.now, I y.seq, v25, v87] 34, Res.bx b6 [I 0, I 0, .slice none 0 0, .slice none 0 0] 34, Res.bx b1 [I y.now, I y.seq, v12_0, v12_1] 34]) (fun q => match q with | 0 => Cp.fr (ι := Unit) (fun _ => []) (fun _ => []) | 1 => Cp.fr (ι := List Value × List Nat) (fun ⟨cs109, fp109⟩ => [.agg cs109.toArray]) (fun ⟨cs109, fp109⟩ => [Res.own (α := Run) (.agg cs109.toArray) (y.runs[j]'hif099f) fp109]) | _ => Cp.fr (ι := Nat × List Value × List Nat) (fun ⟨b116, cs109, fp109⟩ => [.agg cs109.toArray, .slice (some ⟨b116, 0, none⟩) 1 1]) (fun ⟨b116, cs109, fp109⟩ => [Res.bx b116 cs109 123, Res.own (α := Run) (.agg cs109.toArray) (y.runs[j]'hif099f) fp109])) [Pq.is (.pointer (some ⟨b14, 0 + 3, none⟩)), Pq.is (v87) (Sl.yl (bW (st107.get 1 rfl))), Pq.is (.agg cs98.toArray), Pq.none, Pq.none] mix (by rfl) (by rfl) (by rfl) ⟨(), rfl, st107, (Below.refl _ _)⟩ (by rfl) ⟨(fun f W hst hbl hd hf => aH gH ((hf 3 rfl).trans (hA94.at 3)) brq), (fun f W hst hbl hd hf => aU lE rfl (hd 0 35 rfl rfl) (hst.get 3 rfl) (i := 3) rfl rfl brq), (fun f W hst hbl hd hf => bB eC rfl ((hf 7 rfl).trans (show _ = (.pointer (some ⟨b101, 0, none⟩) : Value) from rfl)) (hst.get 0 rfl) (Shape.len hc98) brq), ⟨rfl, ?_, True.intro⟩, ⟨rfl, ?_, True.intro⟩, trivial⟩ ?_
   ·intro f W hC hd hf
    have hC_ := hC
    obtain ⟨_, hu, st108, hbl⟩ := hC_
    try dsimp only [cap_, dP] at st108
    refine (bF Tryz.func175 rfl (hd 2 37 rfl rfl) ((CopyRunI W (bA hc98 st108.below) aD).mono ?_)); rintro _ W111 ⟨cs109, fp109, rfl, hk112⟩; refine ⟨_, rfl, ?_⟩
    have st113 := St.call st108 hk112
    exact ⟨⟨(cs109, fp109), (ce rfl rfl), st113, (hbl.trans (Below.mono hk112.below hbl.size))⟩, rfl⟩
   ·intro f W hC hd hf
    have hC_ := hC
    obtain ⟨⟨cs109, fp109⟩, hu, st115, hbl⟩ := hC_
    try dsimp only [cap_, dP] at st115
    have hu4_38 : f 38 = .agg cs109.toArray := congrArg (fun l => l.getD 0 undef) hu
    refine (aT (cs := cs109) (e := 123) (cY (v := .agg cs109.toArray) hu4_38 eA) (bN rF _ _ rfl (Shape.len (bO (st115.get 0 rfl) rfl)) aX) st115 ?_); intro b116 W117 hb118 st119
    exact ⟨⟨(b116, cs109, fp109), (ce hu4_38 (ce rfl rfl)), st119, (hbl.trans (Below.mono hb118 hbl.size))⟩, rfl⟩
   intro f121 W122 hC hv123 hf124
   have hC_ := hC
   obtain ⟨⟨b116, cs109, fp109⟩, hu, st125, hbl126⟩ := hC_
   try dsimp only [cap_, dP] at st125
   have hu127 : f121 38 = .agg cs109.toArray := congrArg (fun l => l.getD 0 undef) hu
   have hu128 : f121 39 = .slice (some ⟨b116, 0, none⟩) 1 1 := congrArg (fun l => l.getD 1 undef) hu
   have st130 := st125.f1
   have st131 := st130.cs rfl
   refine sg (iX rF (hv123 1 36 aX rfl) hu128 st131.f1.f3 (by rw [List.length_take]; unfold maxLen; omega) (by rw [List.length_take]; omega) ?_); intro v134 W135 st136
   refine sg (aH gH ((hf124 3 rfl).trans (hA94.at 3)) (sgn (aQ (v := v134) (C' := [I y.now, I y.seq, v25, v134]) aE rfl rfl (Sl.cells (bW (st136.f3.get 1 rfl))) (Sl.one (bW (st136.f3.get 1 rfl))) st136.f3 bP rfl ?_))); intro W140 st141
   refine aB (aA (sg (bY ((hf124 31 rfl).trans (hA94.at 31)) rfl dX (sg (aF (v := I ((j : Int) + 1)) rfl (aB ?_))))))
   exact ⟨_, y.runs.length - (j + 1), aD, rfl, j + 1, v134, fe88 ++ fp109, aD, rfl, (Ag.cons ((hf124 2 rfl).trans (hA94.at 2)) (Ag.cons ((hf124 3 rfl).trans (hA94.at 3)) (Ag.cons ((hf124 29 rfl).trans (hA94.at 29)) (Ag.cons ((hf124 30 rfl).trans (hA94.at 30)) (Ag.cons rfl Ag.nil))))), (by rw [← xV _ _ aD]; exact st141.f5.f5.f2.f5.f4.d5)⟩
  ·refine wp_exit (wp_seq (aA (sg (aV (cs := [I y.now, I y.seq, v25, v87]) bM rfl (hA94.at 3) (st93.get 2 rfl) rfl rfl (sgn (aM (cs := [I y.now, I y.seq, v25, v87]) (C' := [I y.now, I y.seq, v25, v87]) aE (hA94.at 2) rfl (aG rfl (aG rfl (aG (Sl.one (bW (st93.f3.get 2 rfl))) (aG (Sl.one (bW (st93.f3.get 1 rfl))) bK)))) st93.f3 bP rfl ?_)))))); intro W153 st154
   refine aB (wr (eO bM rfl Tryz.results108 (hA94.at 2) (st154.get 0 rfl) rfl ?_))
   have hje : j = y.runs.length := by omega
   rw [hje, List.take_length] at st154
   have st155 := st154.f2
   have hq_ := st155.shut
   obtain ⟨fp157, st156⟩ := hq_
   have hq_ := st156.f2.shut
   obtain ⟨fp160, st159⟩ := hq_
   have st162 := eN (x := y) st159.f1 (by assumption)
   exact ⟨_, _, rfl, st162.only 0 rfl⟩
theorem mE (w : World) {y : Yard} {cs : List Value} {fp : List Nat} (hc : Shape.C w cs y fp) (hw : y.wt ≤ 1048576) :
  Calls Tryz.prog 71 #[.agg cs.toArray] w fun e w' => ∃ (cs' : List Value) (fp' : List Nat), e = .returned (.agg cs'.toArray) ∧ St w w' [Res.own (.agg cs'.toArray) y fp'] := by
 have hys : y.shelf.length + y.runs.length ≤ y.wt := by unfold Yard.wt wtL; omega
 refine cR Tryz.func71 rfl Tryz.ntmps71 aX (wp_seq (aA (sg (aJ (cs := cs) rfl (St.start w) ?_)))); intro b1 W2 hb3 st4
 refine sg (aR fA st4 ?_); intro b6 W7 hb8 st9
 refine aB (wp_seq (aA ?_))
 have hk12 := hc
 obtain ⟨v12_0, v12_1, g12_0, g12_1, rfl, hok12, h12_0, h12_1, rfl⟩ := hk12
 refine rn st9 4 Ag.nil.put.put.put [] [(7, I y.now), (9, I y.seq)] [qb 1 rfl 0, qb 1 rfl 1] aE fun f13 h13_ => (sg (eJ (vs := [(0, I y.now), (1, I y.seq)]) (cs := [I y.now, I y.seq, .slice none 0 0, .slice none 0 0]) (cY (v := I y.now) (h13_.at 7) (cY (v := I y.seq) (h13_.at 9) eA)) aE (sg (aR fA st9 ?_)))); intro b14 W15 hb16 st17
 refine sgn (aM (cs := [I y.now, I y.seq, .slice none 0 0, .slice none 0 0]) (C' := [I y.now, I y.seq, .slice none 0 0, .slice none 0 0]) aE rfl rfl (aG rfl (aG rfl (aG rfl (aG rfl bK)))) st17 bP rfl ?_); intro W19 st20
 refine aB (wp_seq (wp_seq (aA (sg (aC (v := I 0) rfl (aB (wp_block ?_)))))))
 have st23 := st20.row_nil (α := (List Entry)) 124
 refine aY (fun (m : Nat) (f : Nat → Value) (W : World) => ∃ (k : Nat) (v25 : Value) (fe26 : List Nat), k ≤ y.shelf.length ∧ m = y.shelf.length - k ∧ Ag [(1, .pointer (some ⟨b1, 0, none⟩)), (2, .pointer (some ⟨b6, 0, none⟩)), (3, .pointer (some ⟨b14, 0, none⟩)), (4, I (k : Int))] f ∧ St w W ([Res.row (α := (List Entry)) 124 v25 (y.shelf.take k) fe26, Res.bx b14 [I y.now, I y.seq, v25, .slice none 0 0] 34, Res.bx b6 [I 0, I 0, .slice none 0 0, .slice none 0 0] 34, Res.bx b1 [I y.now, I y.seq, v12_0, v12_1] 34])) (y.shelf.length - 0) ?_ ?_
 ·exact ⟨0, (.slice none 0 0), [], Nat.zero_le _, rfl, (h13_.put.put.put.to aE), st23⟩
 intro m27 f28 W29 hJ30
 obtain ⟨k, v25, fe26, hcd32_0, rfl, hA32, st31⟩ := hJ30
 refine wp_seq (wp_seq (aA (rn st31 5 hA32 [] [(15, .bool (decide ((k : Int) < (y.shelf.length : Int))))] [qb 3 rfl 2, ql h12_0, .o] aE fun f34 h34_ => (aB (aK (h34_.at 15) (fun h35p => ?_) (fun h35p => ?_))))))
 ·refine wp_skip (wp_seq (wp_block ?_))
  have hi019db : k < y.shelf.length := aD
  have hq_ := idx h12_0 (i := k) hi019db
  obtain ⟨b55, o55, cs55, f55, hp55, hr55, hc55, hm55⟩ := hq_
  have hk55 := hc55
  obtain ⟨v56, rfl, h57⟩ := hk55
  have hyk := nY y k aD
  refine eX 10 [2, 8, 9] [[], [2], [2, 8], [2, 8, 9]] [[(0, 1)], [(1, 2)], [(2, 3)]] (w1 := w) (rs := [Res.row (α := (List Entry)) 124 v25 (y.shelf.take k) fe26, Res.bx b14 [I y.now, I y.seq, v25, .slice none 0 0] 34, Res.bx b6 [I 0, I 0, .slice none 0 0, .slice none 0 0] 34, Res.bx b1 [I y.now, I y.seq, v12_0, v12_1] 34]) (fun q => match q with | 0 => Cp.fr (ι := Unit) (fun _ => []) (fun _ => []) | 1 => Cp.fr (ι := Nat) (fun b50 => [(.slice (some ⟨b50, 0, none⟩) 0 0)]) (fun b50 => [Res.row (α := Entry) 131 (.slice (some ⟨b50, 0, none⟩) 0 0) [] []]) | 2 => Cp.fr (ι := Value × Nat) (fun ⟨v59, b50⟩ => [(.slice (some ⟨b50, 0, none⟩) 0 0), v59]) (fun ⟨v59, b50⟩ => [Res.row (α := Entry) 131 v59 ([] ++ (y.shelf[k]'hi019db)) []]) | _ => Cp.fr (ι := Nat × Value × Nat) (fun ⟨b63, v59, b50⟩ => [(.slice (some ⟨b50, 0, none⟩) 0 0), v59, .slice (some ⟨b63, 0, none⟩) 1 1]) (fun ⟨b63, v59, b50⟩ => [Res.bx b63 [v59] 124, Res.row (α := Entry) 131 v59 ([] ++ (y.shelf[k]'hi019db)) []])) [Pq.is (.pointer (some ⟨b14, 0 + 2, none⟩)), Pq.is (v25) (Sl.yl (bW (st31.get 0 rfl))), Pq.none, Pq.is (.pointer (some ⟨b1, 0 + 2, none⟩)), Pq.is (v12_0) (Sl.yl h12_0), Pq.is (I (k : Int)), Pq.is (.pointer (some ⟨b55, o55, none⟩)), Pq.is (v56) (Sl.yl h57), Pq.none, Pq.none] mix (by rfl) (by rfl) (by rfl) ⟨(), rfl, st31, st31.below⟩ (by rfl) ⟨(fun f W hst hbl hd hf => aH eE ((hf 3 rfl).trans (h34_.at 3)) brq), (fun f W hst hbl hd hf => aU eG rfl (hd 0 18 rfl rfl) (hst.get 1 rfl) (i := 2) rfl rfl brq), ⟨rfl, ?_, True.intro⟩, (fun f W hst hbl hd hf => aH eE ((hf 1 rfl).trans (h34_.at 1)) brq), (fun f W hst hbl hd hf => aU eG rfl (hd 3 21 rfl rfl) (hst.get 3 rfl) (i := 2) rfl rfl brq), (fun f W hst hbl hd hf => aF (v := I (k : Int)) ((hf 4 rfl).trans (h34_.at 4)) brq), (fun f W hst hbl hd hf => aN eM (hd 4 22 rfl rfl) hp55 (hd 5 23 rfl rfl) rfl brq), (fun f W hst hbl hd hf => eV iS rfl (hd 6 24 rfl rfl) hr55 hst.below (i := 0) rfl rfl brq), ⟨rfl, ?_, True.intro⟩, ⟨rfl, ?_, True.intro⟩, trivial⟩ ?_
  ·intro f W hC hd hf
   have hC_ := hC
   obtain ⟨_, hu, st49, hbl⟩ := hC_
   try dsimp only [cap_, dP] at st49
   refine (aT (cs := []) (e := 131) eA (bV cA _) st49 ?_); intro b50 W51 hb52 st53
   have st53 := st53.row_empty (α := Entry)
   exact ⟨⟨b50, (ce rfl rfl), st53, st53.below⟩, Sl.yl (bW (st53.get 0 rfl))⟩
  ·intro f W hC hd hf
   have hC_ := hC
   obtain ⟨b50, hu, st58, hbl⟩ := hC_
   try dsimp only [cap_, dP] at st58
   have hu8_20 : f 20 = (.slice (some ⟨b50, 0, none⟩) 0 0) := congrArg (fun l => l.getD 0 undef) hu
   refine (cE eI cA hu8_20 (hd 7 25 rfl rfl) h57 st58.below st58 (by simp only [List.length_nil]; unfold maxLen; omega) (by simp only [List.length_nil]; omega) ?_); intro v59 W60 st61
   exact ⟨⟨(v59, b50), (ce hu8_20 (ce rfl rfl)), st61, st61.below⟩, Sl.yl (bW (st61.get 0 rfl))⟩
  ·intro f W hC hd hf
   have hC_ := hC
   obtain ⟨⟨v59, b50⟩, hu, st62, hbl⟩ := hC_
   try dsimp only [cap_, dP] at st62
   have hu9_20 : f 20 = (.slice (some ⟨b50, 0, none⟩) 0 0) := congrArg (fun l => l.getD 0 undef) hu
   have hu9_26 : f 26 = v59 := congrArg (fun l => l.getD 1 undef) hu
   refine (aT (cs := [v59]) (e := 124) (cY (v := v59) hu9_26 eA) (bN kW _ _ (Sl.cells (bW (st62.get 0 rfl))) rfl aX) st62 ?_); intro b63 W64 hb65 st66
   exact ⟨⟨(b63, v59, b50), (ce hu9_20 (ce hu9_26 (ce rfl rfl))), st66, st66.below⟩, rfl⟩
  intro f68 W69 hC hv70 hf71
  have hC_ := hC
  obtain ⟨⟨b63, v59, b50⟩, hu, st72, hbl73⟩ := hC_
  try dsimp only [cap_, dP] at st72
  have hu74 : f68 20 = (.slice (some ⟨b50, 0, none⟩) 0 0) := congrArg (fun l => l.getD 0 undef) hu
  have hu75 : f68 26 = v59 := congrArg (fun l => l.getD 1 undef) hu
  have hu76 : f68 27 = .slice (some ⟨b63, 0, none⟩) 1 1 := congrArg (fun l => l.getD 2 undef) hu
  have st78 := st72.f1
  have hq_ := st78.shut
  obtain ⟨fp79, st80⟩ := hq_
  have st81 := st80.cs1
  refine sg (iX kW (hv70 1 19 aX rfl) hu76 st81.f1.f2 (by rw [List.length_take]; unfold maxLen; omega) (by rw [List.length_take]; omega) ?_); intro v84 W85 st86
  refine sg (aH eE ((hf71 3 rfl).trans (h34_.at 3)) (sgn (aQ (v := v84) (C' := [I y.now, I y.seq, v84, .slice none 0 0]) aE rfl rfl (Sl.cells (bW (st86.f1.get 1 rfl))) (Sl.one (bW (st86.f1.get 1 rfl))) st86.f1 bP rfl ?_))); intro W90 st91
  refine aB (aA (rn st91 3 (Ag.cons (show f68 1 = .pointer (some ⟨b1, 0, none⟩) from ((hf71 1 rfl).trans (h34_.at 1))) (Ag.cons (show f68 2 = .pointer (some ⟨b6, 0, none⟩) from ((hf71 2 rfl).trans (h34_.at 2))) (Ag.cons (show f68 3 = .pointer (some ⟨b14, 0, none⟩) from ((hf71 3 rfl).trans (h34_.at 3))) (Ag.cons (show f68 4 = I (k : Int) from ((hf71 4 rfl).trans (h34_.at 4))) Ag.nil)))).put.put [4] [(4, I ((k : Int) + 1))] [qad (k : Int) 1] aE fun f93 h93_ => (aB ?_)))
  exact ⟨_, y.shelf.length - (k + 1), aD, rfl, k + 1, v84, fe26 ++ fp79, aD, rfl, (h93_.to aE), (by rw [← wD _ _ aD]; exact st91.f3.f3.f2.f3)⟩
 ·refine wp_exit (wp_seq (wp_seq (aA (sg (aC (v := I 0) rfl (aB (wp_block ?_)))))))
  have hke : k = y.shelf.length := by omega
  rw [hke, List.take_length] at st31
  have st100 := st31.row_nil (α := Run) 123
  refine aY (fun (m : Nat) (f : Nat → Value) (W : World) => ∃ (j : Nat) (v102 : Value) (fe103 : List Nat), j ≤ y.runs.length ∧ m = y.runs.length - j ∧ Ag [(1, .pointer (some ⟨b1, 0, none⟩)), (2, .pointer (some ⟨b6, 0, none⟩)), (3, .pointer (some ⟨b14, 0, none⟩)), (5, I (j : Int))] f ∧ St w W ([Res.row (α := Run) 123 v102 (y.runs.take j) fe103, Res.row (α := (List Entry)) 124 v25 y.shelf fe26, Res.bx b14 [I y.now, I y.seq, v25, v102] 34, Res.bx b6 [I 0, I 0, .slice none 0 0, .slice none 0 0] 34, Res.bx b1 [I y.now, I y.seq, v12_0, v12_1] 34])) (y.runs.length - 0) ?_ ?_
  ·exact ⟨0, (.slice none 0 0), [], Nat.zero_le _, rfl, (h34_.put.to aE), st100⟩
  intro m104 f105 W106 hJ107
  obtain ⟨j, v102, fe103, hcd109_0, rfl, hA109, st108⟩ := hJ107
  refine wp_seq (wp_seq (aA (rn st108 5 hA109 [] [(34, .bool (decide ((j : Int) < (y.runs.length : Int))))] [qb 4 rfl 3, ql h12_1, .o] aE fun f111 h111_ => (aB (aK (h111_.at 34) (fun h112p => ?_) (fun h112p => ?_))))))
  ·refine wp_skip (wp_seq (wp_block ?_))
   have hif099f : j < y.runs.length := aD
   have hq_ := idx h12_1 (i := j) hif099f
   obtain ⟨b113, o113, cs113, f113, hp113, hr113, hc113, hm113⟩ := hq_
   have hyk := jQ (y := y) (k := j) aD
   refine eX 9 [7, 8] [[], [7], [7, 8]] [[(0, 1)], [(1, 2)]] (w1 := W106) (rs := [Res.row (α := Run) 123 v102 (y.runs.take j) fe103, Res.row (α := (List Entry)) 124 v25 y.shelf fe26, Res.bx b14 [I y.now, I y.seq, v25, v102] 34, Res.bx b6 [I 0, I 0, .slice none 0 0, .slice none 0 0] 34, Res.bx b1 [I y.now, I y.seq, v12_0, v12_1] 34]) (fun q => match q with | 0 => Cp.fr (ι := Unit) (fun _ => []) (fun _ => []) | 1 => Cp.fr (ι := List Value × List Nat) (fun ⟨cs115, fp115⟩ => [.agg cs115.toArray]) (fun ⟨cs115, fp115⟩ => [Res.own (α := Run) (.agg cs115.toArray) (y.runs[j]'hif099f) fp115]) | _ => Cp.fr (ι := Nat × List Value × List Nat) (fun ⟨b122, cs115, fp115⟩ => [.agg cs115.toArray, .slice (some ⟨b122, 0, none⟩) 1 1]) (fun ⟨b122, cs115, fp115⟩ => [Res.bx b122 cs115 123, Res.own (α := Run) (.agg cs115.toArray) (y.runs[j]'hif099f) fp115])) [Pq.is (.pointer (some ⟨b14, 0 + 3, none⟩)), Pq.is (v102) (Sl.yl (bW (st108.get 0 rfl))), Pq.is (.pointer (some ⟨b1, 0 + 3, none⟩)), Pq.is (v12_1) (Sl.yl h12_1), Pq.is (I (j : Int)), Pq.is (.pointer (some ⟨b113, o113, none⟩)), Pq.is (.agg cs113.toArray), Pq.none, Pq.none] mix (by rfl) (by rfl) (by rfl) ⟨(), rfl, st108, (Below.refl _ _)⟩ (by rfl) ⟨(fun f W hst hbl hd hf => aH gH ((hf 3 rfl).trans (h111_.at 3)) brq), (fun f W hst hbl hd hf => aU lE rfl (hd 0 37 rfl rfl) (hst.get 2 rfl) (i := 3) rfl rfl brq), (fun f W hst hbl hd hf => aH gH ((hf 1 rfl).trans (h111_.at 1)) brq), (fun f W hst hbl hd hf => aU lE rfl (hd 2 39 rfl rfl) (hst.get 4 rfl) (i := 3) rfl rfl brq), (fun f W hst hbl hd hf => aF (v := I (j : Int)) ((hf 5 rfl).trans (h111_.at 5)) brq), (fun f W hst hbl hd hf => aN iY (hd 3 40 rfl rfl) hp113 (hd 4 41 rfl rfl) rfl brq), (fun f W hst hbl hd hf => dL eC rfl (hd 5 42 rfl rfl) hr113 hst.below (Shape.len hc113) brq), ⟨rfl, ?_, True.intro⟩, ⟨rfl, ?_, True.intro⟩, trivial⟩ ?_
   ·intro f W hC hd hf
    have hC_ := hC
    obtain ⟨_, hu, st114, hbl⟩ := hC_
    try dsimp only [cap_, dP] at st114
    refine (bF Tryz.func136 rfl (hd 6 43 rfl rfl) ((vB W (bA hc113 st114.below) aD).mono ?_)); rintro _ W117 ⟨cs115, fp115, rfl, hk118⟩; refine ⟨_, rfl, ?_⟩
    have st119 := St.call st114 hk118
    exact ⟨⟨(cs115, fp115), (ce rfl rfl), st119, (hbl.trans (Below.mono hk118.below hbl.size))⟩, rfl⟩
   ·intro f W hC hd hf
    have hC_ := hC
    obtain ⟨⟨cs115, fp115⟩, hu, st121, hbl⟩ := hC_
    try dsimp only [cap_, dP] at st121
    have hu8_44 : f 44 = .agg cs115.toArray := congrArg (fun l => l.getD 0 undef) hu
    refine (aT (cs := cs115) (e := 123) (cY (v := .agg cs115.toArray) hu8_44 eA) (bN rF _ _ rfl (Shape.len (bO (st121.get 0 rfl) rfl)) aX) st121 ?_); intro b122 W123 hb124 st125
    exact ⟨⟨(b122, cs115, fp115), (ce hu8_44 (ce rfl rfl)), st125, (hbl.trans (Below.mono hb124 hbl.size))⟩, rfl⟩
   intro f127 W128 hC hv129 hf130
   have hC_ := hC
   obtain ⟨⟨b122, cs115, fp115⟩, hu, st131, hbl132⟩ := hC_
   try dsimp only [cap_, dP] at st131
   have hu133 : f127 44 = .agg cs115.toArray := congrArg (fun l => l.getD 0 undef) hu
   have hu134 : f127 45 = .slice (some ⟨b122, 0, none⟩) 1 1 := congrArg (fun l => l.getD 1 undef) hu
   have st136 := st131.f1
   have st137 := st136.cs rfl
   refine sg (iX rF (hv129 1 38 aX rfl) hu134 st137.f1.f2 (by rw [List.length_take]; unfold maxLen; omega) (by rw [List.length_take]; omega) ?_); intro v140 W141 st142
   refine sg (aH gH ((hf130 3 rfl).trans (h111_.at 3)) (sgn (aQ (v := v140) (C' := [I y.now, I y.seq, v25, v140]) aE rfl rfl (Sl.cells (bW (st142.f2.get 1 rfl))) (Sl.one (bW (st142.f2.get 1 rfl))) st142.f2 bP rfl ?_))); intro W146 st147
   refine aB (aA (rn st147 3 (Ag.cons (show f127 1 = .pointer (some ⟨b1, 0, none⟩) from ((hf130 1 rfl).trans (h111_.at 1))) (Ag.cons (show f127 2 = .pointer (some ⟨b6, 0, none⟩) from ((hf130 2 rfl).trans (h111_.at 2))) (Ag.cons (show f127 3 = .pointer (some ⟨b14, 0, none⟩) from ((hf130 3 rfl).trans (h111_.at 3))) (Ag.cons (show f127 5 = I (j : Int) from ((hf130 5 rfl).trans (h111_.at 5))) Ag.nil)))).put.put [5] [(5, I ((j : Int) + 1))] [qad (j : Int) 1] aE fun f149 h149_ => (aB ?_)))
   exact ⟨_, y.runs.length - (j + 1), aD, rfl, j + 1, v140, fe103 ++ fp115, aD, rfl, (h149_.to aE), (by rw [← xV _ _ aD]; exact st147.f4.f4.f2.f4.f4)⟩
  ·refine wp_exit (wp_seq (aA (sg (aV (cs := [I y.now, I y.seq, v25, v102]) bM rfl (h111_.at 3) (st108.get 2 rfl) rfl rfl (sgn (aM (cs := [I y.now, I y.seq, v25, v102]) (C' := [I y.now, I y.seq, v25, v102]) aE (h111_.at 2) rfl (aG rfl (aG rfl (aG (Sl.one (bW (st108.f3.get 2 rfl))) (aG (Sl.one (bW (st108.f3.get 1 rfl))) bK)))) st108.f3 bP rfl ?_)))))); intro W158 st159
   refine aB (wr (eO bM rfl Tryz.results71 (h111_.at 2) (st159.get 0 rfl) rfl ?_))
   have hje : j = y.runs.length := by omega
   rw [hje, List.take_length] at st159
   have st160 := st159.f2
   have hq_ := st160.shut
   obtain ⟨fp162, st161⟩ := hq_
   have hq_ := st161.f2.shut
   obtain ⟨fp165, st164⟩ := hq_
   have st167 := eN (x := y) st164.f1 (by assumption)
   exact ⟨_, _, rfl, st167.only 0 rfl⟩
def jZ (xs : List Entry) (e : Entry) : Nat := (fE (fun x => !dW x e) xs).getD xs.length
def jF (xs : List Entry) (e : Entry) : List Entry := xs.take (jZ xs e) ++ e :: xs.drop (jZ xs e)
theorem tT (xs : List Entry) (e : Entry) : jZ xs e ≤ xs.length := by
 unfold jZ
 cases h : fE (fun x => !dW x e) xs with
 | none => exact Nat.le_refl _
 | some k => exact Nat.le_of_lt (oE h).1
theorem xZ (xs : List Entry) (e : Entry) : (jF xs e).length = xs.length + 1 := by
 have := tT xs e
 unfold jF
 rw [List.length_append, List.length_cons, List.length_take, List.length_drop]; omega
theorem putIx_none {xs : List Entry} {e : Entry} (h : ixI (fE (fun x => !dW x e) xs) < 0) : jZ xs e = xs.length := by
 unfold jZ
 cases hq : fE (fun x => !dW x e) xs with
 | none => rfl
 | some k => rw [hq] at h; simp only [ixI] at h; omega
theorem putIx_some {xs : List Entry} {e : Entry} (h : ¬ ixI (fE (fun x => !dW x e) xs) < 0) : ixI (fE (fun x => !dW x e) xs) = (jZ xs e : Int) := by
 unfold jZ
 cases hq : fE (fun x => !dW x e) xs with
 | none => rw [hq] at h; simp only [ixI] at h; omega
 | some k => rfl
theorem xY {xs : List Entry} {e : Entry} {k : Nat} (hk : k ≤ xs.length) (ha : (xs.take k).any (fun x => !dW x e) = false) (he : k = xs.length ∨ ∃ h : k < xs.length, dW xs[k] e = false) : jZ xs e = k := by
 unfold jZ
 rcases he with rfl | ⟨h, he⟩
 ·rw [List.take_length] at ha
  rw [jJ ha]; rfl
 ·rw [jI h ha (by simp [he])]; rfl


theorem yC {a b c : Nat} (h : c ≤ a ∧ c ≤ b) (h2 : c = a ∨ c = b) : Nat.min a b = c := by
 have : Nat.min a b = min a b := rfl
 omega
theorem xB {C : List Value} {o m j : Nat} {v : Value} (h : ((C.drop o).take m)[j]? = some v) : C[o + j]? = some v := by
 rw [List.getElem?_take] at h
 split at h
 ·rwa [List.getElem?_drop] at h
 ·cases h
theorem zS {W : World} {C : List Value} {xs : List Entry} {k m : Nat} (he : Elems W (C.take (xs.length * Shape.size Entry)) xs []) (hkm : k * 4 + m ≤ xs.length * 4 := by omega) : ∀ v ∈ (C.drop (k * 4)).take m, v.oneCell' = true := by
 intro v hv
 refine he.one v ?_
 obtain ⟨j, hj⟩ := List.mem_iff_getElem?.1 hv
 have hjm : j < m := by
  rw [List.getElem?_take] at hj
  split at hj
  ·assumption
  ·cases hj
 have := xB hj
 exact List.mem_iff_getElem?.2 ⟨k * 4 + j, by rw [List.getElem?_take, if_pos (by show _ < xs.length * 4; omega)]; exact this⟩
theorem overlaps_E {w0 W : World} {rs : List Res} {b b2 : Nat} {C C2 : List Value} {o2 n1 c1 n2 c2 : Nat} {i : Nat} (hst : St w0 W (Res.bx b C 131 :: rs)) (hi : rs[i]? = some (Res.bx b2 C2 131)) (hC : 0 < C2.length) :
  (callFunc 241 #[.slice (some ⟨b, 0, none⟩) n1 c1, .slice (some ⟨b2, o2, none⟩) n2 c2]).run Tryz.prog W = .ok (.value (.bool false)) W := by
 have hB : W.heap[b]? = some (.cells C.toArray 131 (0, 0)) := hst.get 0 rfl
 have hB2 : W.heap[b2]? = some (.cells C2.toArray 131 (0, 0)) := hst.get (i + 1) (by simpa using hi)
 have hne : b ≠ b2 := by
  have hnd := hst.nodup
  rw [List.flatMap_cons, List.nodup_append] at hnd
  exact fun e => hnd.2.2 b (by simp [Res.bx]) b2 (List.mem_flatMap.2 ⟨_, List.mem_of_getElem? hi, by simp [Res.bx]⟩) e
 rw [run_callFunc_extern Tryz.func241 aE aE aE (e := Extern.SlicesOverlaps.overlaps #[124, 124] #[4]) aE,
  Go.Lib.run_overlaps_apart W 124 4 131 Tryz.underlying124 4 (fun w => kP sl_EntryS.size w) ⟨b, 0, none⟩ ⟨b2, o2, none⟩ n1 c1 n2 c2 hne 131 131 C.length C2.length
   (by simp [World.shape?, hB]) (by simp [World.shape?, hB2]) aD (by simp [World.frozen?, hB]) (by simp [World.frozen?, hB])]
 rfl

theorem yS (w : World) {v : Value} {xs : List Entry} {fp : List Nat} (h : Sl w v xs fp) (F : FuncId) (capt : List Value) {fn : Func} (hfn : Tryz.prog.funcs[F]? = some fn) (hok : ((fn.name == "runtime.NumGoroutine") || fn.body.isNone) = false) (p : Entry → Bool)
  (hF : ∀ (w1 : World) (i : Nat) (hi : i < xs.length) (cs : List Value) (f1 : List Nat), Below w.heap.size w w1 → Shape.C w1 cs xs[i] f1 → Calls Tryz.prog F (Value.agg cs.toArray :: capt).toArray w1 fun e w2 => e = .returned (.bool (p xs[i])) ∧ St w1 w2 []) :
  Calls Tryz.prog 227 #[v, .func (.func F) #[] capt.toArray] w fun e w' => e = .returned (I (ixI (fE p xs))) ∧ St w w' [] := by
 have hcap := h.len_le
 refine bR Tryz.func227 rfl Tryz.ntmps227 aX (wp_seq (aA (sg (aC (v := I 0) rfl (aB (wp_seq (wp_seq (aA (rn (St.start w) 3 Ag.nil.put.put.put [] [(7, I (xs.length : Int)), (8, I 0)] [ql h] aE fun f4 h4_ => (aB (wp_block (aY (fun (m : Nat) (f : Nat → Value) (W : World) => ∃ (k : Nat), k ≤ xs.length ∧ (xs.take k).any p = false ∧ m = xs.length - k ∧ Ag [(0, v), (1, .func (.func F) #[] capt.toArray), (7, I (xs.length : Int)), (8, I (k : Int))] f ∧ St w W ([])) (xs.length - 0) ?_ ?_))))))))))))
 ·exact ⟨0, Nat.zero_le _, rfl, rfl, (h4_.to aE), (St.start w)⟩
 intro m5 f6 W7 hJ8
 obtain ⟨k, hk, hany, rfl, hA10, st9⟩ := hJ8
 refine wp_seq (aA (sg (bS (hA10.at 8) (hA10.at 7) (aB (wp_seq (aK rfl (fun h13p => ?_) (fun h13p => ?_)))))))
 ·refine wp_skip (wp_seq (wp_block (wp_seq (aA (sg (aF (v := I (k : Int)) (hA10.at 8) (sg (aC (v := I (k : Int)) rfl (aB (wp_seq (aA ?_)))))))))))
  have hi51fab : k < xs.length := aD
  have hq_ := idx h (i := k) hi51fab
  obtain ⟨b17, o17, cs17, f17, hp17, hr17, hc17, hm17⟩ := hq_
  refine rn st9 5 hA10.put.put.put [] [(11, .func (.func F) #[] capt.toArray), (15, .agg cs17.toArray)] [qx hp17, qrw hr17 (Shape.len hc17)] aE fun f18 h18_ => (sg (nW (first := []) hfn hok (h18_.at 11) (sO (v := .agg cs17.toArray) (h18_.at 15) sQ) ((hF W7 k aD _ _ st9.below (bA hc17 st9.below)).mono ?_))); rintro _ W19 ⟨rfl, hk20⟩; refine ⟨_, rfl, ?_⟩
  have st21 := St.call st9 hk20
  refine aB (cT rfl (fun h22 => ?_) (fun h22 => ?_))
  ·refine wp_seq (aA (sg (aF (v := I (k : Int)) (h18_.at 5) (sg (aC (v := I (k : Int)) rfl (aB (wr (aL Tryz.results227 rfl ?_))))))))
   exact ⟨(fI (by rw [jI aD hany h22]; try rfl)), st21.bare⟩
  ·refine wp_skip (aA (sg (bY (h18_.at 8) rfl dX (sg (aF (v := I ((k : Int) + 1)) rfl (aB ?_))))))
   exact ⟨_, xs.length - (k + 1), aD, rfl, k + 1, aD, (mU aD hany h22), rfl, (h18_.put.put.put.to aE), st21⟩
 ·refine wp_exit (wp_seq (aA (sg (aC (v := I (-1)) rfl (aB (wr (aL Tryz.results227 rfl ?_)))))))
  obtain rfl : k = xs.length := by omega
  rw [List.take_length] at hany
  exact ⟨(fI (by rw [jJ hany]; try rfl)), st9.bare⟩
theorem PutEntryC (w : World) {x : Entry} {cs : List Value} {fp : List Nat} (hc : Shape.C w cs x fp) {b : Nat} {t : TypeId} {e : Entry} (hd : Shape.C w [I e.prio, I e.seq, I e.run, I e.task] e []) (hB : (Res.bx b [I e.prio, I e.seq, I e.run, I e.task] t).holds w) :
  Calls Tryz.prog 228 #[.agg cs.toArray, .pointer (some ⟨b, 0, none⟩)] w fun ee w' => ee = .returned (.bool (!dW x e)) ∧ St w w' [] := by
 refine bR Tryz.func228 rfl Tryz.ntmps228 aX (wp_seq (aA (sg (aJ (cs := cs) rfl (St.start w) ?_)))); intro b1 W2 hb3 st4
 refine sg (aC (v := .bool false) rfl (aB (wp_seq (aA (rc st4 5 Ag.nil.put.put.put.put [3] [(3, .bool (!(dW x e)))] [qw 0 rfl (Shape.len hc), qr (cF hB) 0, qc Tryz.func159 rfl (fun W s b => aC7 W hc hd), .o] aE fun f9 W10 h9_ st11 hb12 => (aB (wr (aL Tryz.results228 (h9_.at 3) ?_))))))))
 exact ⟨rfl, st11.bare⟩
theorem aA8 {w W0 : World} {rs : List Res} {v : Value} {xs : List Entry} {lb : Nat} {y : Entry} (k : Nat) (hst : St w W0 (Res.row (α := Entry) 131 v xs [] :: Res.bx lb [I y.prio, I y.seq, I y.run, I y.task] 131 :: rs)) (hk : k ≤ xs.length) (hy : y.ok) (hxl : xs.length ≤ 1048576) :
  Calls Tryz.prog 229 #[v, I (k : Int), .slice (some ⟨lb, 0, none⟩) 1 1] W0 fun e w' => ∃ v', e = .returned v' ∧ St w w' (Res.row (α := Entry) 131 v' (xs.take k ++ y :: xs.drop k) [] :: rs) := by
 refine jX Tryz.func229 rfl Tryz.ntmps229 aX (wp_seq (aA (sg (aC (v := .slice none 0 0) rfl (aB (wp_seq (aA (sg (aF (v := v) rfl (sg (aF (v := I (k : Int)) rfl (sg (nD (l := k) sl_EntryS rfl (bW (hst.get 0 rfl)) rfl rfl aD ?_))))))))))))); intro v5 g6 h7 hm8
 refine aB (wp_seq (aA (rn hst 3 Ag.nil.put.put.put.put.put.put.put [] [(7, I 1)] [.l (.slice (some ⟨lb, 0, none⟩) 1 1) 1 ⟨_, _, rfl⟩] aE fun f10 h10_ => (aB (wp_seq (wp_seq (aA (sg (aF (v := I 1) (h10_.at 7) (sg (dI rfl rfl (aB (aK rfl (fun h13p => ?_) (fun h13p => ?_))))))))))))))
 ·exact absurd h13p aX
 ·refine wp_skip (wp_seq (aA (rn hst 3 h10_.put.put [] [(8, I (xs.length : Int))] [ql (bW (hst.get 0 rfl))] aE fun f15 h15_ => (aB (wp_seq (wp_seq (aA (rn hst 3 h15_ [] [(22, .bool (decide ((k : Int) = (xs.length : Int))))] [.o] aE fun f17 h17_ => (aB (aK (h17_.at 22) (fun h18p => ?_) (fun h18p => ?_)))))))))))
  ·refine wp_seq (aA (sg (aF (v := v) (h17_.at 0) (sg (aF (v := .slice (some ⟨lb, 0, none⟩) 1 1) (h17_.at 2) ?_)))))
   have st21 := hst.f1
   refine sg (cP (ys := [(⟨y.prio, y.seq, y.run, y.task⟩ : Entry)]) cA rfl rfl rfl st21.f1 (Elems.one1 ⟨rfl, rfl, hy⟩) (by unfold maxLen; omega) aD ?_); intro v23 W24 st25
   refine sg (aC (v := v23) rfl (aB (wr (aL Tryz.results229 rfl ?_))))
   have hke : k = xs.length := by omega
   subst hke
   refine ⟨_, rfl, ?_⟩
   rw [List.take_length, List.drop_length]
   exact st25
  ·refine wp_skip (wp_seq (wp_seq (aA (rn hst 4 h17_ [] [(28, I ((xs.length : Int) + 1)), (29, v)] [qad (xs.length : Int) 1] aE fun f30 h30_ => ?_))))
   have hq_ := St.rowOpen hst aD
   obtain ⟨bg, cp, Cg, hvv, hcap, hmx, hCl, hel, st31⟩ := hq_
   have hCl4 : Cg.length = cp * 4 := hCl
   subst hvv
   refine sg (stp_xcap sl_EntryS (h30_.at 29) (sg (wY (h30_.at 28) rfl (aB (aK rfl (fun h34p => ?_) (fun h34p => ?_))))))
   ·refine wp_seq (aA (sg (aF (v := .slice (some ⟨bg, 0, none⟩) xs.length cp) (h30_.at 0) (sg (aF (v := I (k : Int)) (h30_.at 1) (sg (yW (h := k) sl_EntryS rfl rfl aD aD aD (lw h30_.put.put.put.put.put [(0, .slice (some ⟨bg, 0, none⟩) xs.length cp), (1, I (k : Int)), (2, .slice (some ⟨lb, 0, none⟩) 1 1), (7, I 1), (8, I (xs.length : Int)), (34, .slice (some ⟨bg, 0, none⟩) k cp)] aE fun h39_ => (rn st31 5 h39_ [] [(39, I (((xs.length : Int) + 1) - (k : Int)))] [qad (xs.length : Int) 1, qsb ((xs.length : Int) + 1) (k : Int)] aE fun f38 h38_ => (sg (stp_appz (α := Entry) (k0 := xs.length + 1 - k) (n1 := xs.length + 1) cA Tryz.underlying3 (h38_.at 34) (h38_.at 39) aD aD st31 (by rw [hCl]; exact Nat.mul_le_mul_right _ aD) aD aD (by unfold maxLen; omega) aD ?_))))))))))); intro b40 cp2 Z2 W41 hcp2 hmx2 hZl hb2 st42
    have hZl4 : Z2.length = (cp2 - k) * 4 := hZl
    refine sg (aC (v := .slice (some ⟨b40, 0, none⟩) (xs.length + 1) cp2) rfl (aB (wp_seq (aA (sg (aF (v := .slice (some ⟨b40, 0, none⟩) (xs.length + 1) cp2) rfl (sg (aF (v := I (k : Int)) (h38_.at 1) (sg (nC (l := k) sl_EntryS rfl rfl aD aD aD (sg (aF (v := .slice (some ⟨lb, 0, none⟩) 1 1) (h38_.at 2) ?_))))))))))))
    refine sg (nV (α := Entry) (C := (Cg.take (k * Shape.size Entry) ++ Z2)) (cs := [I y.prio, I y.seq, I y.run, I y.task]) sl_EntryS rfl rfl (by rw [show Nat.min 1 ((xs.length + 1) - k) = 1 from Nat.min_eq_left aD]; rfl) (fun j v hj => (by rw [Addr.add_mid]; exact cF (st42.get 2 rfl) j v hj)) (by intro v hv; simp only [List.mem_cons, List.not_mem_nil, or_false] at hv; rcases hv with rfl | rfl | rfl | rfl <;> rfl) st42 (by simp only [List.length_cons, List.length_nil, List.length_append, List.length_take, fQ, show Shape.size Entry = 4 from rfl]; omega) ?_); intro _ W50 st51
    refine aB (wp_seq (sS 8 [Pl.is (.slice (some ⟨b40, 0, none⟩) (xs.length + 1) cp2) (by rfl), Pl.is (I (k : Int)), Pl.is (I 1), Pl.is (I ((k : Int) + 1)), Pl.is (.slice (some ⟨b40, 0 + (k + 1) * 4, none⟩) ((xs.length + 1) - (k + 1)) (cp2 - (k + 1))) (by rfl), Pl.is (.slice (some ⟨bg, 0, none⟩) xs.length cp) (by rfl), Pl.is (I (k : Int)), Pl.is (.slice (some ⟨bg, 0 + k * 4, none⟩) (xs.length - k) (cp - k)) (by rfl)] mix (by rfl) (by rfl) st51 ⟨(fun f W hst hbl hd hf => aF (v := .slice (some ⟨b40, 0, none⟩) (xs.length + 1) cp2) ((hf 9 rfl).trans (show _ = (.slice (some ⟨b40, 0, none⟩) (xs.length + 1) cp2 : Value) from rfl)) brq), (fun f W hst hbl hd hf => aF (v := I (k : Int)) ((hf 1 rfl).trans (h38_.at 1)) brq), (fun f W hst hbl hd hf => aF (v := I 1) ((hf 7 rfl).trans (h38_.at 7)) brq), (fun f W hst hbl hd hf => bY (hd 1 47 rfl rfl) (hd 2 48 rfl rfl) dX brq), (fun f W hst hbl hd hf => nC (l := k + 1) sl_EntryS (hd 0 46 rfl rfl) (hd 3 49 rfl rfl) aD aD aD brq), (fun f W hst hbl hd hf => aF (v := .slice (some ⟨bg, 0, none⟩) xs.length cp) ((hf 0 rfl).trans (h38_.at 0)) brq), (fun f W hst hbl hd hf => aF (v := I (k : Int)) ((hf 1 rfl).trans (h38_.at 1)) brq), (fun f W hst hbl hd hf => nC (l := k) sl_EntryS (hd 5 51 rfl rfl) (hd 6 52 rfl rfl) aD aD aD brq), trivial⟩ ?_))
    intro f52 W53 st54 hb55 hv56 hf57
    refine sg (nV (α := Entry) (C := (cG (Cg.take (k * Shape.size Entry) ++ Z2) (0 + k * 4) [I y.prio, I y.seq, I y.run, I y.task])) (cs := ((Cg.drop (k * 4)).take ((xs.length - k) * 4))) sl_EntryS (hv56 4 50 aX rfl) (hv56 7 53 aX rfl) (by rw [show Nat.min (xs.length - k) ((xs.length + 1) - (k + 1)) = xs.length - k from yC aD aD]; rw [List.length_take, List.length_drop, hCl4, show Shape.size Entry = 4 from rfl]; omega) (fun j v hj => (by rw [Addr.add_mid, Nat.add_assoc]; exact cF (st54.get 1 rfl) _ v (xB hj))) (zS hel) st54 (by simp only [List.length_append, List.length_take, List.length_drop, fQ, show Shape.size Entry = 4 from rfl]; omega) ?_); intro _ W59 st60
    refine aB (wp_seq (aA (sg (aF (v := .slice (some ⟨b40, 0, none⟩) (xs.length + 1) cp2) ((hf57 9 rfl).trans (show _ = (.slice (some ⟨b40, 0, none⟩) (xs.length + 1) cp2 : Value) from rfl)) (sg (aC (v := .slice (some ⟨b40, 0, none⟩) (xs.length + 1) cp2) rfl (aB (wr (aL Tryz.results229 rfl ?_)))))))))
    have hel_ : Elems _ (Cg.take (xs.length * 4)) xs [] := hel
    have hYe : Elems W59 [I y.prio, I y.seq, I y.run, I y.task] [y] [] := Elems.one1 ⟨rfl, rfl, hy⟩
    have hq_ := ins_new (D := Cg.take (k * 4) ++ Z2) (a := k * 4) (Y := [I y.prio, I y.seq, I y.run, I y.task]) (M := (Cg.drop (k * 4)).take ((xs.length - k) * 4)) rfl (by simp only [List.length_append, List.length_take, List.length_drop, List.length_cons, List.length_nil, fQ, show Shape.size Entry = 4 from rfl]; omega)
    obtain ⟨T, hT⟩ := hq_
    rw [List.take_append_of_le_length (by rw [List.length_take]; omega), List.take_take, Nat.min_self] at hT
    have hfin := vW (W := _) (W' := W59) (y := y) (k := k) aD (hel_) aD hYe hT
    have hCe : (cG (cG (Cg.take (k * Shape.size Entry) ++ Z2) (0 + k * 4) [I y.prio, I y.seq, I y.run, I y.task]) (0 + (k + 1) * 4) ((Cg.drop (k * 4)).take ((xs.length - k) * 4))) = cG (cG (Cg.take (k * 4) ++ Z2) (k * 4) [I y.prio, I y.seq, I y.run, I y.task]) (k * 4 + 4) ((Cg.drop (k * 4)).take ((xs.length - k) * 4)) := by simp only [Nat.zero_add, Nat.add_mul, Nat.one_mul, show Shape.size Entry = 4 from rfl]
    have stz : St w W59 (Res.bx b40 (cG (cG (Cg.take (k * Shape.size Entry) ++ Z2) (0 + k * 4) [I y.prio, I y.seq, I y.run, I y.task]) (0 + (k + 1) * 4) ((Cg.drop (k * 4)).take ((xs.length - k) * 4))) 131 :: _) := st60
    rw [hCe] at stz
    have hl4 : (cG (cG (Cg.take (k * 4) ++ Z2) (k * 4) [I y.prio, I y.seq, I y.run, I y.task]) (k * 4 + 4) ((Cg.drop (k * 4)).take ((xs.length - k) * 4))).length = cp2 * Shape.size Entry := by rw [← hCe]; simp only [List.length_append, List.length_take, List.length_drop, fQ, show Shape.size Entry = 4 from rfl]; omega
    have stf := St.rowShut (α := Entry) (xs := xs.take k ++ y :: xs.drop k) (m := xs.length + 1) (cap := cp2) stz (by rw [List.length_append, List.length_cons, List.length_take, List.length_drop]; omega) aD aD hl4 hfin
    exact ⟨_, rfl, stf.d1.d1⟩
   ·refine wp_skip (wp_seq (aA (lw h30_.put.put [(0, .slice (some ⟨bg, 0, none⟩) xs.length cp), (1, I (k : Int)), (2, .slice (some ⟨lb, 0, none⟩) 1 1), (7, I 1), (8, I (xs.length : Int))] aE fun h65_ => (rn st31 4 h65_ [] [(56, .slice (some ⟨bg, 0, none⟩) xs.length cp), (59, I ((xs.length : Int) + 1))] [qad (xs.length : Int) 1] aE fun f64 h64_ => (sg (yW (h := (xs.length) + 1) sl_EntryS (h64_.at 56) (h64_.at 59) aD aD aD (sg (aC (v := .slice (some ⟨bg, 0, none⟩) ((xs.length) + 1) cp) rfl (aB (wp_seq (wp_seq (aA (rn st31 5 h64_.put.put [] [(61, .slice (some ⟨lb, 0, none⟩) 1 1), (62, .slice (some ⟨bg, 0, none⟩) ((xs.length) + 1) cp), (65, I ((k : Int) + 1))] [qad (k : Int) 1] aE fun f69 h69_ => ?_)))))))))))))
    refine sg (nC (l := k + 1) sl_EntryS (h69_.at 62) (h69_.at 65) aD aD aD (sg (stp_callx (h69_.at 61) rfl (overlaps_E st31.f1 (i := 0) rfl aD) (sg (nU rfl (aB (fH rfl rfl (wp_seq (sS 8 [Pl.is (.slice (some ⟨bg, 0, none⟩) ((xs.length) + 1) cp) (by rfl), Pl.is (I (k : Int)), Pl.is (I 1), Pl.is (I ((k : Int) + 1)), Pl.is (.slice (some ⟨bg, 0 + (k + 1) * 4, none⟩) (((xs.length) + 1) - (k + 1)) (cp - (k + 1))) (by rfl), Pl.is (.slice (some ⟨bg, 0, none⟩) ((xs.length) + 1) cp) (by rfl), Pl.is (I (k : Int)), Pl.is (.slice (some ⟨bg, 0 + k * 4, none⟩) (((xs.length) + 1) - k) (cp - k)) (by rfl)] mix (by rfl) (by rfl) st31.f1 ⟨(fun f W hst hbl hd hf => aF (v := .slice (some ⟨bg, 0, none⟩) ((xs.length) + 1) cp) ((hf 0 rfl).trans (h69_.at 0)) brq), (fun f W hst hbl hd hf => aF (v := I (k : Int)) ((hf 1 rfl).trans (h69_.at 1)) brq), (fun f W hst hbl hd hf => aF (v := I 1) ((hf 7 rfl).trans (h69_.at 7)) brq), (fun f W hst hbl hd hf => bY (hd 1 70 rfl rfl) (hd 2 71 rfl rfl) dX brq), (fun f W hst hbl hd hf => nC (l := k + 1) sl_EntryS (hd 0 69 rfl rfl) (hd 3 72 rfl rfl) aD aD aD brq), (fun f W hst hbl hd hf => aF (v := .slice (some ⟨bg, 0, none⟩) ((xs.length) + 1) cp) ((hf 0 rfl).trans (h69_.at 0)) brq), (fun f W hst hbl hd hf => aF (v := I (k : Int)) ((hf 1 rfl).trans (h69_.at 1)) brq), (fun f W hst hbl hd hf => nC (l := k) sl_EntryS (hd 5 74 rfl rfl) (hd 6 75 rfl rfl) aD aD aD brq), trivial⟩ ?_)))))))))
    intro f74 W75 st76 hb77 hv78 hf79
    refine sg (nV (α := Entry) (C := Cg) (cs := ((Cg.drop (k * 4)).take ((xs.length - k) * 4))) sl_EntryS (hv78 4 73 aX rfl) (hv78 7 76 aX rfl) (by rw [show Nat.min (((xs.length) + 1) - k) (((xs.length) + 1) - (k + 1)) = xs.length - k from yC aD aD]; rw [List.length_take, List.length_drop, hCl4, show Shape.size Entry = 4 from rfl]; omega) (fun j v hj => (by rw [Addr.add_mid, Nat.add_assoc]; exact cF (st76.f1.get 0 rfl) _ v (xB hj))) (zS hel) st76.f1 (by simp only [List.length_append, List.length_take, List.length_drop, fQ, show Shape.size Entry = 4 from rfl]; omega) ?_); intro _ W82 st83
    refine aB (wp_seq (aA (sg (aF (v := .slice (some ⟨bg, 0, none⟩) ((xs.length) + 1) cp) ((hf79 0 rfl).trans (h69_.at 0)) (sg (aF (v := I (k : Int)) ((hf79 1 rfl).trans (h69_.at 1)) (sg (nC (l := k) sl_EntryS rfl rfl aD aD aD (sg (aF (v := .slice (some ⟨lb, 0, none⟩) 1 1) ((hf79 2 rfl).trans (h69_.at 2)) ?_))))))))))
    refine sg (nV (α := Entry) (C := (cG Cg (0 + (k + 1) * 4) ((Cg.drop (k * 4)).take ((xs.length - k) * 4)))) (cs := [I y.prio, I y.seq, I y.run, I y.task]) sl_EntryS rfl rfl (by rw [show Nat.min 1 (((xs.length) + 1) - k) = 1 from Nat.min_eq_left aD]; rfl) (fun j v hj => (by rw [Addr.add_mid]; exact cF (st83.get 1 rfl) j v hj)) (by intro v hv; simp only [List.mem_cons, List.not_mem_nil, or_false] at hv; rcases hv with rfl | rfl | rfl | rfl <;> rfl) st83 (by simp only [List.length_cons, List.length_nil, List.length_append, List.length_take, fQ, show Shape.size Entry = 4 from rfl]; omega) ?_); intro _ W88 st89
    refine aB (wp_seq (aA (sg (aF (v := .slice (some ⟨bg, 0, none⟩) ((xs.length) + 1) cp) ((hf79 0 rfl).trans (h69_.at 0)) (sg (aC (v := .slice (some ⟨bg, 0, none⟩) ((xs.length) + 1) cp) rfl (aB (wr (aL Tryz.results229 rfl ?_)))))))))
    have hel_ : Elems _ (Cg.take (xs.length * 4)) xs [] := hel
    have hYe : Elems W88 [I y.prio, I y.seq, I y.run, I y.task] [y] [] := Elems.one1 ⟨rfl, rfl, hy⟩
    have hq_ := ins_in (D := Cg) (a := k * 4) (Y := [I y.prio, I y.seq, I y.run, I y.task]) (M := (Cg.drop (k * 4)).take ((xs.length - k) * 4)) rfl (by simp only [List.length_append, List.length_take, List.length_drop, List.length_cons, List.length_nil, fQ, show Shape.size Entry = 4 from rfl]; omega)
    obtain ⟨T, hT⟩ := hq_
    have hfin := vW (W := _) (W' := W88) (y := y) (k := k) aD (hel_) aD hYe hT
    have hCe : (cG (cG Cg (0 + (k + 1) * 4) ((Cg.drop (k * 4)).take ((xs.length - k) * 4))) (0 + k * 4) [I y.prio, I y.seq, I y.run, I y.task]) = cG (cG Cg (k * 4 + 4) ((Cg.drop (k * 4)).take ((xs.length - k) * 4))) (k * 4) [I y.prio, I y.seq, I y.run, I y.task] := by simp only [Nat.zero_add, Nat.add_mul, Nat.one_mul]
    have stz : St w W88 (Res.bx bg (cG (cG Cg (0 + (k + 1) * 4) ((Cg.drop (k * 4)).take ((xs.length - k) * 4))) (0 + k * 4) [I y.prio, I y.seq, I y.run, I y.task]) 131 :: _) := st89
    rw [hCe] at stz
    have hl4 : (cG (cG Cg (k * 4 + 4) ((Cg.drop (k * 4)).take ((xs.length - k) * 4))) (k * 4) [I y.prio, I y.seq, I y.run, I y.task]).length = cp * Shape.size Entry := by rw [← hCe]; simp only [List.length_append, List.length_take, List.length_drop, fQ, show Shape.size Entry = 4 from rfl]; omega
    have stf := St.rowShut (α := Entry) (xs := xs.take k ++ y :: xs.drop k) (m := xs.length + 1) (cap := cp) stz (by rw [List.length_append, List.length_cons, List.length_take, List.length_drop]; omega) aD aD hl4 hfin
    exact ⟨_, rfl, stf.d1⟩
theorem wP (w : World) {v : Value} {xs : List Entry} {fp : List Nat} (h : Sl w v xs fp) {ds : List Value} {e : Entry} {gp : List Nat} (hde : Shape.C w ds e gp) (hxl : xs.length ≤ 1048576) :
  Calls Tryz.prog 192 #[v, .agg ds.toArray] w fun ee w' => ∃ (v' : Value) (fp' : List Nat), ee = .returned v' ∧ St w w' [Res.own v' (jF xs e) fp'] := by
 have hd_ := hde
 obtain ⟨rfl, rfl, hok⟩ := hd_
 have hpl := tT xs e
 refine bR Tryz.func192 rfl Tryz.ntmps192 aX (wp_seq (aA (sg (aJ (cs := [I e.prio, I e.seq, I e.run, I e.task]) rfl (St.start w) ?_)))); intro b1 W2 hb3 st4
 refine sg (aC (v := .slice none 0 0) rfl (aB (wp_seq (aA (sg (aF (v := v) rfl (sg (kC sQ (sO (v := .pointer (some ⟨b1, 0, none⟩)) rfl sQ) (sg (bJ Tryz.func227 rfl rfl rfl ((yS W2 (h.below st4.below) 228 [.pointer (some ⟨b1, 0, none⟩)] Tryz.func228 rfl (fun x => !dW x e) (fun w1 i hi cs f1 hb hc => PutEntryC w1 hc (show Shape.C _ _ _ _ from hde) (Res.below (st4.get 0 rfl) hb))).mono ?_))))))))))); rintro _ W10 ⟨rfl, hk11⟩; refine ⟨_, rfl, ?_⟩
 have st12 := St.call st4 hk11
 refine sg (aC (v := I (ixI (fE (fun x => !dW x e) xs))) rfl (aB (wp_seq (wp_seq (aA (sg (aF (v := I (ixI (fE (fun x => !dW x e) xs))) rfl (sg (bS rfl rfl (aB (aK rfl (fun h17p => ?_) (fun h17p => ?_))))))))))))
 ·refine aA (rn st12 3 Ag.nil.put.put.put.put.put.put.put.put.put.put [5] [(5, I (xs.length : Int))] [ql h] aE fun f19 h19_ => (aB (wp_seq (eX 5 [1, 4] [[], [1], [4], [1, 4]] [[(0, 1), (2, 3)], [(1, 3), (0, 2)]] (w1 := W10) (rs := [Res.bx b1 [I e.prio, I e.seq, I e.run, I e.task] 131]) (fun q => match q with | 0 => Cp.fr (ι := Unit) (fun _ => []) (fun _ => []) | 1 => Cp.fr (ι := Value) (fun v21 => [v21]) (fun v21 => [Res.row (α := Entry) 131 v21 xs []]) | 2 => Cp.fr (ι := Nat) (fun b34 => [.slice (some ⟨b34, 0, none⟩) 1 1]) (fun b34 => [Res.bx b34 [I e.prio, I e.seq, I e.run, I e.task] 131]) | _ => Cp.fr (ι := Nat × Value) (fun ⟨b28, v21⟩ => [v21, .slice (some ⟨b28, 0, none⟩) 1 1]) (fun ⟨b28, v21⟩ => [Res.bx b28 [I e.prio, I e.seq, I e.run, I e.task] 131, Res.row (α := Entry) 131 v21 xs []])) [Pq.is (v) (Sl.yl h), Pq.none, Pq.is (I (jZ xs e : Int)), Pq.is (.agg #[I e.prio, I e.seq, I e.run, I e.task]), Pq.none] mix (by rfl) (by rfl) (by rfl) ⟨(), rfl, st12, (Below.refl _ _)⟩ (by rfl) ⟨(fun f W hst hbl hd hf => aF (v := v) ((hf 0 rfl).trans (h19_.at 0)) brq), ⟨rfl, ?_, ?_, True.intro⟩, (fun f W hst hbl hd hf => aF (v := I (jZ xs e : Int)) ((hf 5 rfl).trans (Eq.trans (show _ = I (xs.length : Int) from (h19_.at 5)) (congrArg I (by rw [putIx_none h17p])))) brq), (fun f W hst hbl hd hf => aV (cs := [I e.prio, I e.seq, I e.run, I e.task]) dN rfl ((hf 3 rfl).trans (h19_.at 3)) (hst.get 0 rfl) rfl rfl brq), ⟨rfl, ?_, ?_, True.intro⟩, trivial⟩ ?_))))
  ·intro f W hC hd hf
   have hC_ := hC
   obtain ⟨_, hu, st20, hbl⟩ := hC_
   try dsimp only [cap_, dP] at st20
   refine (bF Tryz.func174 rfl (hd 0 13 rfl rfl) ((fM W (h.below st20.below) aD).mono ?_)); rintro _ W23 ⟨v21, rfl, hk24⟩; refine ⟨_, rfl, ?_⟩
   have st25 := St.call st20 hk24
   exact ⟨⟨v21, (ce rfl rfl), st25, (hbl.trans (Below.mono hk24.below hbl.size))⟩, Sl.yl (bW (st25.get 0 rfl))⟩
  ·intro f W hC hd hf
   have hC_ := hC
   obtain ⟨b34, hu, st39, hbl⟩ := hC_
   try dsimp only [cap_, dP] at st39
   have hu1_17 : f 17 = .slice (some ⟨b34, 0, none⟩) 1 1 := congrArg (fun l => l.getD 0 undef) hu
   refine (bF Tryz.func174 rfl (hd 0 13 rfl rfl) ((fM W (h.below st39.below) aD).mono ?_)); rintro _ W42 ⟨v40, rfl, hk43⟩; refine ⟨_, rfl, ?_⟩
   have st44 := St.call st39 hk43
   exact ⟨⟨(b34, v40), (ce rfl (ce hu1_17 rfl)), st44.f2.f1.f2, (hbl.trans (Below.mono hk43.below hbl.size))⟩, Sl.yl (bW (st44.f2.f1.f2.get 1 rfl))⟩
  ·intro f W hC hd hf
   have hC_ := hC
   obtain ⟨v21, hu, st27, hbl⟩ := hC_
   try dsimp only [cap_, dP] at st27
   have hu4_14 : f 14 = v21 := congrArg (fun l => l.getD 0 undef) hu
   refine (aT (cs := [I e.prio, I e.seq, I e.run, I e.task]) (e := 131) (cY (v := .agg #[I e.prio, I e.seq, I e.run, I e.task]) (hd 3 16 rfl rfl) eA) (bN cA _ _ rfl rfl aX) st27 ?_); intro b28 W29 hb30 st31
   exact ⟨⟨(b28, v21), (ce hu4_14 (ce rfl rfl)), st31, (hbl.trans (Below.mono hb30 hbl.size))⟩, rfl⟩
  ·intro f W hC hd hf
   have hC_ := hC
   obtain ⟨_, hu, st33, hbl⟩ := hC_
   try dsimp only [cap_, dP] at st33
   refine (aT (cs := [I e.prio, I e.seq, I e.run, I e.task]) (e := 131) (cY (v := .agg #[I e.prio, I e.seq, I e.run, I e.task]) (hd 3 16 rfl rfl) eA) (bN cA _ _ rfl rfl aX) st33 ?_); intro b34 W35 hb36 st37
   exact ⟨⟨b34, (ce rfl rfl), st37, (hbl.trans (Below.mono hb36 hbl.size))⟩, rfl⟩
  intro f49 W50 hC hv51 hf52
  have hC_ := hC
  obtain ⟨⟨b28, v21⟩, hu, st53, hbl54⟩ := hC_
  try dsimp only [cap_, dP] at st53
  have hu55 : f49 14 = v21 := congrArg (fun l => l.getD 0 undef) hu
  have hu56 : f49 17 = .slice (some ⟨b28, 0, none⟩) 1 1 := congrArg (fun l => l.getD 1 undef) hu
  have st59 := st53.f1
  refine sg (hX Tryz.func229 rfl hu55 (hv51 2 15 aX rfl) hu56 ((aA8 (y := e) (jZ xs e) st59 aD (by assumption) aD).mono ?_)); rintro _ W58 ⟨v61, rfl, st60⟩; refine ⟨_, rfl, ?_⟩
  refine sg (aC (v := v61) rfl (aB (wr (aL Tryz.results192 rfl ?_))))
  have hq_ := st60.shut
  obtain ⟨fp65, st64⟩ := hq_
  exact ⟨_, _, rfl, st64.only 0 rfl⟩
 ·refine wp_skip (wp_seq (eX 5 [1, 4] [[], [1], [4], [1, 4]] [[(0, 1), (2, 3)], [(1, 3), (0, 2)]] (w1 := W10) (rs := [Res.bx b1 [I e.prio, I e.seq, I e.run, I e.task] 131]) (fun q => match q with | 0 => Cp.fr (ι := Unit) (fun _ => []) (fun _ => []) | 1 => Cp.fr (ι := Value) (fun v67 => [v67]) (fun v67 => [Res.row (α := Entry) 131 v67 xs []]) | 2 => Cp.fr (ι := Nat) (fun b80 => [.slice (some ⟨b80, 0, none⟩) 1 1]) (fun b80 => [Res.bx b80 [I e.prio, I e.seq, I e.run, I e.task] 131]) | _ => Cp.fr (ι := Nat × Value) (fun ⟨b74, v67⟩ => [v67, .slice (some ⟨b74, 0, none⟩) 1 1]) (fun ⟨b74, v67⟩ => [Res.bx b74 [I e.prio, I e.seq, I e.run, I e.task] 131, Res.row (α := Entry) 131 v67 xs []])) [Pq.is (v) (Sl.yl h), Pq.none, Pq.is (I (jZ xs e : Int)), Pq.is (.agg #[I e.prio, I e.seq, I e.run, I e.task]), Pq.none] mix (by rfl) (by rfl) (by rfl) ⟨(), rfl, st12, (Below.refl _ _)⟩ (by rfl) ⟨(fun f W hst hbl hd hf => aF (v := v) ((hf 0 rfl).trans (show _ = v from rfl)) brq), ⟨rfl, ?_, ?_, True.intro⟩, (fun f W hst hbl hd hf => aF (v := I (jZ xs e : Int)) ((hf 5 rfl).trans (Eq.trans (show _ = I (ixI (fE (fun x => !dW x e) xs)) from rfl) (congrArg I (putIx_some h17p)))) brq), (fun f W hst hbl hd hf => aV (cs := [I e.prio, I e.seq, I e.run, I e.task]) dN rfl ((hf 3 rfl).trans (show _ = (.pointer (some ⟨b1, 0, none⟩) : Value) from rfl)) (hst.get 0 rfl) rfl rfl brq), ⟨rfl, ?_, ?_, True.intro⟩, trivial⟩ ?_))
  ·intro f W hC hd hf
   have hC_ := hC
   obtain ⟨_, hu, st66, hbl⟩ := hC_
   try dsimp only [cap_, dP] at st66
   refine (bF Tryz.func174 rfl (hd 0 13 rfl rfl) ((fM W (h.below st66.below) aD).mono ?_)); rintro _ W69 ⟨v67, rfl, hk70⟩; refine ⟨_, rfl, ?_⟩
   have st71 := St.call st66 hk70
   exact ⟨⟨v67, (ce rfl rfl), st71, (hbl.trans (Below.mono hk70.below hbl.size))⟩, Sl.yl (bW (st71.get 0 rfl))⟩
  ·intro f W hC hd hf
   have hC_ := hC
   obtain ⟨b80, hu, st85, hbl⟩ := hC_
   try dsimp only [cap_, dP] at st85
   have hu1_17 : f 17 = .slice (some ⟨b80, 0, none⟩) 1 1 := congrArg (fun l => l.getD 0 undef) hu
   refine (bF Tryz.func174 rfl (hd 0 13 rfl rfl) ((fM W (h.below st85.below) aD).mono ?_)); rintro _ W88 ⟨v86, rfl, hk89⟩; refine ⟨_, rfl, ?_⟩
   have st90 := St.call st85 hk89
   exact ⟨⟨(b80, v86), (ce rfl (ce hu1_17 rfl)), st90.f2.f1.f2, (hbl.trans (Below.mono hk89.below hbl.size))⟩, Sl.yl (bW (st90.f2.f1.f2.get 1 rfl))⟩
  ·intro f W hC hd hf
   have hC_ := hC
   obtain ⟨v67, hu, st73, hbl⟩ := hC_
   try dsimp only [cap_, dP] at st73
   have hu4_14 : f 14 = v67 := congrArg (fun l => l.getD 0 undef) hu
   refine (aT (cs := [I e.prio, I e.seq, I e.run, I e.task]) (e := 131) (cY (v := .agg #[I e.prio, I e.seq, I e.run, I e.task]) (hd 3 16 rfl rfl) eA) (bN cA _ _ rfl rfl aX) st73 ?_); intro b74 W75 hb76 st77
   exact ⟨⟨(b74, v67), (ce hu4_14 (ce rfl rfl)), st77, (hbl.trans (Below.mono hb76 hbl.size))⟩, rfl⟩
  ·intro f W hC hd hf
   have hC_ := hC
   obtain ⟨_, hu, st79, hbl⟩ := hC_
   try dsimp only [cap_, dP] at st79
   refine (aT (cs := [I e.prio, I e.seq, I e.run, I e.task]) (e := 131) (cY (v := .agg #[I e.prio, I e.seq, I e.run, I e.task]) (hd 3 16 rfl rfl) eA) (bN cA _ _ rfl rfl aX) st79 ?_); intro b80 W81 hb82 st83
   exact ⟨⟨b80, (ce rfl rfl), st83, (hbl.trans (Below.mono hb82 hbl.size))⟩, rfl⟩
  intro f95 W96 hC hv97 hf98
  have hC_ := hC
  obtain ⟨⟨b74, v67⟩, hu, st99, hbl100⟩ := hC_
  try dsimp only [cap_, dP] at st99
  have hu101 : f95 14 = v67 := congrArg (fun l => l.getD 0 undef) hu
  have hu102 : f95 17 = .slice (some ⟨b74, 0, none⟩) 1 1 := congrArg (fun l => l.getD 1 undef) hu
  have st105 := st99.f1
  refine sg (hX Tryz.func229 rfl hu101 (hv97 2 15 aX rfl) hu102 ((aA8 (y := e) (jZ xs e) st105 aD (by assumption) aD).mono ?_)); rintro _ W104 ⟨v107, rfl, st106⟩; refine ⟨_, rfl, ?_⟩
  refine sg (aC (v := v107) rfl (aB (wr (aL Tryz.results192 rfl ?_))))
  have hq_ := st106.shut
  obtain ⟨fp111, st110⟩ := hq_
  exact ⟨_, _, rfl, st110.only 0 rfl⟩
theorem sC (w : World) {v : Value} {xs : List Entry} {fp : List Nat} (h : Sl w v xs fp) {ds : List Value} {e : Entry} {gp : List Nat} (hde : Shape.C w ds e gp) (hxl : xs.length ≤ 1048576) :
  Calls Tryz.prog 187 #[v, .agg ds.toArray] w fun ee w' => ∃ (v' : Value) (fp' : List Nat), ee = .returned v' ∧ St w w' [Res.own v' (jF xs e) fp'] := by
 have hd_ := hde
 obtain ⟨rfl, rfl, hok⟩ := hd_
 have hpl := tT xs e
 refine bR Tryz.func187 rfl Tryz.ntmps187 aX (wp_seq (aA (sg (aJ (cs := [I e.prio, I e.seq, I e.run, I e.task]) rfl (St.start w) ?_)))); intro b1 W2 hb3 st4
 refine sg (aC (v := .slice none 0 0) rfl (aB (wp_seq (aA (sg (aC (v := I 0) rfl (aB (wp_seq (wp_block (aY (fun (m : Nat) (f : Nat → Value) (W : World) => ∃ (k : Nat), k ≤ xs.length ∧ (xs.take k).any (fun x => !dW x e) = false ∧ m = xs.length - k ∧ Ag [(0, v), (3, .pointer (some ⟨b1, 0, none⟩)), (5, I (k : Int))] f ∧ St w W ([Res.bx b1 [I e.prio, I e.seq, I e.run, I e.task] 131])) (xs.length - 0) ?_ ?_))))))))))
 ·exact ⟨0, Nat.zero_le _, rfl, rfl, (Ag.nil.put.put.put.put.put.to aE), st4⟩
 intro m10 f11 W12 hJ13
 obtain ⟨k, hk, hany, rfl, hA15, st14⟩ := hJ13
 refine wp_seq (wp_seq ?_)
 rcases nem ((k : Int) < (xs.length : Int)) with h17p | h17p
 ·have h17 := decide_eq_false h17p
  refine rd st14 hA15 [] [(18, .bool false)] [ql h, qk h17] aE aE fun f19 W20 h19_ st21 hb22 => (gK (h19_.at 18) rfl (wp_exit (wp_seq (aA (sg (aT (cs := []) (e := 131) eA (bV cA _) st21 ?_)))))); intro b23 W24 hb25 st26
  have st26 := st26.row_empty (α := Entry)
  refine sg (aF (v := v) (h19_.at 0) (sg (aF (v := I (k : Int)) (h19_.at 5) (sg (lB (h := k) sl_EntryS rfl h rfl rfl aD ?_))))); intro v30 g31 h32 hm33
  refine sg (cE eI cA rfl rfl h32 st26.below st26 (by simp only [List.length_append, List.length_take, List.length_drop, List.length_cons, List.length_nil]; unfold maxLen; omega) (by simp only [List.length_append, List.length_take, List.length_drop, List.length_cons, List.length_nil]; omega) ?_); intro v34 W35 st36
  refine sg (aC (v := v34) rfl (aB (wp_seq (aA (sg (aF (v := v34) rfl (sg (aV (cs := [I e.prio, I e.seq, I e.run, I e.task]) dN rfl (h19_.at 3) (st36.get 1 rfl) rfl rfl (sg (aT (cs := [I e.prio, I e.seq, I e.run, I e.task]) (e := 131) (cY (v := .agg #[I e.prio, I e.seq, I e.run, I e.task]) rfl eA) (bN cA _ _ rfl rfl aX) st36 ?_)))))))))); intro b41 W42 hb43 st44
  refine sg (cP (ys := [(⟨e.prio, e.seq, e.run, e.task⟩ : Entry)]) cA rfl rfl rfl st44.f1 (Elems.one1 ⟨rfl, rfl, hok⟩) (by simp only [List.length_append, List.length_take, List.length_drop, List.length_cons, List.length_nil]; unfold maxLen; omega) (by simp only [List.length_append, List.length_take, List.length_drop, List.length_cons, List.length_nil]; omega) ?_); intro v47 W48 st49
  refine sg (aC (v := v47) rfl (aB (wp_seq (aA (rn st49 3 h19_.put.put.put.put.put.put.put.put.put.put.put [] [(30, v47), (31, v), (32, I (k : Int))] [] aE fun f53 h53_ => (sg (nD (l := k) sl_EntryS (h53_.at 31) h (h53_.at 32) rfl aD ?_))))))); intro v54 g55 h56 hm57
  refine sg (cE eI cA (h53_.at 30) rfl h56 st49.below st49 (by simp only [List.length_append, List.length_take, List.length_drop, List.length_cons, List.length_nil]; unfold maxLen; omega) (by simp only [List.length_append, List.length_take, List.length_drop, List.length_cons, List.length_nil]; omega) ?_); intro v58 W59 st60
  refine sg (aC (v := v58) rfl (aB (wr (aL Tryz.results187 rfl ?_))))
  have hq_ := st60.shut
  obtain ⟨fp64, st63⟩ := hq_
  have hpk := xY (e := e) (k := k) aD hany (.inl aD)
  have hfe : jF xs e = ([] ++ xs.take k ++ [e]) ++ xs.drop k := by unfold jF; rw [hpk]; simp
  rw [hfe]
  exact ⟨_, _, rfl, st63.only 0 rfl⟩
 ·have h17 := decide_eq_true h17p
  have hi51fab : k < xs.length := aD
  have hq_ := idx h (i := k) hi51fab
  obtain ⟨b66, o66, cs66, f66, hp66, hr66, hc66, hm66⟩ := hq_
  have hk67 := hc66
  obtain ⟨he67, rfl, hok67⟩ := hk67
  have he67 : _ = [I (xs[k]'hi51fab).prio, I (xs[k]'hi51fab).seq, I (xs[k]'hi51fab).run, I (xs[k]'hi51fab).task] := he67
  subst he67
  refine rd st14 hA15 [] [(18, .bool (dW (xs[k]'hi51fab) e))] [ql h, qk h17, qx hp66, qr hr66 0, qb 0 rfl 0, qc (args := [.agg #[I (xs[k]'hi51fab).prio, I (xs[k]'hi51fab).seq, I (xs[k]'hi51fab).run, I (xs[k]'hi51fab).task], .agg #[I e.prio, I e.seq, I e.run, I e.task]]) (v := .bool (dW (xs[k]'hi51fab) e)) Tryz.func211 rfl (fun W s b => aC6 W hc66 hde)] aE aE fun f68 W69 h68_ st70 hb71 => (cT (h68_.at 18) (fun h72 => ?_) (fun h72 => ?_))
  ·refine wp_skip (wp_block (aA (rn st70 3 h68_ [5] [(5, I ((k : Int) + 1))] [qad (k : Int) 1] aE fun f74 h74_ => (aB ?_))))
   exact ⟨_, xs.length - (k + 1), aD, rfl, k + 1, aD, (mU aD hany (by rw [h72]; rfl)), rfl, (h74_.to aE), st70⟩
  ·refine wp_exit (wp_seq (aA (sg (aT (cs := []) (e := 131) eA (bV cA _) st70 ?_)))); intro b75 W76 hb77 st78
   have st78 := st78.row_empty (α := Entry)
   refine sg (aF (v := v) (h68_.at 0) (sg (aF (v := I (k : Int)) (h68_.at 5) (sg (lB (h := k) sl_EntryS rfl h rfl rfl aD ?_))))); intro v82 g83 h84 hm85
   refine sg (cE eI cA rfl rfl h84 st78.below st78 (by simp only [List.length_append, List.length_take, List.length_drop, List.length_cons, List.length_nil]; unfold maxLen; omega) (by simp only [List.length_append, List.length_take, List.length_drop, List.length_cons, List.length_nil]; omega) ?_); intro v86 W87 st88
   refine sg (aC (v := v86) rfl (aB (wp_seq (aA (sg (aF (v := v86) rfl (sg (aV (cs := [I e.prio, I e.seq, I e.run, I e.task]) dN rfl (h68_.at 3) (st88.get 1 rfl) rfl rfl (sg (aT (cs := [I e.prio, I e.seq, I e.run, I e.task]) (e := 131) (cY (v := .agg #[I e.prio, I e.seq, I e.run, I e.task]) rfl eA) (bN cA _ _ rfl rfl aX) st88 ?_)))))))))); intro b93 W94 hb95 st96
   refine sg (cP (ys := [(⟨e.prio, e.seq, e.run, e.task⟩ : Entry)]) cA rfl rfl rfl st96.f1 (Elems.one1 ⟨rfl, rfl, hok⟩) (by simp only [List.length_append, List.length_take, List.length_drop, List.length_cons, List.length_nil]; unfold maxLen; omega) (by simp only [List.length_append, List.length_take, List.length_drop, List.length_cons, List.length_nil]; omega) ?_); intro v99 W100 st101
   refine sg (aC (v := v99) rfl (aB (wp_seq (aA (rn st101 3 h68_.put.put.put.put.put.put.put.put.put.put.put [] [(30, v99), (31, v), (32, I (k : Int))] [] aE fun f105 h105_ => (sg (nD (l := k) sl_EntryS (h105_.at 31) h (h105_.at 32) rfl aD ?_))))))); intro v106 g107 h108 hm109
   refine sg (cE eI cA (h105_.at 30) rfl h108 st101.below st101 (by simp only [List.length_append, List.length_take, List.length_drop, List.length_cons, List.length_nil]; unfold maxLen; omega) (by simp only [List.length_append, List.length_take, List.length_drop, List.length_cons, List.length_nil]; omega) ?_); intro v110 W111 st112
   refine sg (aC (v := v110) rfl (aB (wr (aL Tryz.results187 rfl ?_))))
   have hq_ := st112.shut
   obtain ⟨fp116, st115⟩ := hq_
   have hpk := xY (e := e) (k := k) aD hany (.inr ⟨by omega, h72⟩)
   have hfe : jF xs e = ([] ++ xs.take k ++ [e]) ++ xs.drop k := by unfold jF; rw [hpk]; simp
   rw [hfe]
   exact ⟨_, _, rfl, st115.only 0 rfl⟩
end Go.Proofs.YtchnllpegfbleaaGreat
namespace Go.Proofs.YtchnllpegfbleaaGreat
set_option linter.unusedSimpArgs false
set_option linter.unusedVariables false
set_option maxHeartbeats 2000000
open Go.RowKit Go.Lib
def fN (a b : Int) : Int := ((a.toNat ^^^ b.toNat : Nat) : Int)
theorem mY {a b : Int} (ha : 0 ≤ a ∧ a < 4294967296) (hb : 0 ≤ b ∧ b < 4294967296) : 0 ≤ fN a b ∧ fN a b < 4294967296 := by
 have h := Nat.xor_lt_two_pow (n := 32) (x := a.toNat) (y := b.toNat) aD aD
 unfold fN
 generalize a.toNat ^^^ b.toNat = m at h ⊢
 omega
section
variable {P : Program} {n : Nat} {f : Nat → Value} {W : World} {Q : Exit → Act → World → Prop} {K : Value → World → Prop} {d : Option Tmp} {ty : TypeId} {pos : String} {af : Array Go.Edge} {g : Option (Nat × Bool)} {x y : Operand} {t t' : TypeId}
theorem stp_xor {a b : Nat} (hx : ev n f x = I (a : Int)) (hy : ev n f y = I (b : Int)) (ha : a < 2 ^ 32) (hb : b < 2 ^ 32) (k : K (I ((a ^^^ b : Nat) : Int)) W) : Stp P n ⟨d, .binOp .xor t x y t', ty, pos, af, g⟩ f W Q K :=
 Stp.run (v := I ((a ^^^ b : Nat) : Int)) (by
  have h := Nat.xor_lt_two_pow ha hb
  have hw : IntKind.i64.wrap ((BitVec.ofInt 64 (a : Int) ^^^ BitVec.ofInt 64 (b : Int)).toNat : Int) = ((a ^^^ b : Nat) : Int) := by
   rw [BitVec.toNat_xor, iR a ha, iR b hb]
   exact jR ⟨by omega, by omega⟩
  simp [execOp, hx, hy, go_sem]
  exact hw) k
theorem lS {a b : Int} (hx : ev n f x = I a) (hy : ev n f y = I b) (ha : 0 ≤ a ∧ a < 4294967296) (hb : 0 ≤ b ∧ b < 4294967296) (k : K (I (fN a b)) W) : Stp P n ⟨d, .binOp .xor t x y t', ty, pos, af, g⟩ f W Q K :=
 stp_xor (qY hx ha.1) (qY hy hb.1) aD aD k
theorem xP {s : ByteArray} {i : Nat} (hu : P.underlying t = some .string) (hx : ev n f x = .string s) (hy : ev n f y = I (i : Int)) (h : i < s.data.toList.length) (k : K (.int .u8 ((s.data.toList[i]'h).toNat : Int)) W) : Stp P n ⟨d, .index t x y, ty, pos, af, g⟩ f W Q K :=
 Stp.run (v := .int .u8 ((s.data.toList[i]'h).toNat : Int)) (by
  have hs : 0 ≤ (i : Int) ∧ (i : Int) < s.size := ⟨by omega, by have : s.size = s.data.toList.length := rfl; omega⟩
  have := run_index_string (P := P) (w := W) t s .i64 i hu
  rw [dif_pos hs] at this
  simp only [execOp, hx, hy, Sem.run_bind, this, Result.andThen_ok]; rfl) k
theorem zM {a : Int} (hs : P.underlying t = some (.int .u8)) (hd : P.underlying t' = some (.int .i64)) (hx : ev n f x = .int .u8 a) (h : 0 ≤ a ∧ a < 256) (k : K (I a) W) : Stp P n ⟨d, .convert t t' x, ty, pos, af, g⟩ f W Q K :=
 Stp.run (v := I a) (by
  have hk : P.intKind t' = .i64 := by simp [Program.intKind, hd]
  have hw : IntKind.i64.wrap a = a := jR ⟨by omega, by omega⟩
  have hd' : P.underlying t' = some (.int (P.intKind t')) := by rw [hk]; exact hd
  have := run_convert_int (P := P) W t t' .u8 a (by rw [hs]; rfl) hd'
  rw [hk, hw] at this
  simp only [execOp, hx, Sem.run_bind, this, Result.andThen_ok]; rfl) k
end
theorem Elems.byte1 {W : World} {e : Int} (h : 0 ≤ e ∧ e < 256) : Elems W [.int .u8 e] [UInt8.ofNat e.toNat] [] := by
 have : ((UInt8.ofNat e.toNat).toNat : Int) = e := by simp [UInt8.toNat_ofNat']; omega
 exact Elems.one1 ⟨by show [Value.int .u8 e] = [.int .u8 ((UInt8.ofNat e.toNat).toNat : Int)]; rw [this], rfl, trivial⟩
theorem uP (b : UInt8) : 0 ≤ (b.toNat : Int) ∧ (b.toNat : Int) < 256 := by have := b.toNat_lt; omega
def gF (n : Nat) : List UInt8 := if 128 ≤ n then UInt8.ofNat (128 + n % 128) :: gF (n / 128) else [UInt8.ofNat n]
termination_by n
decreasing_by omega
theorem nA {n : Nat} (h : 128 ≤ n) : gF n = UInt8.ofNat (128 + n % 128) :: gF (n / 128) := by rw [gF, if_pos h]
theorem kB {n : Nat} (h : ¬ 128 ≤ n) : gF n = [UInt8.ofNat n] := by rw [gF, if_neg h]
theorem varBytes_len7 : ∀ (d n : Nat), n < 128 ^ (d + 1) → (gF n).length ≤ d + 1 := by
 intro d
 induction d with
 | zero => intro n h; rw [kB (by simpa using h)]; simp
 | succ d ih =>
  intro n h
  by_cases h1 : 128 ≤ n
  ·rw [nA h1, List.length_cons]
   have := ih (n / 128) (by rw [Nat.div_lt_iff_lt_mul aD]; rw [Nat.pow_succ] at h; exact h)
   omega
  ·rw [kB h1]; simp
def eW (n : Int) : ByteArray := if inB n 0 1000000000 then ⟨(gF n.toNat).toArray⟩ else ⟨#[]⟩
def jY (s : Int) : Int := if s % 2 = 1 then fN (s / 2) 3988292384 else s / 2
def hO : Nat → Int → Int
 | 0, s => s
 | k + 1, s => jY (hO k s)
theorem crcBit_rng {s : Int} (h : 0 ≤ s ∧ s < 4294967296) : 0 ≤ jY s ∧ jY s < 4294967296 := by
 unfold jY
 split
 ·exact mY aD aD
 ·omega
theorem rB {s : Int} (h : 0 ≤ s ∧ s < 4294967296) : ∀ k, 0 ≤ hO k s ∧ hO k s < 4294967296
 | 0 => h
 | k + 1 => crcBit_rng (rB h k)
def fT (l : List UInt8) : Int := l.foldl (fun s b => hO 8 (fN s (b.toNat : Int))) 4294967295
theorem tD (l : List UInt8) : 0 ≤ fT l ∧ fT l < 4294967296 := by
 unfold fT
 have : ∀ (l : List UInt8) (s : Int), 0 ≤ s ∧ s < 4294967296 → 0 ≤ l.foldl (fun s b => hO 8 (fN s (b.toNat : Int))) s ∧ l.foldl (fun s b => hO 8 (fN s (b.toNat : Int))) s < 4294967296 := by
  intro l
  induction l with
  | nil => intro s h; exact h
  | cons b l ih => intro s h; exact ih _ (rB (mY h (by have := uP b; omega)) 8)
 exact this l _ aD
theorem zH {l : List UInt8} {i : Nat} (h : i < l.length) : fT (l.take (i + 1)) = hO 8 (fN (fT (l.take i)) (l[i].toNat : Int)) := by
 unfold fT
 rw [List.take_succ_eq_append_getElem h, List.foldl_append]; rfl
def nB (t : ByteArray) : Int := fN (fT t.data.toList) 4294967295
theorem vH (t : ByteArray) : 0 ≤ nB t ∧ nB t < 4294967296 := mY (tD _) aD
def bH (id : Int) : Int := if eW id = ⟨#[]⟩ then 0 else nB (eW id) % 4
theorem iQ (id : Int) : 0 ≤ bH id ∧ bH id < 4 := by unfold bH; split <;> omega
theorem pQ (id : Int) : (eW id).size ≤ 5 := by
 unfold eW
 split
 ·rename_i h
  rw [inB_iff'] at h
  show (gF id.toNat).toArray.size ≤ 5
  rw [List.size_toArray]
  exact varBytes_len7 4 _ aD
 ·exact Nat.zero_le _
end Go.Proofs.YtchnllpegfbleaaGreat
namespace Go.Proofs.YtchnllpegfbleaaGreat
set_option linter.unusedSimpArgs false
set_option linter.unusedVariables false
set_option maxRecDepth 100000
set_option maxHeartbeats 2000000
open Go.RowKit
theorem VarTextI (w : World) (id : Int) :
  Calls Tryz.prog 236 #[I id] w fun e w' => e = .returned (.string (eW id)) ∧ St w w' [] := by
 refine cR Tryz.func236 rfl Tryz.ntmps236 aX (wp_seq (aA (sg (aC (v := .string (⟨#[]⟩ : ByteArray)) rfl (aB (wp_seq (wp_seq (aA (rc (St.start w) 3 Ag.nil.put.put [] [(6, .bool (!(inB id 0 1000000000)))] [qc Tryz.func47 rfl (fun W s b => bZ W id 0 1000000000), .o] aE fun f4 W5 h4_ st6 hb7 => (aB (cT (h4_.at 6) (fun h8 => ?_) (fun h8 => ?_))))))))))))
 ·have h8p := cJ (aW h8)
  refine wp_seq (aA (sg (aC (v := .string (⟨#[]⟩ : ByteArray)) rfl (aB (wr (aL Tryz.results236 rfl ?_))))))
  exact ⟨(congrArg (fun z => Ending.returned (.string z)) (by unfold eW; rw [if_neg (by rw [(aW h8)]; decide)])), st6.bare⟩
 ·have h8p := inB_iff'.1 (bG h8)
  refine wp_skip (wp_seq (aA (sg (aC (v := .slice none 0 0) rfl (aB (wp_seq (wp_block ?_)))))))
  have st14 := st6.row_nil (α := UInt8) 5
  refine aY (fun (m : Nat) (f : Nat → Value) (W : World) => ∃ (n : Int) (xs : List UInt8) (v13 : Value), 0 ≤ n ∧ n ≤ 1000000000 ∧ xs ++ gF n.toNat = gF id.toNat ∧ (xs.length : Int) + n ≤ id ∧ m = n.toNat ∧ Ag [(0, I n), (3, v13)] f ∧ St w W ([Res.row (α := UInt8) 5 v13 xs []])) (id.toNat) ?_ ?_
  ·exact ⟨id, [], (.slice none 0 0), aD, aD, rfl, (by simp), rfl, (h4_.put.to aE), st14⟩
  intro m16 f17 W18 hJ19
  obtain ⟨n, xs, v13, hn0, hn1, hvb, hxl, rfl, hA21, st20⟩ := hJ19
  refine wp_seq (wp_seq (aA (sg (aF (v := I n) (hA21.at 0) (sg (zL rfl rfl (aB (aK rfl (fun h24p => ?_) (fun h24p => ?_)))))))))
  ·refine wp_skip (wp_block (wp_seq (aA (rn st20 4 hA21.put.put [] [(9, v13), (12, I ((n % 128) + 128))] [qq n 128, qad (n % 128) 128] aE fun f26 h26_ => (sg (pZ aE Tryz.underlying5 (h26_.at 12) aD (sg (aT (cs := [.int .u8 ((n % 128) + 128)]) (e := 5) (cY (v := .int .u8 ((n % 128) + 128)) rfl eA) (bN iC _ _ rfl rfl aX) st20 ?_)))))))); intro b27 W28 hb29 st30
   refine sg (cP (ys := [UInt8.ofNat ((n % 128) + 128).toNat]) iC (h26_.at 9) rfl rfl st30.f1 (Elems.byte1 aD) (by unfold maxLen; omega) aD ?_); intro v33 W34 st35
   refine sg (aC (v := v33) rfl (aB (aA (rn st35 3 h26_.put.put.put.put [0] [(0, I (n / 128))] [qq n 128] aE fun f39 h39_ => (aB ?_)))))
   exact ⟨_, (n / 128).toNat, aD, rfl, n / 128, xs ++ [UInt8.ofNat (n % 128 + 128).toNat], v33, aD, aD, (by rw [← hvb, nA (n := n.toNat) aD, List.append_assoc]; have e1 : (n % 128 + 128).toNat = 128 + n.toNat % 128 := aD; have e2 : (n / 128).toNat = n.toNat / 128 := aD; rw [e1, e2]; rfl), (by simp only [List.length_append, List.length_cons, List.length_nil]; omega), rfl, (h39_.to aE), st35⟩
  ·refine wp_exit (wp_seq (aA (sg (aF (v := v13) (hA21.at 3) (sg (aF (v := I n) (hA21.at 0) (sg (pZ aE Tryz.underlying5 rfl aD (sg (aT (cs := [.int .u8 n]) (e := 5) (cY (v := .int .u8 n) rfl eA) (bN iC _ _ rfl rfl aX) st20 ?_)))))))))); intro b42 W43 hb44 st45
   refine sg (cP (ys := [UInt8.ofNat (n).toNat]) iC rfl rfl rfl st45.f1 (Elems.byte1 aD) (by unfold maxLen; omega) aD ?_); intro v48 W49 st50
   refine sg (vI Tryz.underlying234 Tryz.underlying5 Tryz.underlying9 rfl (bW (st50.get 0 rfl)) (Below.refl _ _) (sg (aC (v := .string (⟨(xs ++ [UInt8.ofNat (n).toNat]).toArray⟩ : ByteArray)) rfl (aB (wr (aL Tryz.results236 rfl ?_))))))
   exact ⟨(congrArg (fun z => Ending.returned (.string z)) (by unfold eW; rw [if_pos (bG h8), ← hvb, kB aD])), st50.bare⟩
theorem SumOfI (w : World) (t : ByteArray) (ht : t.size ≤ 1048576) :
  Calls Tryz.prog 237 #[.string t] w fun e w' => e = .returned (I (nB t)) ∧ St w w' [] := by
 have hsz : t.size = t.data.toList.length := rfl
 refine cR Tryz.func237 rfl Tryz.ntmps237 aX (wp_seq (aA (sg (aC (v := I 0) rfl (aB (wp_seq (aA (sg (aC (v := I 4294967295) rfl (aB (wp_seq (wp_seq (aA ?_)))))))))))))
 refine sg (aC (v := I 0) rfl (aB (wp_block (aY (fun (m : Nat) (f : Nat → Value) (W : World) => ∃ (i : Nat), i ≤ t.data.toList.length ∧ m = t.data.toList.length - i ∧ Ag [(0, .string t), (3, I (fT (t.data.toList.take i))), (4, I (i : Int))] f ∧ St w W ([])) (t.data.toList.length - 0) ?_ ?_))))
 ·exact ⟨0, Nat.zero_le _, rfl, (Ag.nil.put.put.put.put.to aE), (St.start w)⟩
 intro m7 f8 W9 hJ10
 obtain ⟨i, hcd12_0, rfl, hA12, st11⟩ := hJ10
 have hsr := tD (t.data.toList.take i)
 have hsz : t.size = t.data.toList.length := rfl
 refine wp_seq (wp_seq (aA (sg (aF (v := I (i : Int)) (hA12.at 4) (sg (aF (v := .string t) (hA12.at 0) (sg (xO Tryz.underlying9 rfl (sg (bS rfl rfl (aB (aK rfl (fun h17p => ?_) (fun h17p => ?_)))))))))))))
 ·refine wp_skip (wp_seq (wp_block (wp_seq (aA (rn st11 3 hA12.put.put.put.put [] [(13, I (fT (t.data.toList.take i))), (14, .string t), (15, I (i : Int))] [] aE fun f19 h19_ => ?_)))))
  have hi75860 : i < t.data.toList.length := aD
  refine sg (xP (i := i) Tryz.underlying9 (h19_.at 14) (h19_.at 15) hi75860 ?_)
  have hbr := uP (t.data.toList[i])
  refine sg (zM Tryz.underlying5 Tryz.underlying3 rfl aD (sg (lS (h19_.at 13) rfl aD aD (sg (aC (v := I (fN (fT (t.data.toList.take i)) ((t.data.toList[i]'hi75860).toNat : Int))) rfl (aB (wp_seq (aA (sg (aC (v := I 0) rfl (aB (wp_block (aY (fun (m : Nat) (f : Nat → Value) (W : World) => ∃ (j : Nat), j ≤ 8 ∧ m = 8 - j ∧ Ag [(0, .string t), (3, I (hO j (fN (fT (t.data.toList.take i)) ((t.data.toList[i]'hi75860).toNat : Int)))), (4, I (i : Int)), (5, I (j : Int))] f ∧ St w W ([])) (8 - 0) ?_ ?_)))))))))))))
  ·exact ⟨0, Nat.zero_le _, rfl, (h19_.put.put.put.put.put.to aE), st11⟩
  intro m24 f25 W26 hJ27
  obtain ⟨j, hcd29_0, rfl, hA29, st28⟩ := hJ27
  have hcr := rB (mY hsr (by omega : 0 ≤ ((t.data.toList[i]).toNat : Int) ∧ ((t.data.toList[i]).toNat : Int) < 4294967296)) j
  refine wp_seq (wp_seq (aA (sg (aF (v := I (j : Int)) (hA29.at 5) (sg (bS rfl rfl (aB (aK rfl (fun h32p => ?_) (fun h32p => ?_)))))))))
  ·refine wp_skip (wp_seq (wp_block (wp_seq (aA (rn st28 4 hA29.put.put [] [(6, .bool (decide (((hO j (fN (fT (t.data.toList.take i)) ((t.data.toList[i]'hi75860).toNat : Int))) % 2) = 1)))] [qq (hO j (fN (fT (t.data.toList.take i)) ((t.data.toList[i]'hi75860).toNat : Int))) 2, .o] aE fun f34 h34_ => (aB (wp_seq (aA (rn st28 3 h34_ [3] [(3, I ((hO j (fN (fT (t.data.toList.take i)) ((t.data.toList[i]'hi75860).toNat : Int))) / 2))] [qq (hO j (fN (fT (t.data.toList.take i)) ((t.data.toList[i]'hi75860).toNat : Int))) 2] aE fun f36 h36_ => (aB (wp_seq ?_)))))))))))
   refine aA (sg (aF (v := .bool (decide (((hO j (fN (fT (t.data.toList.take i)) ((t.data.toList[i]'hi75860).toNat : Int))) % 2) = 1))) (h36_.at 6) (aB (aK rfl (fun h39p => ?_) (fun h39p => ?_)))))
   ·refine aA (sg (aF (v := I ((hO j (fN (fT (t.data.toList.take i)) ((t.data.toList[i]'hi75860).toNat : Int))) / 2)) (h36_.at 3) (sg (lS rfl rfl aD aD (sg (aC (v := I (fN ((hO j (fN (fT (t.data.toList.take i)) ((t.data.toList[i]'hi75860).toNat : Int))) / 2) 3988292384)) rfl (aB (aA (rn st28 3 h36_.put.put.put.put [5] [(5, I ((j : Int) + 1))] [qad (j : Int) 1] aE fun f45 h45_ => (aB ?_))))))))))
    exact ⟨_, 8 - (j + 1), aD, rfl, j + 1, aD, rfl, (Ag.cons (h45_.at 0) (Ag.cons (Eq.trans (show _ = I (fN ((hO j (fN (fT (t.data.toList.take i)) ((t.data.toList[i]'hi75860).toNat : Int))) / 2) 3988292384) from (h45_.at 3)) (show I (fN ((hO j (fN (fT (t.data.toList.take i)) ((t.data.toList[i]'hi75860).toNat : Int))) / 2) 3988292384) = _ from congrArg I (by show _ = jY _; unfold jY; rw [if_pos aD]))) (Ag.cons (h45_.at 4) (Ag.cons (h45_.at 5) Ag.nil)))), st28⟩
   ·refine wp_skip (aA (rn st28 3 h36_.put [5] [(5, I ((j : Int) + 1))] [qad (j : Int) 1] aE fun f47 h47_ => (aB ?_)))
    exact ⟨_, 8 - (j + 1), aD, rfl, j + 1, aD, rfl, (Ag.cons (h47_.at 0) (Ag.cons (Eq.trans (show _ = I ((hO j (fN (fT (t.data.toList.take i)) ((t.data.toList[i]'hi75860).toNat : Int))) / 2) from (h47_.at 3)) (show I ((hO j (fN (fT (t.data.toList.take i)) ((t.data.toList[i]'hi75860).toNat : Int))) / 2) = _ from congrArg I (by show _ = jY _; unfold jY; rw [if_neg aD]))) (Ag.cons (h47_.at 4) (Ag.cons (h47_.at 5) Ag.nil)))), st28⟩
  ·refine wp_exit (aA (rn st28 3 hA29.put.put [4] [(4, I ((i : Int) + 1))] [qad (i : Int) 1] aE fun f49 h49_ => (aB ?_)))
   exact ⟨_, t.data.toList.length - (i + 1), aD, rfl, i + 1, aD, rfl, (Ag.cons (h49_.at 0) (Ag.cons (Eq.trans (show _ = I (hO j (fN (fT (t.data.toList.take i)) ((t.data.toList[i]'hi75860).toNat : Int))) from (h49_.at 3)) (show I (hO j (fN (fT (t.data.toList.take i)) ((t.data.toList[i]'hi75860).toNat : Int))) = _ from (congrArg I (by rw [zH aD]; have hj8 : j = 8 := aD; rw [hj8])))) (Ag.cons (h49_.at 4) Ag.nil))), st28⟩
 ·refine wp_exit (wp_seq (aA (sg (aF (v := I (fT (t.data.toList.take i))) (hA12.at 3) (sg (lS rfl rfl aD aD (sg (aC (v := I (fN (fT (t.data.toList.take i)) 4294967295)) rfl (aB (wr (aL Tryz.results237 rfl ?_)))))))))))
  obtain rfl : i = t.data.toList.length := by omega
  exact ⟨(fI (by unfold nB; rw [List.take_length])), st11.bare⟩
theorem ShelfOfI (w : World) (id : Int) :
  Calls Tryz.prog 223 #[I id] w fun e w' => e = .returned (I (bH id)) ∧ St w w' [] := by
 refine cR Tryz.func223 rfl Tryz.ntmps223 aX (wp_seq (aA (sg (aC (v := I 0) rfl (aB (wp_seq (aA (rc (St.start w) 3 Ag.nil.put.put [] [(3, .string (eW id))] [qc Tryz.func236 rfl (fun W s b => VarTextI W id)] aE fun f4 W5 h4_ st6 hb7 => (aB (wp_seq (wp_seq (aA ?_))))))))))))
 refine sg (aF (v := .string (eW id)) (h4_.at 3) (sg (tE rfl rfl (aB (aK rfl (fun h10p => ?_) (fun h10p => ?_))))))
 ·refine wp_seq (aA (sg (aC (v := I 0) rfl (aB (wr (aL Tryz.results223 rfl ?_))))))
  exact ⟨(fI (by unfold bH; rw [if_pos h10p])), st6.bare⟩
 ·refine wp_skip (wp_seq (aA (rc st6 2 h4_.put.put [] [(9, I (nB (eW id)))] [qc Tryz.func237 rfl (fun W s b => SumOfI W (eW id) (by have := pQ id; omega))] aE fun f14 W15 h14_ st16 hb17 => ?_)))
  have hsr := vH (eW id)
  refine sg (pW (h14_.at 9) rfl aD aD (sg (aC (v := I ((nB (eW id)) % 4)) rfl (aB (wr (aL Tryz.results223 rfl ?_))))))
  exact ⟨(fI (by unfold bH; rw [if_neg h10p])), st16.bare⟩
theorem VarTextS (w : World) (id : Int) :
  Calls Tryz.prog 233 #[I id] w fun e w' => e = .returned (.string (eW id)) ∧ St w w' [] := by
 refine cR Tryz.func233 rfl Tryz.ntmps233 aX (wp_seq (aA (sg (aC (v := .string (⟨#[]⟩ : ByteArray)) rfl (aB (wp_seq (wp_seq (aA (rc (St.start w) 3 Ag.nil.put.put [] [(6, .bool (!(inB id 0 1000000000)))] [qc Tryz.func43 rfl (fun W s b => cN W id 0 1000000000), .o] aE fun f4 W5 h4_ st6 hb7 => (aB (cT (h4_.at 6) (fun h8 => ?_) (fun h8 => ?_))))))))))))
 ·have h8p := cJ (aW h8)
  refine wp_seq (aA (sg (aC (v := .string (⟨#[]⟩ : ByteArray)) rfl (aB (wr (aL Tryz.results233 rfl ?_))))))
  exact ⟨(congrArg (fun z => Ending.returned (.string z)) (by unfold eW; rw [if_neg (by rw [(aW h8)]; decide)])), st6.bare⟩
 ·have h8p := inB_iff'.1 (bG h8)
  refine wp_skip (wp_seq (aA (sg (aT (cs := []) (e := 5) eA (bV iC _) st6 ?_)))); intro b11 W12 hb13 st14
  have st14 := st14.row_empty (α := UInt8)
  refine sg (aC (v := (.slice (some ⟨b11, 0, none⟩) 0 0)) rfl (aB (wp_seq (wp_block (aY (fun (m : Nat) (f : Nat → Value) (W : World) => ∃ (n : Int) (xs : List UInt8) (v18 : Value), 0 ≤ n ∧ n ≤ 1000000000 ∧ xs ++ gF n.toNat = gF id.toNat ∧ (xs.length : Int) + n ≤ id ∧ m = n.toNat ∧ Ag [(0, I n), (3, v18)] f ∧ St w W ([Res.row (α := UInt8) 5 v18 xs []])) (id.toNat) ?_ ?_)))))
  ·exact ⟨id, [], (.slice (some ⟨b11, 0, none⟩) 0 0), aD, aD, rfl, (by simp), rfl, (h4_.put.put.to aE), st14⟩
  intro m19 f20 W21 hJ22
  obtain ⟨n, xs, v18, hn0, hn1, hvb, hxl, rfl, hA24, st23⟩ := hJ22
  refine wp_seq (wp_seq (aA (sg (aF (v := I n) (hA24.at 0) (sg (wY rfl rfl (aB (aK rfl (fun h27p => ?_) (fun h27p => ?_)))))))))
  ·refine wp_skip (wp_block (wp_seq (aA (rn st23 4 hA24.put.put [] [(10, v18), (13, I (128 + (n % 128)))] [qq n 128, qad 128 (n % 128)] aE fun f29 h29_ => (sg (pZ aE Tryz.underlying5 (h29_.at 13) aD (sg (aT (cs := [.int .u8 (128 + (n % 128))]) (e := 5) (cY (v := .int .u8 (128 + (n % 128))) rfl eA) (bN iC _ _ rfl rfl aX) st23 ?_)))))))); intro b30 W31 hb32 st33
   refine sg (cP (ys := [UInt8.ofNat (128 + (n % 128)).toNat]) iC (h29_.at 10) rfl rfl st33.f1 (Elems.byte1 aD) (by unfold maxLen; omega) aD ?_); intro v36 W37 st38
   refine sg (aC (v := v36) rfl (aB (aA (rn st38 3 h29_.put.put.put.put [0] [(0, I (n / 128))] [qq n 128] aE fun f42 h42_ => (aB ?_)))))
   exact ⟨_, (n / 128).toNat, aD, rfl, n / 128, xs ++ [UInt8.ofNat (128 + n % 128).toNat], v36, aD, aD, (by rw [← hvb, nA (n := n.toNat) aD, List.append_assoc]; have e1 : (128 + n % 128).toNat = 128 + n.toNat % 128 := aD; have e2 : (n / 128).toNat = n.toNat / 128 := aD; rw [e1, e2]; rfl), (by simp only [List.length_append, List.length_cons, List.length_nil]; omega), rfl, (h42_.to aE), st38⟩
  ·refine wp_exit (wp_seq (aA (sg (aF (v := v18) (hA24.at 3) (sg (aF (v := I n) (hA24.at 0) (sg (pZ aE Tryz.underlying5 rfl aD (sg (aT (cs := [.int .u8 n]) (e := 5) (cY (v := .int .u8 n) rfl eA) (bN iC _ _ rfl rfl aX) st23 ?_)))))))))); intro b45 W46 hb47 st48
   refine sg (cP (ys := [UInt8.ofNat (n).toNat]) iC rfl rfl rfl st48.f1 (Elems.byte1 aD) (by unfold maxLen; omega) aD ?_); intro v51 W52 st53
   refine sg (vI Tryz.underlying234 Tryz.underlying5 Tryz.underlying9 rfl (bW (st53.get 0 rfl)) (Below.refl _ _) (sg (aC (v := .string (⟨(xs ++ [UInt8.ofNat (n).toNat]).toArray⟩ : ByteArray)) rfl (aB (wr (aL Tryz.results233 rfl ?_))))))
   exact ⟨(congrArg (fun z => Ending.returned (.string z)) (by unfold eW; rw [if_pos (bG h8), ← hvb, kB aD])), st53.bare⟩
theorem SumOfS (w : World) (t : ByteArray) (ht : t.size ≤ 1048576) :
  Calls Tryz.prog 234 #[.string t] w fun e w' => e = .returned (I (nB t)) ∧ St w w' [] := by
 have hsz : t.size = t.data.toList.length := rfl
 refine cR Tryz.func234 rfl Tryz.ntmps234 aX (wp_seq (aA (sg (aC (v := I 0) rfl (aB (wp_seq (aA (sg (aC (v := I 4294967295) rfl (aB (wp_seq (wp_seq (aA ?_)))))))))))))
 refine sg (aC (v := I 0) rfl (aB (wp_block (aY (fun (m : Nat) (f : Nat → Value) (W : World) => ∃ (i : Nat), i ≤ t.data.toList.length ∧ m = t.data.toList.length - i ∧ Ag [(0, .string t), (3, I (fT (t.data.toList.take i))), (4, I (i : Int))] f ∧ St w W ([])) (t.data.toList.length - 0) ?_ ?_))))
 ·exact ⟨0, Nat.zero_le _, rfl, (Ag.nil.put.put.put.put.to aE), (St.start w)⟩
 intro m7 f8 W9 hJ10
 obtain ⟨i, hcd12_0, rfl, hA12, st11⟩ := hJ10
 have hsr := tD (t.data.toList.take i)
 have hsz : t.size = t.data.toList.length := rfl
 refine wp_seq (wp_seq (aA (sg (aF (v := I (i : Int)) (hA12.at 4) (sg (aF (v := .string t) (hA12.at 0) (sg (xO Tryz.underlying9 rfl (sg (bS rfl rfl (aB (aK rfl (fun h17p => ?_) (fun h17p => ?_)))))))))))))
 ·refine wp_skip (wp_seq (wp_block (wp_seq (aA (rn st11 3 hA12.put.put.put.put [] [(13, I (fT (t.data.toList.take i))), (14, .string t), (15, I (i : Int))] [] aE fun f19 h19_ => ?_)))))
  have hi75860 : i < t.data.toList.length := aD
  refine sg (xP (i := i) Tryz.underlying9 (h19_.at 14) (h19_.at 15) hi75860 ?_)
  have hbr := uP (t.data.toList[i])
  refine sg (zM Tryz.underlying5 Tryz.underlying3 rfl aD (sg (lS (h19_.at 13) rfl aD aD (sg (aC (v := I (fN (fT (t.data.toList.take i)) ((t.data.toList[i]'hi75860).toNat : Int))) rfl (aB (wp_seq (aA (sg (aC (v := I 0) rfl (aB (wp_block (aY (fun (m : Nat) (f : Nat → Value) (W : World) => ∃ (j : Nat), j ≤ 8 ∧ m = 8 - j ∧ Ag [(0, .string t), (3, I (hO j (fN (fT (t.data.toList.take i)) ((t.data.toList[i]'hi75860).toNat : Int)))), (4, I (i : Int)), (5, I (j : Int))] f ∧ St w W ([])) (8 - 0) ?_ ?_)))))))))))))
  ·exact ⟨0, Nat.zero_le _, rfl, (h19_.put.put.put.put.put.to aE), st11⟩
  intro m24 f25 W26 hJ27
  obtain ⟨j, hcd29_0, rfl, hA29, st28⟩ := hJ27
  have hcr := rB (mY hsr (by omega : 0 ≤ ((t.data.toList[i]).toNat : Int) ∧ ((t.data.toList[i]).toNat : Int) < 4294967296)) j
  refine wp_seq (wp_seq (aA (sg (aF (v := I (j : Int)) (hA29.at 5) (sg (bS rfl rfl (aB (aK rfl (fun h32p => ?_) (fun h32p => ?_)))))))))
  ·refine wp_skip (wp_seq (wp_block (wp_seq (aA (rn st28 4 hA29.put.put [] [(6, .bool (decide (((hO j (fN (fT (t.data.toList.take i)) ((t.data.toList[i]'hi75860).toNat : Int))) % 2) = 1)))] [qq (hO j (fN (fT (t.data.toList.take i)) ((t.data.toList[i]'hi75860).toNat : Int))) 2, .o] aE fun f34 h34_ => (aB (wp_seq (aA (rn st28 3 h34_ [3] [(3, I ((hO j (fN (fT (t.data.toList.take i)) ((t.data.toList[i]'hi75860).toNat : Int))) / 2))] [qq (hO j (fN (fT (t.data.toList.take i)) ((t.data.toList[i]'hi75860).toNat : Int))) 2] aE fun f36 h36_ => (aB (wp_seq ?_)))))))))))
   refine aA (sg (aF (v := .bool (decide (((hO j (fN (fT (t.data.toList.take i)) ((t.data.toList[i]'hi75860).toNat : Int))) % 2) = 1))) (h36_.at 6) (aB (aK rfl (fun h39p => ?_) (fun h39p => ?_)))))
   ·refine aA (sg (aF (v := I ((hO j (fN (fT (t.data.toList.take i)) ((t.data.toList[i]'hi75860).toNat : Int))) / 2)) (h36_.at 3) (sg (lS rfl rfl aD aD (sg (aC (v := I (fN ((hO j (fN (fT (t.data.toList.take i)) ((t.data.toList[i]'hi75860).toNat : Int))) / 2) 3988292384)) rfl (aB (aA (rn st28 3 h36_.put.put.put.put [5] [(5, I ((j : Int) + 1))] [qad (j : Int) 1] aE fun f45 h45_ => (aB ?_))))))))))
    exact ⟨_, 8 - (j + 1), aD, rfl, j + 1, aD, rfl, (Ag.cons (h45_.at 0) (Ag.cons (Eq.trans (show _ = I (fN ((hO j (fN (fT (t.data.toList.take i)) ((t.data.toList[i]'hi75860).toNat : Int))) / 2) 3988292384) from (h45_.at 3)) (show I (fN ((hO j (fN (fT (t.data.toList.take i)) ((t.data.toList[i]'hi75860).toNat : Int))) / 2) 3988292384) = _ from congrArg I (by show _ = jY _; unfold jY; rw [if_pos aD]))) (Ag.cons (h45_.at 4) (Ag.cons (h45_.at 5) Ag.nil)))), st28⟩
   ·refine wp_skip (aA (rn st28 3 h36_.put [5] [(5, I ((j : Int) + 1))] [qad (j : Int) 1] aE fun f47 h47_ => (aB ?_)))
    exact ⟨_, 8 - (j + 1), aD, rfl, j + 1, aD, rfl, (Ag.cons (h47_.at 0) (Ag.cons (Eq.trans (show _ = I ((hO j (fN (fT (t.data.toList.take i)) ((t.data.toList[i]'hi75860).toNat : Int))) / 2) from (h47_.at 3)) (show I ((hO j (fN (fT (t.data.toList.take i)) ((t.data.toList[i]'hi75860).toNat : Int))) / 2) = _ from congrArg I (by show _ = jY _; unfold jY; rw [if_neg aD]))) (Ag.cons (h47_.at 4) (Ag.cons (h47_.at 5) Ag.nil)))), st28⟩
  ·refine wp_exit (aA (rn st28 3 hA29.put.put [4] [(4, I ((i : Int) + 1))] [qad (i : Int) 1] aE fun f49 h49_ => (aB ?_)))
   exact ⟨_, t.data.toList.length - (i + 1), aD, rfl, i + 1, aD, rfl, (Ag.cons (h49_.at 0) (Ag.cons (Eq.trans (show _ = I (hO j (fN (fT (t.data.toList.take i)) ((t.data.toList[i]'hi75860).toNat : Int))) from (h49_.at 3)) (show I (hO j (fN (fT (t.data.toList.take i)) ((t.data.toList[i]'hi75860).toNat : Int))) = _ from (congrArg I (by rw [zH aD]; have hj8 : j = 8 := aD; rw [hj8])))) (Ag.cons (h49_.at 4) Ag.nil))), st28⟩
 ·refine wp_exit (wp_seq (aA (sg (aF (v := I (fT (t.data.toList.take i))) (hA12.at 3) (sg (lS rfl rfl aD aD (sg (aC (v := I (fN (fT (t.data.toList.take i)) 4294967295)) rfl (aB (wr (aL Tryz.results234 rfl ?_)))))))))))
  obtain rfl : i = t.data.toList.length := by omega
  exact ⟨(fI (by unfold nB; rw [List.take_length])), st11.bare⟩
theorem ShelfOfS (w : World) (id : Int) :
  Calls Tryz.prog 219 #[I id] w fun e w' => e = .returned (I (bH id)) ∧ St w w' [] := by
 refine cR Tryz.func219 rfl Tryz.ntmps219 aX (wp_seq (aA (sg (aC (v := I 0) rfl (aB (wp_seq (aA (rc (St.start w) 3 Ag.nil.put.put [] [(3, .string (eW id))] [qc Tryz.func233 rfl (fun W s b => VarTextS W id)] aE fun f4 W5 h4_ st6 hb7 => (aB (wp_seq (wp_seq (aA ?_))))))))))))
 refine sg (aF (v := .string (eW id)) (h4_.at 3) (sg (tE rfl rfl (aB (aK rfl (fun h10p => ?_) (fun h10p => ?_))))))
 ·refine wp_seq (aA (sg (aC (v := I 0) rfl (aB (wr (aL Tryz.results219 rfl ?_))))))
  exact ⟨(fI (by unfold bH; rw [if_pos h10p])), st6.bare⟩
 ·refine wp_skip (wp_seq (aA (rc st6 2 h4_.put.put [] [(9, I (nB (eW id)))] [qc Tryz.func234 rfl (fun W s b => SumOfS W (eW id) (by have := pQ id; omega))] aE fun f14 W15 h14_ st16 hb17 => ?_)))
  have hsr := vH (eW id)
  refine sg (pW (h14_.at 9) rfl aD aD (sg (aC (v := I ((nB (eW id)) % 4)) rfl (aB (wr (aL Tryz.results219 rfl ?_))))))
  exact ⟨(fI (by unfold bH; rw [if_neg h10p])), st16.bare⟩
def dY (y : Yard) (id : Int) : Option Nat := if y.runs.length ≤ 8 then fE (fun r => decide (r.id = id)) y.runs else none
def iD (y : Yard) (id : Int) : Int := ixI (dY y id)
theorem qG {y : Yard} {id : Int} {k : Nat} (h : dY y id = some k) : k < y.runs.length := by
 unfold dY at h
 split at h
 ·exact (oE h).1
 ·cases h
def fresh (y : Yard) (e : Entry) : Bool :=
 match dY y e.run with
 | none => false
 | some k => match y.runs[k]? with
  | none => false
  | some r => inB e.task 0 ((r.tasks.length : Int) - 1) && (match r.tasks[e.task.toNat]? with | some t => decide (t.state = 2) | none => false)
theorem oG {α : Type} {xss : List (List α)} {k : Nat} (h : k < xss.length) : (xss.take (k + 1)).flatten = (xss.take k).flatten ++ xss[k] := by
 rw [List.take_succ_eq_append_getElem h, List.flatten_append, List.flatten_cons, List.flatten_nil, List.append_nil]
theorem yF {α : Type} : ∀ (xss : List (List α)), xss.flatten.length = (xss.map (fun y => y.length)).sum
 | [] => rfl
 | x :: xss => by simp [yF xss]
theorem qW (y : Yard) (k : Nat) : ((y.shelf.take k).flatten).length ≤ y.wt := by
 have h1 := yF (y.shelf.take k)
 have h2 := iO (fun y : List Entry => y.length) y.shelf k
 unfold Yard.wt wtL
 omega
theorem zZ {α : Type} {xs : List α} {p : α → Bool} {k : Nat} (h : k < xs.length) (hp : p xs[k] = true) : (xs.take (k + 1)).filter p = (xs.take k).filter p ++ [xs[k]] := by
 rw [List.take_succ_eq_append_getElem h, List.filter_append]; simp [hp]
theorem wE {α : Type} {xs : List α} {p : α → Bool} {k : Nat} (h : k < xs.length) (hp : p xs[k] = false) : (xs.take (k + 1)).filter p = (xs.take k).filter p := by
 rw [List.take_succ_eq_append_getElem h, List.filter_append]; simp [hp]

theorem RunAtC (w : World) {r : Run} {cs : List Value} {fp : List Nat} (hc : Shape.C w cs r fp) {b : Nat} {t : TypeId} {id : Int} (hB : (Res.bx b [I id] t).holds w) :
  Calls Tryz.prog 164 #[.agg cs.toArray, .pointer (some ⟨b, 0, none⟩)] w fun e w' => e = .returned (.bool (decide (r.id = id))) ∧ St w w' [] := by
 refine bR Tryz.func164 rfl Tryz.ntmps164 aX (wp_seq (aA (sg (aJ (cs := cs) rfl (St.start w) ?_)))); intro b1 W2 hb3 st4
 refine sg (aC (v := .bool false) rfl (aB (wp_seq (aA ?_))))
 have hk9 := hc
 obtain ⟨v9_0, v9_1, g9_0, g9_1, rfl, hok9, h9_0, h9_1, rfl⟩ := hk9
 refine rn st4 5 Ag.nil.put.put.put.put [3] [(3, .bool (decide (r.id = id)))] [qb 0 rfl 0, qr (cF hB) 0, .o] aE fun f10 h10_ => (aB (wr (aL Tryz.results164 (h10_.at 3) ?_)))
 exact ⟨rfl, st4.bare⟩
theorem IndexRun (w : World) {v : Value} {xs : List Run} {fp : List Nat} (h : Sl w v xs fp) (F : FuncId) (capt : List Value) {fn : Func} (hfn : Tryz.prog.funcs[F]? = some fn) (hok : ((fn.name == "runtime.NumGoroutine") || fn.body.isNone) = false) (p : Run → Bool)
  (hF : ∀ (w1 : World) (i : Nat) (hi : i < xs.length) (cs : List Value) (f1 : List Nat), Below w.heap.size w w1 → Shape.C w1 cs xs[i] f1 → Calls Tryz.prog F (Value.agg cs.toArray :: capt).toArray w1 fun e w2 => e = .returned (.bool (p xs[i])) ∧ St w1 w2 []) :
  Calls Tryz.prog 163 #[v, .func (.func F) #[] capt.toArray] w fun e w' => e = .returned (I (ixI (fE p xs))) ∧ St w w' [] := by
 have hcap := h.len_le
 refine bR Tryz.func163 rfl Tryz.ntmps163 aX (wp_seq (aA (sg (aC (v := I 0) rfl (aB (wp_seq (wp_seq (aA (rn (St.start w) 3 Ag.nil.put.put.put [] [(7, I (xs.length : Int)), (8, I 0)] [ql h] aE fun f4 h4_ => (aB (wp_block (aY (fun (m : Nat) (f : Nat → Value) (W : World) => ∃ (k : Nat), k ≤ xs.length ∧ (xs.take k).any p = false ∧ m = xs.length - k ∧ Ag [(0, v), (1, .func (.func F) #[] capt.toArray), (7, I (xs.length : Int)), (8, I (k : Int))] f ∧ St w W ([])) (xs.length - 0) ?_ ?_))))))))))))
 ·exact ⟨0, Nat.zero_le _, rfl, rfl, (h4_.to aE), (St.start w)⟩
 intro m5 f6 W7 hJ8
 obtain ⟨k, hk, hany, rfl, hA10, st9⟩ := hJ8
 refine wp_seq (aA (sg (bS (hA10.at 8) (hA10.at 7) (aB (wp_seq (aK rfl (fun h13p => ?_) (fun h13p => ?_)))))))
 ·refine wp_skip (wp_seq (wp_block (wp_seq (aA (sg (aF (v := I (k : Int)) (hA10.at 8) (sg (aC (v := I (k : Int)) rfl (aB (wp_seq (aA ?_)))))))))))
  have hi51fab : k < xs.length := aD
  have hq_ := idx h (i := k) hi51fab
  obtain ⟨b17, o17, cs17, f17, hp17, hr17, hc17, hm17⟩ := hq_
  refine rn st9 5 hA10.put.put.put [] [(11, .func (.func F) #[] capt.toArray), (15, .agg cs17.toArray)] [qx hp17, qrw hr17 (Shape.len hc17)] aE fun f18 h18_ => (sg (nW (first := []) hfn hok (h18_.at 11) (sO (v := .agg cs17.toArray) (h18_.at 15) sQ) ((hF W7 k aD _ _ st9.below (bA hc17 st9.below)).mono ?_))); rintro _ W19 ⟨rfl, hk20⟩; refine ⟨_, rfl, ?_⟩
  have st21 := St.call st9 hk20
  refine aB (cT rfl (fun h22 => ?_) (fun h22 => ?_))
  ·refine wp_seq (aA (sg (aF (v := I (k : Int)) (h18_.at 5) (sg (aC (v := I (k : Int)) rfl (aB (wr (aL Tryz.results163 rfl ?_))))))))
   exact ⟨(fI (by rw [jI aD hany h22]; try rfl)), st21.bare⟩
  ·refine wp_skip (aA (sg (bY (h18_.at 8) rfl dX (sg (aF (v := I ((k : Int) + 1)) rfl (aB ?_))))))
   exact ⟨_, xs.length - (k + 1), aD, rfl, k + 1, aD, (uU aD hany h22), rfl, (h18_.put.put.put.to aE), st21⟩
 ·refine wp_exit (wp_seq (aA (sg (aC (v := I (-1)) rfl (aB (wr (aL Tryz.results163 rfl ?_)))))))
  obtain rfl : k = xs.length := by omega
  rw [List.take_length] at hany
  exact ⟨(fI (by rw [jJ hany]; try rfl)), st9.bare⟩
theorem uX (w : World) {y : Yard} {cs : List Value} {fp : List Nat} (hc : Shape.C w cs y fp) (id : Int) (hw : y.wt ≤ 1048576) :
  Calls Tryz.prog 98 #[.agg cs.toArray, I id] w fun e w' => e = .returned (I (iD y id)) ∧ St w w' [] := by
 have hyr : y.runs.length ≤ y.wt := by unfold Yard.wt wtL; omega
 refine bR Tryz.func98 rfl Tryz.ntmps98 aX (wp_seq (aA (sg (aJ (cs := cs) rfl (St.start w) ?_)))); intro b1 W2 hb3 st4
 refine sg (sE (v := I id) rfl rfl st4 ?_); intro b6 W7 hb8 st9
 refine sg (aC (v := I 0) rfl (aB (wp_seq (wp_seq (aA ?_)))))
 have hk14 := hc
 obtain ⟨v14_0, v14_1, g14_0, g14_1, rfl, hok14, h14_0, h14_1, rfl⟩ := hk14
 refine rn st9 4 Ag.nil.put.put.put.put.put [] [(8, .bool (decide (8 < (y.runs.length : Int))))] [qb 1 rfl 3, ql h14_1, .o] aE fun f15 h15_ => (aB (aK (h15_.at 8) (fun h16p => ?_) (fun h16p => ?_)))
 ·refine wp_seq (aA (sg (aC (v := I (-1)) rfl (aB (wr (aL Tryz.results98 rfl ?_))))))
  exact ⟨(fI (by unfold iD dY; rw [if_neg aD]; try rfl)), st9.bare⟩
 ·refine wp_skip (wp_seq (aA (sg (aH gH (h15_.at 2) (sg (aU lE rfl rfl (st9.get 1 rfl) (i := 3) rfl rfl (sg (kC sQ (sO (v := .pointer (some ⟨b6, 0, none⟩)) (h15_.at 3) sQ) (sg (bJ Tryz.func163 rfl rfl rfl ((IndexRun W7 (h14_1.below st9.below) 164 [.pointer (some ⟨b6, 0, none⟩)] Tryz.func164 rfl (fun r => decide (r.id = id)) (fun w1 i hi cs f1 hb hc => RunAtC w1 hc (Res.below (st9.get 0 rfl) hb))).mono ?_))))))))))); rintro _ W21 ⟨rfl, hk22⟩; refine ⟨_, rfl, ?_⟩
  have st23 := St.call st9 hk22
  refine sg (aC (v := I (ixI (fE (fun r => decide (r.id = id)) y.runs))) rfl (aB (wr (aL Tryz.results98 rfl ?_))))
  exact ⟨(fI (by unfold iD dY; rw [if_pos aD])), st23.bare⟩
theorem xH (w : World) {y : Yard} {cs : List Value} {fp : List Nat} (hc : Shape.C w cs y fp) (id : Int) (hw : y.wt ≤ 1048576) :
  Calls Tryz.prog 90 #[.agg cs.toArray, I id] w fun e w' => e = .returned (I (iD y id)) ∧ St w w' [] := by
 have hyr : y.runs.length ≤ y.wt := by unfold Yard.wt wtL; omega
 refine bR Tryz.func90 rfl Tryz.ntmps90 aX (wp_seq (aA (sg (aJ (cs := cs) rfl (St.start w) ?_)))); intro b1 W2 hb3 st4
 refine sg (aC (v := I 0) rfl (aB (wp_seq (wp_seq (aA (sg (aC (v := I 0) rfl (aB (wp_block (aY (fun (m : Nat) (f : Nat → Value) (W : World) => ∃ (k : Nat), k ≤ y.runs.length ∧ (y.runs.take k).any (fun r : Run => decide (r.id = id)) = false ∧ m = y.runs.length - k ∧ Ag [(1, I id), (2, .pointer (some ⟨b1, 0, none⟩)), (5, I (k : Int))] f ∧ St w W ([Res.bx b1 cs 34])) (y.runs.length - 0) ?_ ?_))))))))))
 ·exact ⟨0, Nat.zero_le _, rfl, rfl, (Ag.nil.put.put.put.put.put.to aE), st4⟩
 intro m10 f11 W12 hJ13
 obtain ⟨k, hk, hany, rfl, hA15, st14⟩ := hJ13
 refine wp_seq (wp_seq (aA ?_))
 have hk17 := hc
 obtain ⟨v17_0, v17_1, g17_0, g17_1, rfl, hok17, h17_0, h17_1, rfl⟩ := hk17
 rcases nem ((k : Int) < (y.runs.length : Int)) with h18p | h18p
 ·have h18 := decide_eq_false h18p
  refine rn st14 11 hA15 [] [(16, .bool false)] [qb 0 rfl 3, ql h17_1, qk h18] aE fun f19 h19_ => (aB (gK (h19_.at 16) rfl (wp_exit (wp_seq (aA (sg (aC (v := I (-1)) rfl (aB (wr (aL Tryz.results90 rfl ?_))))))))))
  obtain rfl : k = y.runs.length := by omega
  rw [List.take_length] at hany
  exact ⟨(fI (by unfold iD dY; rw [jJ hany]; split <;> rfl)), st14.bare⟩
 ·have h18 := decide_eq_true h18p
  refine rn st14 11 hA15 [] [(16, .bool (decide ((y.runs.length : Int) ≤ 8)))] [qb 0 rfl 3, ql h17_1, qk h18, qb 0 rfl 3, ql h17_1, .o] aE fun f22 h22_ => (aB (aK (h22_.at 16) (fun h23p => ?_) (fun h23p => ?_)))
  ·refine wp_skip (wp_seq (wp_block (wp_seq (aA ?_))))
   have hi24e2d : k < y.runs.length := aD
   have hq_ := idx h17_1 (i := k) hi24e2d
   obtain ⟨b25, o25, cs25, f25, hp25, hr25, hc25, hm25⟩ := hq_
   have hk26 := hc25
   obtain ⟨v26_0, v26_1, g26_0, g26_1, rfl, hok26, h26_0, h26_1, rfl⟩ := hk26
   refine rn st14 8 h22_ [] [(26, .bool (decide ((y.runs[k]'hi24e2d).id = id)))] [qb 0 rfl 3, qx hp25, qr hr25 0, .o] aE fun f27 h27_ => (aB (aK (h27_.at 26) (fun h28p => ?_) (fun h28p => ?_)))
   ·have h28 := decide_eq_true h28p
    refine wp_seq (aA (sg (aF (v := I (k : Int)) (h27_.at 5) (sg (aC (v := I (k : Int)) rfl (aB (wr (aL Tryz.results90 rfl ?_))))))))
    exact ⟨(fI (by unfold iD dY; rw [if_pos aD, jI aD hany h28]; try rfl)), st14.bare⟩
   ·have h28 := decide_eq_false h28p
    refine wp_skip (aA (rn st14 3 h27_ [5] [(5, I ((k : Int) + 1))] [qad (k : Int) 1] aE fun f32 h32_ => (aB ?_)))
    exact ⟨_, y.runs.length - (k + 1), aD, rfl, k + 1, aD, (uU aD hany h28), rfl, (h32_.to aE), st14⟩
  ·refine wp_exit (wp_seq (aA (sg (aC (v := I (-1)) rfl (aB (wr (aL Tryz.results90 rfl ?_)))))))
   exact ⟨(fI (by unfold iD dY; rw [if_neg aD]; try rfl)), st14.bare⟩
theorem tN {y : Yard} {id : Int} (h : dY y id = none) : iD y id = -1 := by unfold iD; rw [h]; rfl
theorem tM {y : Yard} {id : Int} {k : Nat} (h : dY y id = some k) : iD y id = k := by unfold iD; rw [h]; rfl

theorem yR (w : World) {y : Yard} {cs : List Value} {fp : List Nat} (hc : Shape.C w cs y fp) (id : Int) (hw : y.wt ≤ 1048576) (h : dY y id = none) :
  Calls Tryz.prog 98 #[.agg cs.toArray, I id] w fun e w' => e = .returned (I (-1)) ∧ St w w' [] := by
 have := uX w hc id hw
 rwa [tN h] at this
theorem rI (w : World) {y : Yard} {cs : List Value} {fp : List Nat} (hc : Shape.C w cs y fp) (id : Int) (hw : y.wt ≤ 1048576) {i : Nat} (h : dY y id = some i) :
  Calls Tryz.prog 98 #[.agg cs.toArray, I id] w fun e w' => e = .returned (I (i : Int)) ∧ St w w' [] := by
 have := uX w hc id hw
 rwa [tM h] at this
theorem FreshI_n (w : World) {y : Yard} {cs : List Value} {fp : List Nat} (hc : Shape.C w cs y fp) {e : Entry} {ds : List Value} {gp : List Nat} (hd : Shape.C w ds e gp) (hw : y.wt ≤ 1048576) (hix : dY y e.run = none) :
  Calls Tryz.prog 165 #[.agg cs.toArray, .agg ds.toArray] w fun ee w' => ee = .returned (.bool (fresh y e)) ∧ St w w' [] := by
 refine bR Tryz.func165 rfl Tryz.ntmps165 aX (wp_seq (aA (sg (aJ (cs := cs) rfl (St.start w) ?_)))); intro b1 W2 hb3 st4
 refine sg (aJ (cs := ds) rfl st4 ?_); intro b6 W7 hb8 st9
 refine sg (aC (v := .bool false) rfl (aB (wp_seq (aA ?_))))
 have hk14 := hd
 obtain ⟨he14, rfl, hok14⟩ := hk14
 have he14 : _ = [I e.prio, I e.seq, I e.run, I e.task] := he14
 subst he14
 refine rc st9 5 Ag.nil.put.put.put.put.put [] [(5, I (-1))] [qw 1 rfl (Shape.len hc), qb 0 rfl 2, qc Tryz.func98 rfl (fun W s b => yR W (bA hc s.below) e.run hw hix)] aE fun f15 W16 h15_ st17 hb18 => (aB (wp_seq ?_))
 rcases nem (0 ≤ (-1)) with h20p | h20p
 ·have h20 := decide_eq_false h20p
  refine rd st17 h15_ [4] [(4, .bool false)] [qk h20] aE aE fun f22 W23 h22_ st24 hb25 => (wr (aL Tryz.results165 (h22_.at 4) ?_))
  exact ⟨(fB (by unfold fresh; rw [hix])), st24.bare⟩
 ·have h20 := decide_eq_true h20p
  omega
theorem FreshI_s (w : World) {y : Yard} {cs : List Value} {fp : List Nat} (hc : Shape.C w cs y fp) {e : Entry} {ds : List Value} {gp : List Nat} (hd : Shape.C w ds e gp) (hw : y.wt ≤ 1048576) {i : Nat} (hix : dY y e.run = some i) :
  Calls Tryz.prog 165 #[.agg cs.toArray, .agg ds.toArray] w fun ee w' => ee = .returned (.bool (fresh y e)) ∧ St w w' [] := by
 have hil := qG hix
 have hyk := jQ hil
 have hrw : y.runs[i].tasks.length ≤ y.runs[i].wt := by unfold Run.wt; omega
 refine bR Tryz.func165 rfl Tryz.ntmps165 aX (wp_seq (aA (sg (aJ (cs := cs) rfl (St.start w) ?_)))); intro b1 W2 hb3 st4
 refine sg (aJ (cs := ds) rfl st4 ?_); intro b6 W7 hb8 st9
 refine sg (aC (v := .bool false) rfl (aB (wp_seq (aA ?_))))
 have hk14 := hd
 obtain ⟨he14, rfl, hok14⟩ := hk14
 have he14 : _ = [I e.prio, I e.seq, I e.run, I e.task] := he14
 subst he14
 refine rc st9 5 Ag.nil.put.put.put.put.put [] [(5, I (i : Int))] [qw 1 rfl (Shape.len hc), qb 0 rfl 2, qc Tryz.func98 rfl (fun W s b => rI W (bA hc s.below) e.run hw hix)] aE fun f15 W16 h15_ st17 hb18 => (aB (wp_seq ?_))
 rcases nem (0 ≤ (i : Int)) with h20p | h20p
 ·have h20 := decide_eq_false h20p
  omega
 ·have h20 := decide_eq_true h20p
  have hia2a90 : i < y.runs.length := aD
  rcases bd (inB e.task 0 (((y.runs[i]'hia2a90).tasks.length : Int) - 1)) with h25 | h25
  ·have h25p := cJ h25
   have hk27 := hc
   obtain ⟨v27_0, v27_1, g27_0, g27_1, rfl, hok27, h27_0, h27_1, rfl⟩ := hk27
   have hia2a90 : i < y.runs.length := aD
   have hq_ := idx h27_1 (i := i) hia2a90
   obtain ⟨b28, o28, cs28, f28, hp28, hr28, hc28, hm28⟩ := hq_
   have hk29 := hc28
   obtain ⟨v29_0, v29_1, g29_0, g29_1, rfl, hok29, h29_0, h29_1, rfl⟩ := hk29
   refine rd st17 h15_ [4] [(4, .bool false)] [qk h20, qb 0 rfl 3, qb 1 rfl 3, qx hp28, qr hr28 7, ql h29_1, qsb ((y.runs[i]'hia2a90).tasks.length : Int) 1, qcb (args := [I e.task, I 0, I (((y.runs[i]'hia2a90).tasks.length : Int) - 1)]) Tryz.func47 rfl h25 (fun W s b => bZ W e.task 0 (((y.runs[i]'hia2a90).tasks.length : Int) - 1))] aE aE fun f30 W31 h30_ st32 hb33 => (wr (aL Tryz.results165 (h30_.at 4) ?_))
   exact ⟨(fB (by unfold fresh; rw [hix]; simp only [List.getElem?_eq_getElem hil, h25, Bool.false_and])), st32.bare⟩
  ·have h25p := inB_iff'.1 h25
   have hk35 := hc
   obtain ⟨v35_0, v35_1, g35_0, g35_1, rfl, hok35, h35_0, h35_1, rfl⟩ := hk35
   have hia2a90 : i < y.runs.length := aD
   have hq_ := idx h35_1 (i := i) hia2a90
   obtain ⟨b36, o36, cs36, f36, hp36, hr36, hc36, hm36⟩ := hq_
   have hk37 := hc36
   obtain ⟨v37_0, v37_1, g37_0, g37_1, rfl, hok37, h37_0, h37_1, rfl⟩ := hk37
   have hif34c4 : (e.task).toNat < (y.runs[i]'hia2a90).tasks.length := aD
   have hq_ := idx h37_1 (i := (e.task).toNat) hif34c4
   obtain ⟨b38, o38, cs38, f38, hp38, hr38, hc38, hm38⟩ := hq_
   have hk39 := hc38
   obtain ⟨he39, rfl, hok39⟩ := hk39
   have he39 : _ = [I ((y.runs[i]'hia2a90).tasks[(e.task).toNat]'hif34c4).state, I ((y.runs[i]'hia2a90).tasks[(e.task).toNat]'hif34c4).need, I ((y.runs[i]'hia2a90).tasks[(e.task).toNat]'hif34c4).try_, I ((y.runs[i]'hia2a90).tasks[(e.task).toNat]'hif34c4).until_] := he39
   subst he39
   refine rd st17 h15_ [4] [(4, .bool (decide (((y.runs[i]'hia2a90).tasks[(e.task).toNat]'hif34c4).state = 2)))] [qk h20, qb 0 rfl 3, qb 1 rfl 3, qx hp36, qr hr36 7, ql h37_1, qsb ((y.runs[i]'hia2a90).tasks.length : Int) 1, qcb (args := [I e.task, I 0, I (((y.runs[i]'hia2a90).tasks.length : Int) - 1)]) Tryz.func47 rfl h25 (fun W s b => bZ W e.task 0 (((y.runs[i]'hia2a90).tasks.length : Int) - 1)), qb 1 rfl 3, qx hp36, qr hr36 7, qb 0 rfl 3, qxe hp38 (e := e.task) aD, qr hr38 0, .o] aE aE fun f40 W41 h40_ st42 hb43 => (wr (aL Tryz.results165 (h40_.at 4) ?_))
   exact ⟨(fB (by unfold fresh; rw [hix]; simp only [List.getElem?_eq_getElem hil, h25, Bool.true_and]; rw [List.getElem?_eq_getElem aD])), st42.bare⟩
theorem aC5 (w : World) {y : Yard} {cs : List Value} {fp : List Nat} (hc : Shape.C w cs y fp) {e : Entry} {ds : List Value} {gp : List Nat} (hd : Shape.C w ds e gp) (hw : y.wt ≤ 1048576)  :
  Calls Tryz.prog 165 #[.agg cs.toArray, .agg ds.toArray] w fun ee w' => ee = .returned (.bool (fresh y e)) ∧ St w w' [] := by
 cases hix : dY y e.run with
 | none => exact FreshI_n w hc hd hw hix
 | some i => exact FreshI_s w hc hd hw hix
theorem yQ (w : World) {y : Yard} {cs : List Value} {fp : List Nat} (hc : Shape.C w cs y fp) (id : Int) (hw : y.wt ≤ 1048576) (h : dY y id = none) :
  Calls Tryz.prog 90 #[.agg cs.toArray, I id] w fun e w' => e = .returned (I (-1)) ∧ St w w' [] := by
 have := xH w hc id hw
 rwa [tN h] at this
theorem rH (w : World) {y : Yard} {cs : List Value} {fp : List Nat} (hc : Shape.C w cs y fp) (id : Int) (hw : y.wt ≤ 1048576) {i : Nat} (h : dY y id = some i) :
  Calls Tryz.prog 90 #[.agg cs.toArray, I id] w fun e w' => e = .returned (I (i : Int)) ∧ St w w' [] := by
 have := xH w hc id hw
 rwa [tM h] at this
theorem FreshS_n (w : World) {y : Yard} {cs : List Value} {fp : List Nat} (hc : Shape.C w cs y fp) {e : Entry} {ds : List Value} {gp : List Nat} (hd : Shape.C w ds e gp) (hw : y.wt ≤ 1048576) (hix : dY y e.run = none) :
  Calls Tryz.prog 158 #[.agg cs.toArray, .agg ds.toArray] w fun ee w' => ee = .returned (.bool (fresh y e)) ∧ St w w' [] := by
 refine bR Tryz.func158 rfl Tryz.ntmps158 aX (wp_seq (aA (sg (aJ (cs := cs) rfl (St.start w) ?_)))); intro b1 W2 hb3 st4
 refine sg (aJ (cs := ds) rfl st4 ?_); intro b6 W7 hb8 st9
 refine sg (aC (v := .bool false) rfl (aB (wp_seq (aA ?_))))
 have hk14 := hd
 obtain ⟨he14, rfl, hok14⟩ := hk14
 have he14 : _ = [I e.prio, I e.seq, I e.run, I e.task] := he14
 subst he14
 refine rc st9 5 Ag.nil.put.put.put.put.put [] [(5, I (-1))] [qw 1 rfl (Shape.len hc), qb 0 rfl 2, qc Tryz.func90 rfl (fun W s b => yQ W (bA hc s.below) e.run hw hix)] aE fun f15 W16 h15_ st17 hb18 => (aB (wp_seq ?_))
 rcases nem (0 ≤ (-1)) with h20p | h20p
 ·have h20 := decide_eq_false h20p
  refine rd st17 h15_ [4] [(4, .bool false)] [qk h20] aE aE fun f22 W23 h22_ st24 hb25 => (wr (aL Tryz.results158 (h22_.at 4) ?_))
  exact ⟨(fB (by unfold fresh; rw [hix])), st24.bare⟩
 ·have h20 := decide_eq_true h20p
  omega
theorem FreshS_s (w : World) {y : Yard} {cs : List Value} {fp : List Nat} (hc : Shape.C w cs y fp) {e : Entry} {ds : List Value} {gp : List Nat} (hd : Shape.C w ds e gp) (hw : y.wt ≤ 1048576) {i : Nat} (hix : dY y e.run = some i) :
  Calls Tryz.prog 158 #[.agg cs.toArray, .agg ds.toArray] w fun ee w' => ee = .returned (.bool (fresh y e)) ∧ St w w' [] := by
 have hil := qG hix
 have hyk := jQ hil
 have hrw : y.runs[i].tasks.length ≤ y.runs[i].wt := by unfold Run.wt; omega
 refine bR Tryz.func158 rfl Tryz.ntmps158 aX (wp_seq (aA (sg (aJ (cs := cs) rfl (St.start w) ?_)))); intro b1 W2 hb3 st4
 refine sg (aJ (cs := ds) rfl st4 ?_); intro b6 W7 hb8 st9
 refine sg (aC (v := .bool false) rfl (aB (wp_seq (aA ?_))))
 have hk14 := hd
 obtain ⟨he14, rfl, hok14⟩ := hk14
 have he14 : _ = [I e.prio, I e.seq, I e.run, I e.task] := he14
 subst he14
 refine rc st9 5 Ag.nil.put.put.put.put.put [] [(5, I (i : Int))] [qw 1 rfl (Shape.len hc), qb 0 rfl 2, qc Tryz.func90 rfl (fun W s b => rH W (bA hc s.below) e.run hw hix)] aE fun f15 W16 h15_ st17 hb18 => (aB (wp_seq ?_))
 rcases nem (0 ≤ (i : Int)) with h20p | h20p
 ·have h20 := decide_eq_false h20p
  omega
 ·have h20 := decide_eq_true h20p
  have hia2a90 : i < y.runs.length := aD
  rcases bd (inB e.task 0 (((y.runs[i]'hia2a90).tasks.length : Int) - 1)) with h25 | h25
  ·have h25p := cJ h25
   have hk27 := hc
   obtain ⟨v27_0, v27_1, g27_0, g27_1, rfl, hok27, h27_0, h27_1, rfl⟩ := hk27
   have hia2a90 : i < y.runs.length := aD
   have hq_ := idx h27_1 (i := i) hia2a90
   obtain ⟨b28, o28, cs28, f28, hp28, hr28, hc28, hm28⟩ := hq_
   have hk29 := hc28
   obtain ⟨v29_0, v29_1, g29_0, g29_1, rfl, hok29, h29_0, h29_1, rfl⟩ := hk29
   refine rd st17 h15_ [4] [(4, .bool false)] [qk h20, qb 0 rfl 3, qb 1 rfl 3, qx hp28, qr hr28 7, ql h29_1, qsb ((y.runs[i]'hia2a90).tasks.length : Int) 1, qcb (args := [I e.task, I 0, I (((y.runs[i]'hia2a90).tasks.length : Int) - 1)]) Tryz.func43 rfl h25 (fun W s b => cN W e.task 0 (((y.runs[i]'hia2a90).tasks.length : Int) - 1))] aE aE fun f30 W31 h30_ st32 hb33 => (wr (aL Tryz.results158 (h30_.at 4) ?_))
   exact ⟨(fB (by unfold fresh; rw [hix]; simp only [List.getElem?_eq_getElem hil, h25, Bool.false_and])), st32.bare⟩
  ·have h25p := inB_iff'.1 h25
   have hk35 := hc
   obtain ⟨v35_0, v35_1, g35_0, g35_1, rfl, hok35, h35_0, h35_1, rfl⟩ := hk35
   have hia2a90 : i < y.runs.length := aD
   have hq_ := idx h35_1 (i := i) hia2a90
   obtain ⟨b36, o36, cs36, f36, hp36, hr36, hc36, hm36⟩ := hq_
   have hk37 := hc36
   obtain ⟨v37_0, v37_1, g37_0, g37_1, rfl, hok37, h37_0, h37_1, rfl⟩ := hk37
   have hif34c4 : (e.task).toNat < (y.runs[i]'hia2a90).tasks.length := aD
   have hq_ := idx h37_1 (i := (e.task).toNat) hif34c4
   obtain ⟨b38, o38, cs38, f38, hp38, hr38, hc38, hm38⟩ := hq_
   have hk39 := hc38
   obtain ⟨he39, rfl, hok39⟩ := hk39
   have he39 : _ = [I ((y.runs[i]'hia2a90).tasks[(e.task).toNat]'hif34c4).state, I ((y.runs[i]'hia2a90).tasks[(e.task).toNat]'hif34c4).need, I ((y.runs[i]'hia2a90).tasks[(e.task).toNat]'hif34c4).try_, I ((y.runs[i]'hia2a90).tasks[(e.task).toNat]'hif34c4).until_] := he39
   subst he39
   refine rd st17 h15_ [4] [(4, .bool (decide (((y.runs[i]'hia2a90).tasks[(e.task).toNat]'hif34c4).state = 2)))] [qk h20, qb 0 rfl 3, qb 1 rfl 3, qx hp36, qr hr36 7, ql h37_1, qsb ((y.runs[i]'hia2a90).tasks.length : Int) 1, qcb (args := [I e.task, I 0, I (((y.runs[i]'hia2a90).tasks.length : Int) - 1)]) Tryz.func43 rfl h25 (fun W s b => cN W e.task 0 (((y.runs[i]'hia2a90).tasks.length : Int) - 1)), qb 1 rfl 3, qx hp36, qr hr36 7, qb 0 rfl 3, qxe hp38 (e := e.task) aD, qr hr38 0, .o] aE aE fun f40 W41 h40_ st42 hb43 => (wr (aL Tryz.results158 (h40_.at 4) ?_))
   exact ⟨(fB (by unfold fresh; rw [hix]; simp only [List.getElem?_eq_getElem hil, h25, Bool.true_and]; rw [List.getElem?_eq_getElem aD])), st42.bare⟩
theorem aC4 (w : World) {y : Yard} {cs : List Value} {fp : List Nat} (hc : Shape.C w cs y fp) {e : Entry} {ds : List Value} {gp : List Nat} (hd : Shape.C w ds e gp) (hw : y.wt ≤ 1048576)  :
  Calls Tryz.prog 158 #[.agg cs.toArray, .agg ds.toArray] w fun ee w' => ee = .returned (.bool (fresh y e)) ∧ St w w' [] := by
 cases hix : dY y e.run with
 | none => exact FreshS_n w hc hd hw hix
 | some i => exact FreshS_s w hc hd hw hix
theorem yU (w : World) {y : Yard} {cs : List Value} {fp : List Nat} (hc : Shape.C w cs y fp)  (hw : y.wt ≤ 1048576) :
  Calls Tryz.prog 96 #[.agg cs.toArray] w fun e w' => ∃ (v : Value) (fp' : List Nat), e = .returned v ∧ St w w' [Res.own v y.shelf.flatten fp'] := by
 have hys : y.shelf.length ≤ y.wt := by unfold Yard.wt wtL; omega
 refine cR Tryz.func96 rfl Tryz.ntmps96 aX (wp_seq (aA (sg (aJ (cs := cs) rfl (St.start w) ?_)))); intro b1 W2 hb3 st4
 refine sg (aC (v := .slice none 0 0) rfl (aB (wp_seq (aA (sg (aC (v := .slice none 0 0) rfl (aB (wp_seq (wp_seq (aA ?_))))))))))
 have hk11 := hc
 obtain ⟨v11_0, v11_1, g11_0, g11_1, rfl, hok11, h11_0, h11_1, rfl⟩ := hk11
 refine rn st4 4 Ag.nil.put.put.put.put [] [(7, v11_0), (8, I (y.shelf.length : Int)), (9, I 0)] [qb 0 rfl 2, ql h11_0] aE fun f12 h12_ => (aB (wp_block ?_))
 have st14 := st4.row_nil (α := Entry) 131
 refine aY (fun (m : Nat) (f : Nat → Value) (W : World) => ∃ (k : Nat) (v13 : Value), k ≤ y.shelf.length ∧ m = y.shelf.length - k ∧ Ag [(3, v13), (7, v11_0), (8, I (y.shelf.length : Int)), (9, I (k : Int))] f ∧ St w W ([Res.row (α := Entry) 131 v13 (y.shelf.take k).flatten [], Res.bx b1 [I y.now, I y.seq, v11_0, v11_1] 34])) (y.shelf.length - 0) ?_ ?_
 ·exact ⟨0, (.slice none 0 0), (by first | omega | simp), rfl, (h12_.to aE), st14⟩
 intro m16 f17 W18 hJ19
 obtain ⟨k, v13, hcd21_0, rfl, hA21, st20⟩ := hJ19
 have hfl := qW y (k + 1)
 refine wp_seq (aA (sg (bS (hA21.at 9) (hA21.at 8) (aB (wp_seq (aK rfl (fun h24p => ?_) (fun h24p => ?_)))))))
 ·refine wp_skip (wp_seq (wp_block (wp_seq (aA ?_))))
  have hi019db : k < y.shelf.length := aD
  have hq_ := idx h11_0 (i := k) hi019db
  obtain ⟨b25, o25, cs25, f25, hp25, hr25, hc25, hm25⟩ := hq_
  have hk25 := hc25
  obtain ⟨v26, rfl, h27⟩ := hk25
  refine rn st20 3 hA21.put [] [(5, v26)] [qx hp25, qr hr25 0] aE fun f29 h29_ => (aB (aA (sg (aF (v := v13) (h29_.at 3) (sg (aF (v := v26) (h29_.at 5) ?_))))))
  have hfl2 := oG (xss := y.shelf) (k := k) aD
  rw [hfl2, List.length_append] at hfl
  refine sg (cE eI cA rfl rfl h27 st20.below st20 (by unfold maxLen; omega) aD ?_); intro v32 W33 st34
  refine sg (aC (v := v32) rfl (aB (aA (sg (bY (h29_.at 9) rfl dX (sg (aF (v := I ((k : Int) + 1)) rfl (aB ?_))))))))
  exact ⟨_, y.shelf.length - (k + 1), aD, rfl, k + 1, v32, aD, rfl, (h29_.put.put.put.put.put.put.to aE), (by rw [oG aD]; exact st34)⟩
 ·refine wp_exit (wp_seq (aA (sg (aF (v := v13) (hA21.at 3) (sg (aC (v := v13) rfl (aB (wr (aL Tryz.results96 rfl ?_)))))))))
  obtain rfl : k = y.shelf.length := by omega
  rw [List.take_length] at st20
  have hq_ := st20.shut
  obtain ⟨fpz, stz⟩ := hq_
  exact ⟨_, fpz, rfl, stz.only 0 rfl⟩
theorem yT (w : World) {y : Yard} {cs : List Value} {fp : List Nat} (hc : Shape.C w cs y fp)  (hw : y.wt ≤ 1048576) :
  Calls Tryz.prog 91 #[.agg cs.toArray] w fun e w' => ∃ (v : Value) (fp' : List Nat), e = .returned v ∧ St w w' [Res.own v y.shelf.flatten fp'] := by
 have hys : y.shelf.length ≤ y.wt := by unfold Yard.wt wtL; omega
 refine cR Tryz.func91 rfl Tryz.ntmps91 aX (wp_seq (aA (sg (aJ (cs := cs) rfl (St.start w) ?_)))); intro b1 W2 hb3 st4
 refine sg (aC (v := .slice none 0 0) rfl (aB (wp_seq (aA (sg (aT (cs := []) (e := 131) eA (bV cA _) st4 ?_)))))); intro b8 W9 hb10 st11
 have st11 := st11.row_empty (α := Entry)
 refine sg (aC (v := (.slice (some ⟨b8, 0, none⟩) 0 0)) rfl (aB (wp_seq (wp_seq (aA (sg (aC (v := I 0) rfl (aB (wp_block (aY (fun (m : Nat) (f : Nat → Value) (W : World) => ∃ (k : Nat) (v17 : Value), k ≤ y.shelf.length ∧ m = y.shelf.length - k ∧ Ag [(1, .pointer (some ⟨b1, 0, none⟩)), (3, v17), (4, I (k : Int))] f ∧ St w W ([Res.row (α := Entry) 131 v17 (y.shelf.take k).flatten [], Res.bx b1 cs 34])) (y.shelf.length - 0) ?_ ?_))))))))))
 ·exact ⟨0, (.slice (some ⟨b8, 0, none⟩) 0 0), (by first | omega | simp), rfl, (Ag.nil.put.put.put.put.put.put.to aE), st11⟩
 intro m18 f19 W20 hJ21
 obtain ⟨k, v17, hcd23_0, rfl, hA23, st22⟩ := hJ21
 have hfl := qW y (k + 1)
 refine wp_seq (wp_seq (aA ?_))
 have hk25 := hc
 obtain ⟨v25_0, v25_1, g25_0, g25_1, rfl, hok25, h25_0, h25_1, rfl⟩ := hk25
 refine rn st22 5 hA23 [] [(10, .bool (decide ((k : Int) < (y.shelf.length : Int))))] [qb 1 rfl 2, ql h25_0, .o] aE fun f26 h26_ => (aB (aK (h26_.at 10) (fun h27p => ?_) (fun h27p => ?_)))
 ·refine wp_skip (wp_seq (wp_block (aA ?_)))
  have hi019db : k < y.shelf.length := aD
  have hq_ := idx h25_0 (i := k) hi019db
  obtain ⟨b29, o29, cs29, f29, hp29, hr29, hc29, hm29⟩ := hq_
  have hk29 := hc29
  obtain ⟨v30, rfl, h31⟩ := hk29
  refine rn st22 6 h26_ [] [(13, v17), (18, v30)] [qb 1 rfl 2, qx hp29, qr hr29 0] aE fun f32 h32_ => ?_
  have hfl2 := oG (xss := y.shelf) (k := k) aD
  rw [hfl2, List.length_append] at hfl
  refine sg (cE eI cA (h32_.at 13) (h32_.at 18) h31 st22.below st22 (by unfold maxLen; omega) aD ?_); intro v33 W34 st35
  refine sg (aC (v := v33) rfl (aB (aA (rn st35 3 h32_.put.put [4] [(4, I ((k : Int) + 1))] [qad (k : Int) 1] aE fun f39 h39_ => (aB ?_)))))
  exact ⟨_, y.shelf.length - (k + 1), aD, rfl, k + 1, v33, aD, rfl, (h39_.to aE), (by rw [oG aD]; exact st35)⟩
 ·refine wp_exit (wp_seq (aA (sg (aF (v := v17) (h26_.at 3) (sg (aC (v := v17) rfl (aB (wr (aL Tryz.results91 rfl ?_)))))))))
  obtain rfl : k = y.shelf.length := by omega
  rw [List.take_length] at st22
  have hq_ := st22.shut
  obtain ⟨fpz, stz⟩ := hq_
  exact ⟨_, fpz, rfl, stz.only 0 rfl⟩
def dC (sh : Nat) (prio rid : Int) : List Int → List (List Entry) → Int → List (List Entry)
 | [], xss, _ => xss
 | t :: ts, xss, seq => dC sh prio rid ts (xss.set sh (jF (xss.getD sh []) ⟨prio, seq, rid, t⟩)) (seq + 1)
theorem lC (sh : Nat) (prio rid t : Int) : ∀ (ts : List Int) (xss : List (List Entry)) (seq : Int), dC sh prio rid (ts ++ [t]) xss seq = (dC sh prio rid ts xss seq).set sh (jF ((dC sh prio rid ts xss seq).getD sh []) ⟨prio, seq + ts.length, rid, t⟩)
 | [], xss, seq => by simp [dC]
 | u :: ts, xss, seq => by
  have h := lC sh prio rid t ts (xss.set sh (jF (xss.getD sh []) ⟨prio, seq, rid, u⟩)) (seq + 1)
  simp only [List.cons_append, dC]
  rw [h, show seq + 1 + (ts.length : Int) = seq + ((u :: ts).length : Int) by simp; omega]
theorem kM (sh : Nat) (prio rid : Int) : ∀ (ts : List Int) (xss : List (List Entry)) (seq : Int), (dC sh prio rid ts xss seq).length = xss.length
 | [], xss, seq => rfl
 | u :: ts, xss, seq => by simp only [dC]; rw [kM]; simp
theorem kN (sh : Nat) (prio rid : Int) : ∀ (ts : List Int) (xss : List (List Entry)) (seq : Int), sh < xss.length → ((dC sh prio rid ts xss seq).getD sh []).length = (xss.getD sh []).length + ts.length
 | [], xss, seq, h => rfl
 | u :: ts, xss, seq, h => by
  simp only [dC]
  rw [kN sh prio rid ts _ _ (by simpa using h)]
  rw [List.getD_eq_getElem?_getD, List.getElem?_set_self h]
  simp [xZ]
  omega
theorem stockL_to {sh : Nat} {prio rid seq : Int} {ts : List Int} {xss : List (List Entry)} {k : Nat} {t : Int} (h : ts[k]? = some t) : dC sh prio rid (ts.take (k + 1)) xss seq = (dC sh prio rid (ts.take k) xss seq).set sh (jF ((dC sh prio rid (ts.take k) xss seq).getD sh []) ⟨prio, seq + k, rid, t⟩) := by
 obtain ⟨hl, rfl⟩ := List.getElem?_eq_some_iff.1 h
 rw [List.take_succ_eq_append_getElem hl, lC, List.length_take, Nat.min_eq_left aD]
theorem getD_some {α : Type} {xss : List (List α)} {k : Nat} (h : k < xss.length) : xss[k]? = some (xss.getD k []) := by
 rw [List.getD_eq_getElem?_getD, List.getElem?_eq_getElem h]; rfl

theorem StockI {w W0 : World} {rs : List Res} {b : Nat} {now seq rid prio most wait tk stt : Int} {vs vr ve vt vq : Value} {xss : List (List Entry)} {fp fq : List Nat} {ts : List Int} (hst : St w W0 (Res.bx b [I now, I seq, vs, vr] 34 :: Res.own vs xss fp :: rs)) (hT : ∀ W', St w W' rs → Sl W' vq ts fq) (hss : 4 ≤ xss.length) (hln : (xss.getD (bH rid).toNat []).length + ts.length ≤ 1048576) (hsq : 0 ≤ seq ∧ seq ≤ 4000000000) (hpr : I64 prio) (hri : I64 rid) :
  Calls Tryz.prog 176 #[.pointer (some ⟨b, 0, none⟩), .agg #[I rid, I prio, I most, I wait, I tk, ve, I stt, vt], vq] W0 fun e w' => ∃ (fp' : List Nat), e = .returned (.tuple #[]) ∧ St w w' (Res.bx b [I now, I (seq + ts.length), vs, vr] 34 :: Res.own vs (dC (bH rid).toNat prio rid ts xss seq) fp' :: rs) := by
 have hsr := iQ rid
 have hTl := (hT _ (St.dropn 2 hst)).len_le
 refine jX Tryz.func176 rfl Tryz.ntmps176 aX (wp_seq (aA (sg (aJ (cs := [I rid, I prio, I most, I wait, I tk, ve, I stt, vt]) rfl hst ?_)))); intro b1 W2 hb3 st4
 refine aB (wp_seq (aA (rc st4 4 Ag.nil.put.put.put.put [] [(6, I (bH rid))] [qb 0 rfl 0, qc Tryz.func223 rfl (fun W s b => ShelfOfI W rid)] aE fun f7 W8 h7_ st9 hb10 => (aB (wp_seq (aA (rn st9 3 h7_ [] [(12, vq), (13, I (ts.length : Int)), (14, I 0)] [ql (hT _ (St.dropn 3 st9))] aE fun f12 h12_ => (aB (wp_block (aY (fun (m : Nat) (f : Nat → Value) (W : World) => ∃ (k : Nat) (fo13 : List Nat), k ≤ ts.length ∧ m = ts.length - k ∧ Ag [(0, .pointer (some ⟨b, 0, none⟩)), (4, .pointer (some ⟨b1, 0, none⟩)), (6, I (bH rid)), (12, vq), (13, I (ts.length : Int)), (14, I (k : Int))] f ∧ St w W (Res.bx b1 [I rid, I prio, I most, I wait, I tk, ve, I stt, vt] 123 :: Res.bx b [I now, I (seq + (k : Int)), vs, vr] 34 :: Res.own (α := List (List Entry)) vs (dC (bH rid).toNat prio rid (ts.take k) xss seq) fo13 :: rs)) (ts.length - 0) ?_ ?_))))))))))
 ·exact ⟨0, fp, Nat.zero_le _, rfl, (h12_.to aE), (by simpa [dC] using st9)⟩
 intro m14 f15 W16 hJ17
 obtain ⟨k, fo13, hcd19_0, rfl, hA19, st18⟩ := hJ17
 have hzl := kM (bH rid).toNat prio rid (ts.take k) xss seq
 have hzg := kN (bH rid).toNat prio rid (ts.take k) xss seq aD
 rw [List.length_take] at hzg
 refine wp_seq (aA (sg (bS (hA19.at 14) (hA19.at 13) (aB (wp_seq (aK rfl (fun h22p => ?_) (fun h22p => ?_)))))))
 ·refine wp_skip (wp_seq (wp_block (wp_seq (aA ?_))))
  have htk : ts[k]? = some (ts[k]) := List.getElem?_eq_getElem aD
  have hi0e241 : k < ts.length := (List.getElem?_eq_some_iff.1 htk).1
  have hq_ := gT (hT _ (St.dropn 3 st18)) (i := k) htk
  obtain ⟨b23, o23, cs23, f23, hp23, hr23, hc23, hm23⟩ := hq_
  have hk23 := hc23
  obtain ⟨rfl, rfl, hok23⟩ := hk23
  refine rn st18 3 hA19.put [] [(8, I (ts[k]))] [qx hp23, qn hr23 0] aE fun f25 h25_ => (aB (wp_seq ?_))
  have hice9a4 : (bH rid).toNat < (dC (bH rid).toNat prio rid (ts.take k) xss seq).length := (List.getElem?_eq_some_iff.1 (getD_some (xss := dC (bH rid).toNat prio rid (ts.take k) xss seq) (k := (bH rid).toNat) aD)).1
  have hq_ := gT (aI (st18.get 2 rfl)) (i := (bH rid).toNat) (getD_some (xss := dC (bH rid).toNat prio rid (ts.take k) xss seq) (k := (bH rid).toNat) aD)
  obtain ⟨b26, o26, cs26, f26, hp26, hr26, hc26, hm26⟩ := hq_
  have hk26 := hc26
  obtain ⟨v27, rfl, h28⟩ := hk26
  refine eX 24 [23] [[], [23]] [[(0, 1)]] (w1 := W16) (rs := Res.bx b1 [I rid, I prio, I most, I wait, I tk, ve, I stt, vt] 123 :: Res.bx b [I now, I (seq + (k : Int)), vs, vr] 34 :: Res.own (α := List (List Entry)) vs (dC (bH rid).toNat prio rid (ts.take k) xss seq) fo13 :: rs) (fun q => match q with | 0 => Cp.fr (ι := Unit) (fun _ => []) (fun _ => []) | _ => Cp.fr (ι := Value × List Nat) (fun ⟨v30, fp30⟩ => [v30]) (fun ⟨v30, fp30⟩ => [Res.own (α := List Entry) v30 (jF ((dC (bH rid).toNat prio rid (ts.take k) xss seq).getD (bH rid).toNat []) (⟨prio, seq + (k : Int), rid, (ts[k])⟩ : Entry)) fp30])) [Pq.is (.pointer (some ⟨b, 0, none⟩)), Pq.is (.pointer (some ⟨b, 0, none⟩)), Pq.is (.pointer (some ⟨b, 0 + 2, none⟩)), Pq.is (vs) (Sl.yl (aI (st18.get 2 rfl))), Pq.is (I (bH rid)), Pq.is (.pointer (some ⟨b, 0, none⟩)), Pq.is (.pointer (some ⟨b, 0, none⟩)), Pq.is (.pointer (some ⟨b, 0 + 2, none⟩)), Pq.is (vs) (Sl.yl (aI (st18.get 2 rfl))), Pq.is (I (bH rid)), Pq.is (.pointer (some ⟨b26, o26, none⟩)), Pq.is (v27) (Sl.yl h28), Pq.is (.pointer (some ⟨b1, 0 + 1, none⟩)), Pq.is (.pointer (some ⟨b1, 0 + 1 + 0, none⟩)), Pq.is (I prio), Pq.is (.pointer (some ⟨b, 0, none⟩)), Pq.is (.pointer (some ⟨b, 0, none⟩)), Pq.is (.pointer (some ⟨b, 0 + 1, none⟩)), Pq.is (I (seq + (k : Int))), Pq.is (.pointer (some ⟨b1, 0 + 0, none⟩)), Pq.is (I rid), Pq.is (I (ts[k])), Pq.is (.agg #[I prio, I (seq + (k : Int)), I rid, I (ts[k])]), Pq.none] mix (by rfl) (by rfl) (by rfl) ⟨(), rfl, st18, (Below.refl _ _)⟩ (by rfl) ⟨(fun f W hst hbl hd hf => aF (v := .pointer (some ⟨b, 0, none⟩)) ((hf 0 rfl).trans (h25_.at 0)) brq), (fun f W hst hbl hd hf => fW (hd 0 18 rfl rfl) brq), (fun f W hst hbl hd hf => aH eE (hd 1 19 rfl rfl) brq), (fun f W hst hbl hd hf => aU eG rfl (hd 2 20 rfl rfl) (hst.get 1 rfl) (i := 2) rfl rfl brq), (fun f W hst hbl hd hf => aF (v := I (bH rid)) ((hf 6 rfl).trans (h25_.at 6)) brq), (fun f W hst hbl hd hf => aF (v := .pointer (some ⟨b, 0, none⟩)) ((hf 0 rfl).trans (h25_.at 0)) brq), (fun f W hst hbl hd hf => fW (hd 5 23 rfl rfl) brq), (fun f W hst hbl hd hf => aH eE (hd 6 24 rfl rfl) brq), (fun f W hst hbl hd hf => aU eG rfl (hd 7 25 rfl rfl) (hst.get 1 rfl) (i := 2) rfl rfl brq), (fun f W hst hbl hd hf => aF (v := I (bH rid)) ((hf 6 rfl).trans (h25_.at 6)) brq), (fun f W hst hbl hd hf => aN eM (hd 8 26 rfl rfl) hp26 (hd 9 27 rfl rfl) aD brq), (fun f W hst hbl hd hf => eV iS rfl (hd 10 28 rfl rfl) hr26 hbl (i := 0) rfl rfl brq), (fun f W hst hbl hd hf => aH jU ((hf 4 rfl).trans (h25_.at 4)) brq), (fun f W hst hbl hd hf => aH rX (hd 12 30 rfl rfl) brq), (fun f W hst hbl hd hf => aU eF rfl (hd 13 31 rfl rfl) (hst.get 0 rfl) (i := 1) rfl rfl brq), (fun f W hst hbl hd hf => aF (v := .pointer (some ⟨b, 0, none⟩)) ((hf 0 rfl).trans (h25_.at 0)) brq), (fun f W hst hbl hd hf => fW (hd 15 33 rfl rfl) brq), (fun f W hst hbl hd hf => aH rW (hd 16 34 rfl rfl) brq), (fun f W hst hbl hd hf => aU eF rfl (hd 17 35 rfl rfl) (hst.get 1 rfl) (i := 1) rfl rfl brq), (fun f W hst hbl hd hf => aH qX ((hf 4 rfl).trans (h25_.at 4)) brq), (fun f W hst hbl hd hf => aU eF rfl (hd 19 37 rfl rfl) (hst.get 0 rfl) (i := 0) rfl rfl brq), (fun f W hst hbl hd hf => aF (v := I (ts[k])) ((hf 8 rfl).trans (h25_.at 8)) brq), (fun f W hst hbl hd hf => eJ (vs := [(0, I prio), (1, I (seq + (k : Int))), (2, I rid), (3, I (ts[k]))]) (cs := [I prio, I (seq + (k : Int)), I rid, I (ts[k])]) (cY (v := I prio) (hd 14 32 rfl rfl) (cY (v := I (seq + (k : Int))) (hd 18 36 rfl rfl) (cY (v := I rid) (hd 20 38 rfl rfl) (cY (v := I (ts[k])) (hd 21 39 rfl rfl) eA)))) aE brq), ⟨rfl, ?_, True.intro⟩, trivial⟩ ?_
  ·intro f W hC hd hf
   have hC_ := hC
   obtain ⟨_, hu, st29, hbl⟩ := hC_
   try dsimp only [cap_, dP] at st29
   refine (bJ Tryz.func192 rfl (hd 11 29 rfl rfl) (hd 22 40 rfl rfl) ((wP W (h28.below hbl) (show Shape.C _ [I prio, I (seq + (k : Int)), I rid, I (ts[k])] (⟨prio, seq + (k : Int), rid, (ts[k])⟩ : Entry) [] from ⟨rfl, rfl, eS⟩) aD).mono ?_)); rintro _ W32 ⟨v30, fp30, rfl, hk33⟩; refine ⟨_, rfl, ?_⟩
   have st34 := St.call st29 hk33
   exact ⟨⟨(v30, fp30), (ce rfl rfl), st34, (hbl.trans (Below.mono hk33.below hbl.size))⟩, Sl.yl (aI (st34.get 0 rfl))⟩
  intro f36 W37 hC hv38 hf39
  have hC_ := hC
  obtain ⟨⟨v30, fp30⟩, hu, st40, hbl41⟩ := hC_
  try dsimp only [cap_, dP] at st40
  have hu42 : f36 41 = v30 := congrArg (fun l => l.getD 0 undef) hu
  have st44 := st40.f3
  have hq_ := St.lendx (α := List Entry) aX st44 (x := (dC (bH rid).toNat prio rid (ts.take k) xss seq).getD (bH rid).toNat []) (getD_some aD)
  obtain ⟨b45, e45, pre45, cs45, post45, fi45, fr45, hPA45, hC45, st46⟩ := hq_
  have hq_ := st46.f1.uncs1
  obtain ⟨v45, he45, st51⟩ := hq_; subst he45
  refine sg (aN eM (hv38 3 21 aX rfl) hPA45 (hv38 4 22 aX rfl) aD (sgn (bE (i := 0) (v := v30) (C' := [v30]) aE rfl hu42 (Sl.cells (aI (st51.f1.get 3 rfl))) (Sl.one (aI (st51.f1.get 3 rfl))) st51.f1 rfl bP rfl ?_))); intro W55 st56
  refine aB (aA (rn st56 7 (Ag.cons (show f36 0 = .pointer (some ⟨b, 0, none⟩) from ((hf39 0 rfl).trans (h25_.at 0))) (Ag.cons (show f36 4 = .pointer (some ⟨b1, 0, none⟩) from ((hf39 4 rfl).trans (h25_.at 4))) (Ag.cons (show f36 6 = I (bH rid) from ((hf39 6 rfl).trans (h25_.at 6))) (Ag.cons (show f36 12 = vq from ((hf39 12 rfl).trans (h25_.at 12))) (Ag.cons (show f36 13 = I (ts.length : Int) from ((hf39 13 rfl).trans (h25_.at 13))) (Ag.cons (show f36 14 = I (k : Int) from ((hf39 14 rfl).trans (h25_.at 14))) Ag.nil)))))).put [] [(47, I ((seq + (k : Int)) + 1)), (49, .pointer (some ⟨b, 1, none⟩))] [qb 5 rfl 1, qad (seq + (k : Int)) 1] aE fun f58 h58_ => (sgn (aQ (v := I ((seq + (k : Int)) + 1)) (C' := [I now, I ((seq + (k : Int)) + 1), vs, vr]) aE (h58_.at 49) (h58_.at 47) rfl rfl st56.f5 bP rfl ?_)))); intro W60 st61
  refine aB (aA (sg (bY (h58_.at 14) rfl dX (sg (aF (v := I ((k : Int) + 1)) rfl (aB ?_))))))
  have st65 := st61.f4.cs1
  have hq_ := St.give (α := List Entry) st65.f4.f1.f3
  obtain ⟨fp69, st70⟩ := hq_
  exact ⟨_, ts.length - (k + 1), aD, rfl, k + 1, fp69, aD, rfl, (h58_.put.put.to aE), (by rw [stockL_to htk, show seq + ((k + 1 : Nat) : Int) = seq + (k : Int) + 1 by omega]; exact st70.f1.f3.d3)⟩
 ·refine wp_exit ?_
  repeat (first | refine lR ?_ | refine nQ ?_ | refine lZ rfl ?_)
  refine end0 Tryz.results176 ?_
  have hke : k = ts.length := by omega
  rw [hke, List.take_length] at st18
  have st74 := st18.f2
  exact ⟨_, rfl, st74.f2.d2⟩

def jA (r r' : Run) : List Int := (bC r'.tasks 2).filter (fun t => !decide (t ∈ bC r.tasks 2))
theorem lG (r r' : Run) : (jA r r').length ≤ r'.tasks.length := Nat.le_trans (List.length_filter_le _ _) (kZ _ _ _)
theorem qB {α : Type} {xs : List α} {k : Nat} {x : α} (h : xs[k]? = some x) (y : α) : (xs.set k y)[k]? = some y := List.getElem?_set_self (List.getElem?_eq_some_iff.1 h).1
theorem tasksIn_mem {ts : List Task} {s i : Int} (h : i ∈ bC ts s) : 0 ≤ i ∧ i < ts.length := by
 unfold bC gW at h
 rw [List.mem_filterMap] at h
 obtain ⟨a, ha, h⟩ := h
 rw [List.mem_range] at ha
 split at h
 ·simp only [Option.some.injEq] at h; omega
 ·cases h
theorem tin_i64 {ts : List Task} {s : Int} {j : Nat} (hl : ts.length ≤ 1000) (hj : j < (bC ts s).length) : I64 (bC ts s)[j] := by
 have := tasksIn_mem (List.getElem_mem hj)
 unfold I64; omega

theorem ChangeI {w W0 : World} {rs : List Res} {b k : Nat} {y : Yard} {r r' : Run} {vs vr : Value} {fp fq : List Nat} {F : FuncId} {capt : List Value} {fn : Func} (hst : St w W0 (Res.bx b [I y.now, I y.seq, vs, vr] 34 :: Res.own vs y.shelf fp :: Res.own vr y.runs fq :: rs)) (hr : y.runs[k]? = some r) (hrl : r.tasks.length ≤ 1000) (hrl' : r'.tasks.length ≤ 1000) (hrk : r'.ok) (hss : 4 ≤ y.shelf.length) (hln : (y.shelf.getD (bH r'.id).toNat []).length ≤ 1000000) (hsq0 : 0 ≤ y.seq ∧ y.seq ≤ 4000000000)
  (hfn : Tryz.prog.funcs[F]? = some fn) (hok : ((fn.name == "runtime.NumGoroutine") || fn.body.isNone) = false)
  (hF : ∀ (W1 : World) (rs1 : List Res) (b1 : Nat) (pre1 cs1 post1 : List Value) (fp1 : List Nat) (ty1 : TypeId), (∀ W', St w W' rs1 → St w W' rs) → St w W1 (Res.bx b1 (pre1 ++ cs1 ++ post1) ty1 :: Res.own (.agg cs1.toArray) r fp1 :: rs1) → Calls Tryz.prog F (Value.pointer (some ⟨b1, pre1.length, none⟩) :: capt).toArray W1 fun e w' => ∃ (cs' : List Value) (fp' : List Nat), e = .returned (.tuple #[]) ∧ St w w' (Res.bx b1 (pre1 ++ cs' ++ post1) ty1 :: Res.own (.agg cs'.toArray) r' fp' :: rs1)) :
  Calls Tryz.prog 110 #[.pointer (some ⟨b, 0, none⟩), I (k : Int), .func (.func F) #[] capt.toArray] W0 fun e w' => ∃ (fp' fq' : List Nat), e = .returned (.tuple #[]) ∧ St w w' (Res.bx b [I y.now, I (y.seq + (jA r r').length), vs, vr] 34 :: Res.own vs (dC (bH r'.id).toNat r'.plan.prio r'.id (jA r r') y.shelf y.seq) fp' :: Res.own vr (y.runs.set k r') fq' :: rs) := by
 have hkl := (List.getElem?_eq_some_iff.1 hr).1
 have hfb : (bC r'.tasks 2).length ≤ r'.tasks.length := kZ r'.tasks 2 r'.tasks.length
 have hsr := iQ r'.id
 have hff := lG r r'
 refine jX Tryz.func110 rfl Tryz.ntmps110 aX (wp_seq (aA ?_))
 have hi24e2d : k < y.runs.length := (List.getElem?_eq_some_iff.1 hr).1
 have hq_ := gT (aI (hst.get 2 rfl)) (i := k) hr
 obtain ⟨b2, o2, cs2, f2, hp2, hr2, hc2, hm2⟩ := hq_
 refine rn hst 7 Ag.nil.put.put.put [] [(16, .agg cs2.toArray)] [qb 0 rfl 3, qx hp2, qtw hr2 (Below.refl _ _) (Shape.len hc2)] aE fun f3 h3_ => (sg (bJ Tryz.func162 rfl (h3_.at 16) rfl ((mC W0 hc2 2 aD).mono ?_))); rintro _ W6 ⟨v4, fp4, rfl, hk7⟩; refine ⟨_, rfl, ?_⟩
 have st8 := St.call hst hk7
 refine sg (aC (v := v4) rfl (aB (wp_seq (aA (rn st8 6 h3_.put.put [] [(18, .func (.func F) #[] capt.toArray), (22, vr), (23, I (k : Int))] [qb 1 rfl 3] aE fun f13 h13_ => ?_)))))
 have hq_ := St.lendx (α := Run) aX st8.f3 (x := r) hr
 obtain ⟨b15, e15, pre15, cs15, post15, fi15, fr15, hPA15, hC15, st16⟩ := hq_
 have st21 := st16.f1.uncs rfl
 refine sg (aN iY (h13_.at 22) hPA15 (h13_.at 23) rfl (sg (nW (first := []) hfn hok (h13_.at 18) (sO (v := .pointer (some ⟨b15, pre15.length, none⟩)) rfl sQ) ((hF _ (Res.rest (α := Run) vr b15 pre15 post15 y.runs k fr15 :: Res.own (α := List Int) v4 (bC r.tasks 2) fp4 :: Res.bx b [I y.now, I y.seq, vs, vr] 34 :: Res.own (α := List (List Entry)) vs y.shelf fp :: rs) _ _ _ _ _ _ (fun W_ h_ => h_.dropn 4) st21.f1).mono ?_)))); rintro _ W24 ⟨cs26, fp26, rfl, st27⟩; refine ⟨_, rfl, ?_⟩
 refine aB (wp_seq (aA (sg (aC (v := .slice none 0 0) rfl (aB (wp_seq (wp_seq (aA ?_))))))))
 have st32 := st27.f1.cs rfl
 have hq_ := St.give (α := Run) st32.f2.f1.f2
 obtain ⟨fp36, st37⟩ := hq_
 have hi46701 : k < ((y.runs).set k r').length := (List.getElem?_eq_some_iff.1 (qB hr r')).1
 have hq_ := gT (aI (st37.get 0 rfl)) (i := k) (qB hr r')
 obtain ⟨b39, o39, cs39, f39, hp39, hr39, hc39, hm39⟩ := hq_
 refine rn st37 7 h13_.put.put.put [] [(32, .agg cs39.toArray)] [qb 2 rfl 3, qx hp39, qtw hr39 (Below.refl _ _) (Shape.len hc39)] aE fun f40 h40_ => (sg (bJ Tryz.func162 rfl (h40_.at 32) rfl ((mC W24 hc39 2 aD).mono ?_))); rintro _ W43 ⟨v41, fp41, rfl, hk44⟩; refine ⟨_, rfl, ?_⟩
 have st45 := St.call st37 hk44
 refine sg (fK eP rfl (aI (st45.get 0 rfl)) (sg (aF (v := I 0) rfl (aB (wp_block ?_)))))
 have st50 := st45.row_nil (α := Int) 3
 refine aY (fun (m : Nat) (f : Nat → Value) (W : World) => ∃ (j : Nat) (v49 : Value), j ≤ (bC r'.tasks 2).length ∧ m = (bC r'.tasks 2).length - j ∧ Ag [(0, .pointer (some ⟨b, 0, none⟩)), (1, I (k : Int)), (6, v4), (7, v49), (33, v41), (34, I ((bC r'.tasks 2).length : Int)), (35, I (j : Int))] f ∧ St w W (Res.row (α := Int) 3 v49 (((bC r'.tasks 2).take j).filter (fun t => !decide (t ∈ bC r.tasks 2))) [] :: Res.own (α := List Int) v41 (bC r'.tasks 2) fp41 :: Res.own (α := List Run) vr ((y.runs).set k r') fp36 :: Res.own (α := List Int) v4 (bC r.tasks 2) fp4 :: Res.bx b [I y.now, I y.seq, vs, vr] 34 :: Res.own (α := List (List Entry)) vs y.shelf fp :: rs)) ((bC r'.tasks 2).length - 0) ?_ ?_
 ·exact ⟨0, (.slice none 0 0), Nat.zero_le _, rfl, (h40_.put.put.put.to aE), st50⟩
 intro m52 f53 W54 hJ55
 obtain ⟨j, v49, hcd57_0, rfl, hA57, st56⟩ := hJ55
 have hfl_ := List.length_filter_le (fun t => !decide (t ∈ bC r.tasks 2)) ((bC r'.tasks 2).take j)
 rw [List.length_take] at hfl_
 refine wp_seq (aA (sg (bS (hA57.at 35) (hA57.at 34) (aB (wp_seq (aK rfl (fun h60p => ?_) (fun h60p => ?_)))))))
 ·refine wp_skip (wp_seq (wp_block (wp_seq (aA ?_))))
  have hi6fac1 : j < (bC r'.tasks 2).length := (List.getElem?_eq_some_iff.1 (List.getElem?_eq_getElem aD)).1
  have hq_ := gT (aI (st56.get 1 rfl)) (i := j) (List.getElem?_eq_getElem aD)
  obtain ⟨b61, o61, cs61, f61, hp61, hr61, hc61, hm61⟩ := hq_
  have hk61 := hc61
  obtain ⟨rfl, rfl, hok61⟩ := hk61
  refine rn st56 3 hA57.put [] [(9, I ((bC r'.tasks 2)[j]'(by omega)))] [qx hp61, qn hr61 0] aE fun f63 h63_ => (aB (wp_seq (aA (rc st56 4 h63_ [] [(42, .bool (!decide (((bC r'.tasks 2)[j]'(by omega)) ∈ (bC r.tasks 2))))] [qc (args := [v4, I ((bC r'.tasks 2)[j]'(by omega))]) (v := .bool (decide (((bC r'.tasks 2)[j]'(by omega)) ∈ (bC r.tasks 2)))) Tryz.func75 rfl (fun W s b => ContN W (aI (s.get 3 rfl)) ((bC r'.tasks 2)[j]'(by omega))), .o] aE fun f65 W66 h65_ st67 hb68 => (aB (cB (h65_.at 42) (fun h69p => ?_) (fun h69p => ?_)))))))
  ·have h69 := gR h69p
   refine aA (sg (aF (v := v49) (h65_.at 7) (sg (aF (v := I ((bC r'.tasks 2)[j]'(by omega))) (h65_.at 9) (sg (aT (cs := [I ((bC r'.tasks 2)[j]'(by omega))]) (e := 3) (cY (v := I ((bC r'.tasks 2)[j]'(by omega))) rfl eA) (bN cZ _ _ rfl rfl aX) st67 ?_)))))); intro b72 W73 hb74 st75
   refine sg (cP (ys := [((bC r'.tasks 2)[j]'(by omega))]) cZ rfl rfl rfl st75.f1 (Elems.int1 (tin_i64 hrl' aD)) (by unfold maxLen; omega) aD ?_); intro v78 W79 st80
   refine sg (aC (v := v78) rfl (aB (aA (sg (bY (h65_.at 35) rfl dX (sg (aF (v := I ((j : Int) + 1)) rfl (aB ?_))))))))
   exact ⟨_, (bC r'.tasks 2).length - (j + 1), aD, rfl, j + 1, v78, aD, rfl, (h65_.put.put.put.put.put.put.put.to aE), (by rw [zZ aD (h69)]; exact st80)⟩
  ·have h69 := gS h69p
   refine wp_skip (aA (sg (bY (h65_.at 35) rfl dX (sg (aF (v := I ((j : Int) + 1)) rfl (aB ?_))))))
   exact ⟨_, (bC r'.tasks 2).length - (j + 1), aD, rfl, j + 1, v49, aD, rfl, (h65_.put.put.to aE), (by rw [wE aD (h69)]; exact st67)⟩
 ·refine wp_exit ?_
  have hje : j = (bC r'.tasks 2).length := by omega
  have hfe : ((bC r'.tasks 2).take j).filter (fun t => !decide (t ∈ bC r.tasks 2)) = jA r r' := by rw [hje, List.take_length]; rfl
  rw [hfe] at st56
  have hsq : 0 ≤ y.seq ∧ y.seq ≤ 4000000000 := hsq0
  have hpr : I64 r'.plan.prio := hrk.2.1.1
  have hri : I64 r'.id := hrk.1
  refine aA ?_
  have hi46701 : k < ((y.runs).set k r').length := (List.getElem?_eq_some_iff.1 (qB hr r')).1
  have hq_ := gT (aI (st56.get 2 rfl)) (i := k) (qB hr r')
  obtain ⟨b88, o88, cs88, f88, hp88, hr88, hc88, hm88⟩ := hq_
  refine rn st56 9 hA57.put [] [(48, .pointer (some ⟨b, 0, none⟩)), (55, .agg cs88.toArray), (56, v49)] [qb 4 rfl 3, qx hp88, qtw hr88 (Below.refl _ _) (Shape.len hc88)] aE fun f89 h89_ => ?_
  have hk91 := hc88
  obtain ⟨v91_0, v91_1, g91_0, g91_1, rfl, hok91, h91_0, h91_1, rfl⟩ := hk91
  have st92 := st56.f5
  refine sg (hX Tryz.func176 rfl (h89_.at 48) (h89_.at 55) (h89_.at 56) ((StockI st92.f5 (fun W_ h_ => bW (h_.get 0 rfl))  hss aD hsq hpr hri).mono ?_)); rintro _ W90 ⟨fs94, rfl, st95⟩; refine ⟨_, rfl, ?_⟩
  refine aB ?_
  repeat (first | refine lR ?_ | refine nQ ?_ | refine lZ rfl ?_)
  refine end0 Tryz.results110 ?_
  exact ⟨_, _, rfl, st95.f4.f2.f2.d3.d3.d3⟩
theorem qV (y : Yard) : y.shelf.flatten.length ≤ y.wt := by
 have h3 := qW y y.shelf.length
 rwa [List.take_length] at h3
def dE (r : Run) : Nat := if r.state = 1 then r.tasks.length else 0
def dG (y : Yard) (es : List Entry) : Nat := (es.filter (fun e => !fresh y e)).length
def kD (y : Yard) : Int := ((((y.runs).map dE).sum : Nat) : Int) + ((dG y y.shelf.flatten : Nat) : Int)
theorem slotsR_le (r : Run) : dE r ≤ r.wt := by unfold dE Run.wt; split <;> omega
theorem vM (y : Yard) (k : Nat) : ((y.runs.take k).map dE).sum ≤ y.wt := by
 have h1 := aB0 (f := dE) (g := fun r : Run => r.wt) slotsR_le (y.runs.take k)
 have h2 := iO (fun r : Run => r.wt) y.runs k
 unfold Yard.wt wtL
 omega
theorem xT {y : Yard} {es : List Entry} {k : Nat} (hk : k < es.length) (h : (!fresh y es[k]) = true) : dG y (es.take (k + 1)) = dG y (es.take k) + 1 := by
 unfold dG; rw [List.take_succ_eq_append_getElem hk, List.filter_append, List.length_append]; simp [h]
theorem xU {y : Yard} {es : List Entry} {k : Nat} (hk : k < es.length) (h : (!fresh y es[k]) = false) : dG y (es.take (k + 1)) = dG y (es.take k) := by
 unfold dG; rw [List.take_succ_eq_append_getElem hk, List.filter_append, List.length_append]; simp [h]
theorem rQ (y : Yard) (es : List Entry) : dG y es ≤ es.length := List.length_filter_le _ _
theorem slotsE_app (y : Yard) (a b : List Entry) : dG y (a ++ b) = dG y a + dG y b := by unfold dG; rw [List.filter_append, List.length_append]
theorem xR {r : Run} (h : r.state = 1) : dE r = r.tasks.length := by unfold dE; rw [if_pos h]
theorem xS {r : Run} (h : ¬ r.state = 1) : dE r = 0 := by unfold dE; rw [if_neg h]
def uJ (id : Int) (task : Int) (e : Entry) : Bool := decide (e.run = id) && decide (e.task = task)
def fU (id task : Int) (es : List Entry) : Nat := (es.filter (uJ id task)).length
def pE (r : Run) (k : Nat) (es : List Entry) : Prop := ∀ h : k < r.tasks.length, ∀ e ∈ es, uJ r.id (k : Int) e = true → r.tasks[k].state = 2 → e.prio = r.plan.prio
def tK (now : Int) (r : Run) (es : List Entry) (k : Nat) : Prop := pE r k es ∧ ∀ h : k < r.tasks.length, (r.tasks[k].state = 2 → fU r.id (k : Int) es = 1) ∧ (r.tasks[k].state = 3 → now + 1 ≤ r.tasks[k].until_ ∧ r.tasks[k].until_ ≤ now + r.plan.wait)
noncomputable def fY (now : Int) (r : Run) (es : List Entry) : Bool := pB (∀ k, k < r.tasks.length → tK now r es k)
theorem xD {id task : Int} {es : List Entry} {k : Nat} (hk : k < es.length) (h : es[k].run = id ∧ es[k].task = task) : fU id task (es.take (k + 1)) = fU id task (es.take k) + 1 := by
 unfold fU; rw [List.take_succ_eq_append_getElem hk, List.filter_append, List.length_append]; simp [uJ, h]
theorem xE {id task : Int} {es : List Entry} {k : Nat} (hk : k < es.length) (h : ¬ (es[k].run = id ∧ es[k].task = task)) : fU id task (es.take (k + 1)) = fU id task (es.take k) := by
 have : uJ id task es[k] = false := by
  unfold uJ
  by_cases h1 : es[k].run = id
  ·have h2 : ¬ es[k].task = task := fun e => h ⟨h1, e⟩
   simp [h1, h2]
  ·simp [h1]
 unfold fU; rw [List.take_succ_eq_append_getElem hk, List.filter_append, List.length_append]; simp [this]
theorem lH (id task : Int) (es : List Entry) : fU id task es ≤ es.length := List.length_filter_le _ _
theorem gN {r : Run} {k : Nat} {es : List Entry} {i : Nat} (hi : i < es.length) (h : pE r k (es.take i)) (h1 : ∀ hk : k < r.tasks.length, es[i].run = r.id → es[i].task = (k : Int) → r.tasks[k].state = 2 → es[i].prio = r.plan.prio) : pE r k (es.take (i + 1)) := by
 intro hk e he hent hst
 rw [List.take_succ_eq_append_getElem hi] at he
 rcases List.mem_append.1 he with he | he
 ·exact h hk e he hent hst
 ·rw [List.mem_singleton] at he; subst he
  simp only [uJ, Bool.and_eq_true, decide_eq_true_eq] at hent
  exact h1 hk hent.1 hent.2 hst
theorem gM {now : Int} {r : Run} {es : List Entry} {k i : Nat} (hi : i = es.length) (hPr : pE r k (es.take i)) (h2 : ∀ h : k < r.tasks.length, (r.tasks[k].state = 2 → fU r.id (k : Int) (es.take i) = 1) ∧ (r.tasks[k].state = 3 → now + 1 ≤ r.tasks[k].until_ ∧ r.tasks[k].until_ ≤ now + r.plan.wait)) (hT : ∀ j, j < k → tK now r es j) : ∀ j, j < k + 1 → tK now r es j := by
 subst hi
 rw [List.take_length] at hPr h2
 intro j hj
 rcases Nat.lt_succ_iff_lt_or_eq.1 hj with h1 | rfl
 ·exact hT j h1
 ·exact ⟨hPr, h2⟩
theorem tU {r : Run} {k : Nat} {es : List Entry} {i : Nat} (hi : i < es.length) (hk : k < r.tasks.length) (h1 : es[i].run = r.id) (h2 : es[i].task = (k : Int)) (h3 : r.tasks[k].state = 2) (h4 : ¬ es[i].prio = r.plan.prio) : ¬ pE r k es := fun h => h4 (h hk _ (List.getElem_mem hi) (by simp [uJ, h1, h2]) h3)

theorem SlotsOfI (w : World) {y : Yard} {cs : List Value} {fp : List Nat} (hc : Shape.C w cs y fp) (hw : y.wt ≤ 1048576) :
  Calls Tryz.prog 100 #[.agg cs.toArray] w fun e w' => e = .returned (I (kD y)) ∧ St w w' [] := by
 have hyr : y.runs.length ≤ y.wt := by unfold Yard.wt wtL; omega
 have hys : y.shelf.length ≤ y.wt := by unfold Yard.wt wtL; omega
 have hfw := qV y
 refine cR Tryz.func100 rfl Tryz.ntmps100 aX (wp_seq (aA (sg (aJ (cs := cs) rfl (St.start w) ?_)))); intro b1 W2 hb3 st4
 refine sg (aC (v := I 0) rfl (aB (wp_seq (aA (sg (aC (v := I 0) rfl (aB (wp_seq (wp_seq (aA ?_))))))))))
 have hk11 := hc
 obtain ⟨v11_0, v11_1, g11_0, g11_1, rfl, hok11, h11_0, h11_1, rfl⟩ := hk11
 refine rn st4 4 Ag.nil.put.put.put.put [] [(9, v11_1), (10, I (y.runs.length : Int)), (11, I 0)] [qb 0 rfl 3, ql h11_1] aE fun f12 h12_ => (aB (wp_block (aY (fun (m : Nat) (f : Nat → Value) (W : World) => ∃ (k : Nat), k ≤ y.runs.length ∧ m = y.runs.length - k ∧ Ag [(1, .pointer (some ⟨b1, 0, none⟩)), (3, I ((((y.runs.take k).map dE).sum : Nat) : Int)), (9, v11_1), (10, I (y.runs.length : Int)), (11, I (k : Int))] f ∧ St w W ([Res.bx b1 [I y.now, I y.seq, v11_0, v11_1] 34])) (y.runs.length - 0) ?_ ?_)))
 ·exact ⟨0, aD, rfl, (h12_.to aE), st4⟩
 intro m13 f14 W15 hJ16
 obtain ⟨k, hk, rfl, hA18, st17⟩ := hJ16
 have hsl := vM y k
 refine wp_seq (aA (sg (bS (hA18.at 11) (hA18.at 10) (aB (wp_seq (aK rfl (fun h21p => ?_) (fun h21p => ?_)))))))
 ·refine wp_skip (wp_seq (wp_block (wp_seq (aA ?_))))
  have hi24e2d : k < y.runs.length := aD
  have hq_ := idx h11_1 (i := k) hi24e2d
  obtain ⟨b22, o22, cs22, f22, hp22, hr22, hc22, hm22⟩ := hq_
  refine sg (aN iY (hA18.at 9) hp22 (hA18.at 11) rfl (sg (dL eC rfl rfl hr22 st17.below (Shape.len hc22) (sg (aR jV st17 ?_))))); intro b25 W26 hb27 st28
  refine sgn (aO (cs := cs22) eC hc22 rfl rfl st28 rfl ?_); intro W30 st31
  refine aB (wp_seq (aA ?_))
  have hk33 := hc22
  obtain ⟨v33_0, v33_1, g33_0, g33_1, rfl, hok33, h33_0, h33_1, rfl⟩ := hk33
  refine rn st31 3 hA18.put.put.put.put [] [(17, .bool (decide ((y.runs[k]'hi24e2d).state = 1)))] [qb 0 rfl 6, .o] aE fun f34 h34_ => (aB (aK (h34_.at 17) (fun h35p => ?_) (fun h35p => ?_)))
  ·refine aA (rn st31 4 h34_ [] [(18, I ((((y.runs.take k).map dE).sum : Nat) : Int)), (21, I ((y.runs[k]'hi24e2d).tasks.length : Int))] [qb 0 rfl 7, ql h33_1] aE fun f37 h37_ => ?_)
   have hyk := jQ (y := y) (k := k) aD
   have hrw : (y.runs[k]'(by omega)).tasks.length ≤ (y.runs[k]'(by omega)).wt := by unfold Run.wt; omega
   refine sg (bY (h37_.at 18) (h37_.at 21) dX (sg (aC (v := I (((((y.runs.take k).map dE).sum : Nat) : Int) + ((y.runs[k]'hi24e2d).tasks.length : Int))) rfl (aB (aA (sg (bY (h37_.at 11) rfl dX (sg (aF (v := I ((k : Int) + 1)) rfl (aB ?_))))))))))
   exact ⟨_, y.runs.length - (k + 1), aD, rfl, k + 1, aD, rfl, (Ag.cons (h37_.at 1) (Ag.cons (Eq.trans (show _ = I (((((y.runs.take k).map dE).sum : Nat) : Int) + ((y.runs[k]'hi24e2d).tasks.length : Int)) from rfl) (congrArg I (by rw [pV dE y.runs k aD, xR h35p]; try omega))) (Ag.cons (h37_.at 9) (Ag.cons (h37_.at 10) (Ag.cons rfl Ag.nil))))), st31.f1.d1⟩
  ·refine wp_skip (aA (sg (bY (h34_.at 11) rfl dX (sg (aF (v := I ((k : Int) + 1)) rfl (aB ?_))))))
   exact ⟨_, y.runs.length - (k + 1), aD, rfl, k + 1, aD, rfl, (Ag.cons (h34_.at 1) (Ag.cons (Eq.trans (show _ = I ((((y.runs.take k).map dE).sum : Nat) : Int) from (h34_.at 3)) (congrArg I (by rw [pV dE y.runs k aD, xS h35p]; try omega))) (Ag.cons (h34_.at 9) (Ag.cons (h34_.at 10) (Ag.cons rfl Ag.nil))))), st31.f1.d1⟩
 ·refine wp_exit (wp_seq (wp_seq (aA (sg (aV (cs := [I y.now, I y.seq, v11_0, v11_1]) bM rfl (hA18.at 1) (st17.get 0 rfl) rfl rfl (sg (bF Tryz.func96 rfl rfl ((yU W15 (bA hc st17.below) aD).mono ?_)))))))); rintro _ W52 ⟨v50, fp50, rfl, hk53⟩; refine ⟨_, rfl, ?_⟩
  have st54 := St.call st17 hk53
  refine sg (fK sl_EntryS rfl (aI (st54.get 0 rfl)) (sg (aF (v := I 0) rfl (aB (wp_block (aY (fun (m : Nat) (f : Nat → Value) (W : World) => ∃ (i : Nat), i ≤ y.shelf.flatten.length ∧ m = y.shelf.flatten.length - i ∧ Ag [(1, .pointer (some ⟨b1, 0, none⟩)), (3, I (((((y.runs.take k).map dE).sum : Nat) : Int) + ((dG y (y.shelf.flatten.take i) : Nat) : Int))), (25, v50), (26, I ((y.shelf).flatten.length : Int)), (27, I (i : Int))] f ∧ St w W ([Res.own (α := List Entry) v50 (y.shelf).flatten fp50, Res.bx b1 [I y.now, I y.seq, v11_0, v11_1] 34])) (y.shelf.flatten.length - 0) ?_ ?_))))))
  ·exact ⟨0, aD, rfl, (Ag.cons (hA18.at 1) (Ag.cons (Eq.trans (show _ = I ((((y.runs.take k).map dE).sum : Nat) : Int) from (hA18.at 3)) (congrArg I (by simp [dG]))) (Ag.cons rfl (Ag.cons rfl (Ag.cons rfl Ag.nil))))), st54⟩
  intro m58 f59 W60 hJ61
  obtain ⟨i, hi, rfl, hA63, st62⟩ := hJ61
  have hse := rQ y (y.shelf.flatten.take i)
  have htl := List.length_take_le i y.shelf.flatten
  refine wp_seq (aA (sg (bS (hA63.at 27) (hA63.at 26) (aB (wp_seq (aK rfl (fun h66p => ?_) (fun h66p => ?_)))))))
  ·refine wp_skip (wp_seq (wp_block (wp_seq (aA ?_))))
   have hi11c32 : i < (y.shelf).flatten.length := aD
   have hq_ := idx (aI (st62.get 0 rfl)) (i := i) hi11c32
   obtain ⟨b67, o67, cs67, f67, hp67, hr67, hc67, hm67⟩ := hq_
   refine sg (aN sl_EntryS (hA63.at 25) hp67 (hA63.at 27) rfl (sg (dL dN rfl rfl hr67 (Below.refl _ _) (Shape.len hc67) (sg (aR gX st62 ?_))))); intro b70 W71 hb72 st73
   refine sgn (aO (cs := cs67) dN hc67 rfl rfl st73 rfl ?_); intro W75 st76
   refine aB (wp_seq (aA (rc st76 4 hA63.put.put.put.put [] [(34, .bool (!(fresh y ((y.shelf).flatten[i]'hi11c32))))] [qb 2 rfl 0, qw 0 rfl (Shape.len hc67), qc (args := [.agg #[I y.now, I y.seq, v11_0, v11_1], .agg cs67.toArray]) (v := .bool (fresh y ((y.shelf).flatten[i]'hi11c32))) Tryz.func165 rfl (fun W s b => aC5 W (bA hc s.below) hc67 aD), .o] aE fun f78 W79 h78_ st80 hb81 => (aB (cT (h78_.at 34) (fun h82 => ?_) (fun h82 => ?_))))))
   ·refine aA (rn st80 3 h78_ [3] [(3, I ((((((y.runs.take k).map dE).sum : Nat) : Int) + ((dG y (y.shelf.flatten.take i) : Nat) : Int)) + 1))] [qad (((((y.runs.take k).map dE).sum : Nat) : Int) + ((dG y (y.shelf.flatten.take i) : Nat) : Int)) 1] aE fun f84 h84_ => (aB (aA (sg (bY (h84_.at 27) rfl dX (sg (aF (v := I ((i : Int) + 1)) rfl (aB ?_))))))))
    exact ⟨_, y.shelf.flatten.length - (i + 1), aD, rfl, i + 1, aD, rfl, (Ag.cons (h84_.at 1) (Ag.cons (Eq.trans (show _ = I ((((((y.runs.take k).map dE).sum : Nat) : Int) + ((dG y (y.shelf.flatten.take i) : Nat) : Int)) + 1) from (h84_.at 3)) (congrArg I (by rw [xT aD h82]; try omega))) (Ag.cons (h84_.at 25) (Ag.cons (h84_.at 26) (Ag.cons rfl Ag.nil))))), st80.f2.f2.d2⟩
   ·refine wp_skip (aA (sg (bY (h78_.at 27) rfl dX (sg (aF (v := I ((i : Int) + 1)) rfl (aB ?_))))))
    exact ⟨_, y.shelf.flatten.length - (i + 1), aD, rfl, i + 1, aD, rfl, (Ag.cons (h78_.at 1) (Ag.cons (Eq.trans (show _ = I (((((y.runs.take k).map dE).sum : Nat) : Int) + ((dG y (y.shelf.flatten.take i) : Nat) : Int)) from (h78_.at 3)) (congrArg I (by rw [xU aD h82]; try omega))) (Ag.cons (h78_.at 25) (Ag.cons (h78_.at 26) (Ag.cons rfl Ag.nil))))), st80.f2.f2.d2⟩
  ·refine wp_exit (wp_seq (aA (sg (aF (v := I (((((y.runs.take k).map dE).sum : Nat) : Int) + ((dG y (y.shelf.flatten.take i) : Nat) : Int))) (hA63.at 3) (sg (aC (v := I (((((y.runs.take k).map dE).sum : Nat) : Int) + ((dG y (y.shelf.flatten.take i) : Nat) : Int))) rfl (aB (wr (aL Tryz.results100 rfl ?_)))))))))
   obtain rfl : k = y.runs.length := by omega
   obtain rfl : i = y.shelf.flatten.length := by omega
   exact ⟨(fI (by unfold kD; rw [List.take_length, List.take_length])), st62.bare⟩
theorem SlotsOfS (w : World) {y : Yard} {cs : List Value} {fp : List Nat} (hc : Shape.C w cs y fp) (hw : y.wt ≤ 1048576) :
  Calls Tryz.prog 93 #[.agg cs.toArray] w fun e w' => e = .returned (I (kD y)) ∧ St w w' [] := by
 have hyr : y.runs.length ≤ y.wt := by unfold Yard.wt wtL; omega
 have hys : y.shelf.length ≤ y.wt := by unfold Yard.wt wtL; omega
 have hfw := qV y
 refine cR Tryz.func93 rfl Tryz.ntmps93 aX (wp_seq (aA (sg (aJ (cs := cs) rfl (St.start w) ?_)))); intro b1 W2 hb3 st4
 refine sg (aC (v := I 0) rfl (aB (wp_seq (aA (sg (aC (v := I 0) rfl (aB (wp_seq (wp_seq (aA (sg (aC (v := I 0) rfl (aB (wp_block ?_))))))))))))))
 refine aY (fun (m : Nat) (f : Nat → Value) (W : World) => ∃ (k : Nat), k ≤ y.runs.length ∧ m = y.runs.length - k ∧ Ag [(1, .pointer (some ⟨b1, 0, none⟩)), (3, I ((((y.runs.take k).map dE).sum : Nat) : Int)), (4, I (k : Int))] f ∧ St w W ([Res.bx b1 cs 34])) (y.runs.length - 0) ?_ ?_
 ·exact ⟨0, aD, rfl, (Ag.nil.put.put.put.put.put.to aE), st4⟩
 intro m12 f13 W14 hJ15
 obtain ⟨k, hk, rfl, hA17, st16⟩ := hJ15
 have hsl := vM y k
 refine wp_seq (wp_seq (aA ?_))
 have hk19 := hc
 obtain ⟨v19_0, v19_1, g19_0, g19_1, rfl, hok19, h19_0, h19_1, rfl⟩ := hk19
 refine rn st16 5 hA17 [] [(11, .bool (decide ((k : Int) < (y.runs.length : Int))))] [qb 0 rfl 3, ql h19_1, .o] aE fun f20 h20_ => (aB (aK (h20_.at 11) (fun h21p => ?_) (fun h21p => ?_)))
 ·refine wp_skip (wp_seq (wp_block (wp_seq (aA ?_))))
  have hi24e2d : k < y.runs.length := aD
  have hq_ := idx h19_1 (i := k) hi24e2d
  obtain ⟨b23, o23, cs23, f23, hp23, hr23, hc23, hm23⟩ := hq_
  have hk24 := hc23
  obtain ⟨v24_0, v24_1, g24_0, g24_1, rfl, hok24, h24_0, h24_1, rfl⟩ := hk24
  refine rn st16 7 h20_ [] [(20, .bool (decide ((y.runs[k]'hi24e2d).state = 1)))] [qb 0 rfl 3, qx hp23, qr hr23 6, .o] aE fun f25 h25_ => (aB (aK (h25_.at 20) (fun h26p => ?_) (fun h26p => ?_)))
  ·refine aA (rn st16 8 h25_ [] [(21, I ((((y.runs.take k).map dE).sum : Nat) : Int)), (28, I ((y.runs[k]'hi24e2d).tasks.length : Int))] [qb 0 rfl 3, qx hp23, qr hr23 7, ql h24_1] aE fun f28 h28_ => ?_)
   have hyk := jQ (y := y) (k := k) aD
   have hrw : (y.runs[k]'(by omega)).tasks.length ≤ (y.runs[k]'(by omega)).wt := by unfold Run.wt; omega
   refine sg (bY (h28_.at 21) (h28_.at 28) dX (sg (aC (v := I (((((y.runs.take k).map dE).sum : Nat) : Int) + ((y.runs[k]'hi24e2d).tasks.length : Int))) rfl (aB (aA (rn st16 3 h28_.put.put [4] [(4, I ((k : Int) + 1))] [qad (k : Int) 1] aE fun f32 h32_ => (aB ?_)))))))
   exact ⟨_, y.runs.length - (k + 1), aD, rfl, k + 1, aD, rfl, (Ag.cons (h32_.at 1) (Ag.cons (Eq.trans (show _ = I (((((y.runs.take k).map dE).sum : Nat) : Int) + ((y.runs[k]'hi24e2d).tasks.length : Int)) from (h32_.at 3)) (congrArg I (by rw [pV dE y.runs k aD, xR h26p]; try omega))) (Ag.cons (h32_.at 4) Ag.nil))), st16⟩
  ·refine wp_skip (aA (rn st16 3 h25_ [4] [(4, I ((k : Int) + 1))] [qad (k : Int) 1] aE fun f34 h34_ => (aB ?_)))
   exact ⟨_, y.runs.length - (k + 1), aD, rfl, k + 1, aD, rfl, (Ag.cons (h34_.at 1) (Ag.cons (Eq.trans (show _ = I ((((y.runs.take k).map dE).sum : Nat) : Int) from (h34_.at 3)) (congrArg I (by rw [pV dE y.runs k aD, xS h26p]; try omega))) (Ag.cons (h34_.at 4) Ag.nil))), st16⟩
 ·refine wp_exit (wp_seq (wp_seq (aA (sg (aC (v := I 0) rfl (aB (wp_block (aY (fun (m : Nat) (f : Nat → Value) (W : World) => ∃ (i : Nat), i ≤ y.shelf.length ∧ m = y.shelf.length - i ∧ Ag [(1, .pointer (some ⟨b1, 0, none⟩)), (3, I (((((y.runs.take k).map dE).sum : Nat) : Int) + ((dG y (y.shelf.take i).flatten : Nat) : Int))), (5, I (i : Int))] f ∧ St w W ([Res.bx b1 [I y.now, I y.seq, v19_0, v19_1] 34])) (y.shelf.length - 0) ?_ ?_))))))))
  ·exact ⟨0, aD, rfl, (Ag.cons (h20_.at 1) (Ag.cons (Eq.trans (show _ = I ((((y.runs.take k).map dE).sum : Nat) : Int) from (h20_.at 3)) (congrArg I (by simp [dG]))) (Ag.cons rfl Ag.nil))), st16⟩
  intro m37 f38 W39 hJ40
  obtain ⟨i, hi, rfl, hA42, st41⟩ := hJ40
  have hse := rQ y (y.shelf.take i).flatten
  have hfi := qW y i
  refine wp_seq (wp_seq (aA (rn st41 5 hA42 [] [(34, .bool (decide ((i : Int) < (y.shelf.length : Int))))] [qb 0 rfl 2, ql h19_0, .o] aE fun f44 h44_ => (aB (aK (h44_.at 34) (fun h45p => ?_) (fun h45p => ?_))))))
  ·refine wp_skip (wp_seq (wp_block (wp_seq (aA (sg (aC (v := I 0) rfl (aB (wp_block (aY (fun (m : Nat) (f : Nat → Value) (W : World) => ∃ (j : Nat), i < y.shelf.length ∧ j ≤ (y.shelf[i]'(by omega)).length ∧ m = (y.shelf[i]'(by omega)).length - j ∧ Ag [(1, .pointer (some ⟨b1, 0, none⟩)), (3, I (((((y.runs.take k).map dE).sum : Nat) : Int) + ((dG y (y.shelf.take i).flatten : Nat) : Int) + ((dG y ((y.shelf[i]'(by omega)).take j) : Nat) : Int))), (5, I (i : Int)), (6, I (j : Int))] f ∧ St w W ([Res.bx b1 [I y.now, I y.seq, v19_0, v19_1] 34])) ((y.shelf[i]'(by omega)).length - 0) ?_ ?_)))))))))
   ·exact ⟨0, aD, aD, rfl, (Ag.cons (h44_.at 1) (Ag.cons (Eq.trans (show _ = I (((((y.runs.take k).map dE).sum : Nat) : Int) + ((dG y (y.shelf.take i).flatten : Nat) : Int)) from (h44_.at 3)) (congrArg I (by simp [dG]))) (Ag.cons (h44_.at 5) (Ag.cons rfl Ag.nil)))), st41⟩
   intro m48 f49 W50 hJ51
   obtain ⟨j, hi2, hj, rfl, hA53, st52⟩ := hJ51
   have hse2 := rQ y ((y.shelf[i]'(by omega)).take j)
   have htl := List.length_take_le j (y.shelf[i]'(by omega))
   have hfi2 := qW y (i + 1)
   rw [oG aD, List.length_append] at hfi2
   refine wp_seq (wp_seq (aA ?_))
   have hij : i ≤ y.shelf.length := by omega
   have hi41acd : i < y.shelf.length := aD
   have hq_ := idx h19_0 (i := i) hi41acd
   obtain ⟨b55, o55, cs55, f55, hp55, hr55, hc55, hm55⟩ := hq_
   have hk55 := hc55
   obtain ⟨v56, rfl, h57⟩ := hk55
   refine rn st52 8 hA53 [] [(44, .bool (decide ((j : Int) < ((y.shelf[i]'hi41acd).length : Int))))] [qb 0 rfl 2, qx hp55, qr hr55 0, ql h57, .o] aE fun f58 h58_ => (aB (aK (h58_.at 44) (fun h59p => ?_) (fun h59p => ?_)))
   ·refine wp_skip (wp_seq (wp_block (wp_seq ?_)))
    have hi8b643 : j < (y.shelf[i]'hi41acd).length := aD
    have hq_ := idx h57 (i := j) hi8b643
    obtain ⟨b61, o61, cs61, f61, hp61, hr61, hc61, hm61⟩ := hq_
    have hk62 := hc61
    obtain ⟨he62, rfl, hok62⟩ := hk62
    have he62 : _ = [I ((y.shelf[i]'hi41acd)[j]'hi8b643).prio, I ((y.shelf[i]'hi41acd)[j]'hi8b643).seq, I ((y.shelf[i]'hi41acd)[j]'hi8b643).run, I ((y.shelf[i]'hi41acd)[j]'hi8b643).task] := he62
    subst he62
    refine rd st52 h58_ [] [(57, .bool (!(fresh y ((y.shelf[i]'hi41acd)[j]'hi8b643))))] [qb 0 rfl 0, qb 0 rfl 2, qx hp55, qr hr55 0, qx hp61, qr hr61 0, qc (args := [.agg #[I y.now, I y.seq, v19_0, v19_1], .agg #[I ((y.shelf[i]'hi41acd)[j]'hi8b643).prio, I ((y.shelf[i]'hi41acd)[j]'hi8b643).seq, I ((y.shelf[i]'hi41acd)[j]'hi8b643).run, I ((y.shelf[i]'hi41acd)[j]'hi8b643).task]]) (v := .bool (fresh y ((y.shelf[i]'hi41acd)[j]'hi8b643))) Tryz.func158 rfl (fun W s b => aC4 W (bA hc s.below) hc61 aD), .o] aE aE fun f63 W64 h63_ st65 hb66 => (cT (h63_.at 57) (fun h67 => ?_) (fun h67 => ?_))
    ·refine aA (rn st65 3 h63_ [3] [(3, I ((((((y.runs.take k).map dE).sum : Nat) : Int) + ((dG y (y.shelf.take i).flatten : Nat) : Int) + ((dG y ((y.shelf[i]'(by omega)).take j) : Nat) : Int)) + 1))] [qad (((((y.runs.take k).map dE).sum : Nat) : Int) + ((dG y (y.shelf.take i).flatten : Nat) : Int) + ((dG y ((y.shelf[i]'(by omega)).take j) : Nat) : Int)) 1] aE fun f69 h69_ => (aB (aA (rn st65 3 h69_ [6] [(6, I ((j : Int) + 1))] [qad (j : Int) 1] aE fun f71 h71_ => (aB ?_)))))
     exact ⟨_, (y.shelf[i]'(by omega)).length - (j + 1), aD, rfl, j + 1, aD, aD, rfl, (Ag.cons (h71_.at 1) (Ag.cons (Eq.trans (show _ = I ((((((y.runs.take k).map dE).sum : Nat) : Int) + ((dG y (y.shelf.take i).flatten : Nat) : Int) + ((dG y ((y.shelf[i]'(by omega)).take j) : Nat) : Int)) + 1) from (h71_.at 3)) (congrArg I (by rw [xT aD h67]; try omega))) (Ag.cons (h71_.at 5) (Ag.cons (h71_.at 6) Ag.nil)))), st65⟩
    ·refine wp_skip (aA (rn st65 3 h63_ [6] [(6, I ((j : Int) + 1))] [qad (j : Int) 1] aE fun f73 h73_ => (aB ?_)))
     exact ⟨_, (y.shelf[i]'(by omega)).length - (j + 1), aD, rfl, j + 1, aD, aD, rfl, (Ag.cons (h73_.at 1) (Ag.cons (Eq.trans (show _ = I (((((y.runs.take k).map dE).sum : Nat) : Int) + ((dG y (y.shelf.take i).flatten : Nat) : Int) + ((dG y ((y.shelf[i]'(by omega)).take j) : Nat) : Int)) from (h73_.at 3)) (congrArg I (by rw [xU aD h67]; try omega))) (Ag.cons (h73_.at 5) (Ag.cons (h73_.at 6) Ag.nil)))), st65⟩
   ·refine wp_exit (aA (rn st52 3 h58_ [5] [(5, I ((i : Int) + 1))] [qad (i : Int) 1] aE fun f75 h75_ => (aB ?_)))
    exact ⟨_, y.shelf.length - (i + 1), aD, rfl, i + 1, aD, rfl, (Ag.cons (h75_.at 1) (Ag.cons (Eq.trans (show _ = I (((((y.runs.take k).map dE).sum : Nat) : Int) + ((dG y (y.shelf.take i).flatten : Nat) : Int) + ((dG y ((y.shelf[i]'(by omega)).take j) : Nat) : Int)) from (h75_.at 3)) (congrArg I (by rw [oG aD, slotsE_app, show j = (y.shelf[i]'(by omega)).length by omega, List.take_length]; omega))) (Ag.cons (h75_.at 5) Ag.nil))), st52⟩
  ·refine wp_exit (wp_seq (aA (sg (aF (v := I (((((y.runs.take k).map dE).sum : Nat) : Int) + ((dG y (y.shelf.take i).flatten : Nat) : Int))) (h44_.at 3) (sg (aC (v := I (((((y.runs.take k).map dE).sum : Nat) : Int) + ((dG y (y.shelf.take i).flatten : Nat) : Int))) rfl (aB (wr (aL Tryz.results93 rfl ?_)))))))))
   obtain rfl : k = y.runs.length := by omega
   obtain rfl : i = y.shelf.length := by omega
   exact ⟨(fI (by unfold kD; rw [List.take_length, List.take_length])), st41.bare⟩
theorem RunsOkI (w : World) {y : Yard} {cs : List Value} {fp : List Nat} (hc : Shape.C w cs y fp) {r : Run} {ds : List Value} {gp : List Nat} (hd : Shape.C w ds r gp) {v : Value} {es : List Entry} {fq : List Nat} (h : Sl w v es fq) (hn : 0 ≤ y.now ∧ y.now ≤ 999999980) (hwt : 0 ≤ r.plan.wait ∧ r.plan.wait ≤ 20) (hl : es.length ≤ 1048576) :
  Calls Tryz.prog 99 #[.agg cs.toArray, .agg ds.toArray, v] w fun e w' => e = .returned (.bool (fY y.now r es)) ∧ St w w' [] := by
 have hcap : r.tasks.length ≤ 9223372036854775807 := by have h0 := hd; obtain ⟨v1, v2, f1, f2, h0, hok, h1, h2, hfp⟩ := h0; exact h2.len_le
 have hcap2 := h.len_le
 refine jX Tryz.func99 rfl Tryz.ntmps99 aX (wp_seq (aA (sg (aJ (cs := cs) rfl (St.start w) ?_)))); intro b1 W2 hb3 st4
 refine sg (aJ (cs := ds) rfl st4 ?_); intro b6 W7 hb8 st9
 refine sg (aC (v := .bool false) rfl (aB (wp_seq (wp_seq (aA ?_)))))
 have hk14 := hd
 obtain ⟨v14_0, v14_1, g14_0, g14_1, rfl, hok14, h14_0, h14_1, rfl⟩ := hk14
 refine rn st9 4 Ag.nil.put.put.put.put.put.put [] [(13, v14_1), (14, I (r.tasks.length : Int)), (15, I 0)] [qb 0 rfl 7, ql h14_1] aE fun f15 h15_ => (aB (wp_block (aY (fun (m : Nat) (f : Nat → Value) (W : World) => ∃ (k : Nat), k ≤ r.tasks.length ∧ (∀ j, j < k → tK y.now r es j) ∧ m = r.tasks.length - k ∧ Ag [(2, v), (3, .pointer (some ⟨b1, 0, none⟩)), (4, .pointer (some ⟨b6, 0, none⟩)), (13, v14_1), (14, I (r.tasks.length : Int)), (15, I (k : Int))] f ∧ St w W ([Res.bx b6 [I r.id, I r.plan.prio, I r.plan.most, I r.plan.wait, I r.plan.tasks, v14_0, I r.state, v14_1] 123, Res.bx b1 cs 34])) (r.tasks.length - 0) ?_ ?_)))
 ·exact ⟨0, aD, (fun j hj => absurd hj (Nat.not_lt_zero j)), rfl, (h15_.to aE), st9⟩
 intro m16 f17 W18 hJ19
 obtain ⟨k, hk, hT, rfl, hA21, st20⟩ := hJ19
 refine wp_seq (aA (sg (bS (hA21.at 15) (hA21.at 14) (aB (wp_seq (aK rfl (fun h24p => ?_) (fun h24p => ?_)))))))
 ·refine wp_skip (wp_seq (wp_block (wp_seq (aA ?_))))
  have hif4d94 : k < r.tasks.length := aD
  have hq_ := idx h14_1 (i := k) hif4d94
  obtain ⟨b26, o26, cs26, f26, hp26, hr26, hc26, hm26⟩ := hq_
  refine rn st20 3 hA21.put [] [(17, I (k : Int)), (19, .agg cs26.toArray)] [qx hp26, qrw hr26 (Shape.len hc26)] aE fun f27 h27_ => (sg (aR kA st20 ?_)); intro b28 W29 hb30 st31
  refine sg (aC (v := I (k : Int)) (h27_.at 17) (sgn (aO (cs := cs26) kG hc26 rfl (h27_.at 19) st31 rfl ?_))); intro W35 st36
  refine aB (wp_seq (aA (sg (aC (v := I 0) rfl (aB (wp_seq (wp_seq (aA (rn st36 3 h27_.put.put.put [] [(20, v), (21, I (es.length : Int)), (22, I 0)] [ql h] aE fun f40 h40_ => (aB (wp_block (aY (fun (m : Nat) (f : Nat → Value) (W : World) => ∃ (i : Nat), k < r.tasks.length ∧ i ≤ es.length ∧ pE r k (es.take i) ∧ fU r.id (k : Int) (es.take i) ≤ i ∧ m = es.length - i ∧ Ag [(2, v), (3, .pointer (some ⟨b1, 0, none⟩)), (4, .pointer (some ⟨b6, 0, none⟩)), (7, I (k : Int)), (8, .pointer (some ⟨b28, 0, none⟩)), (9, I ((fU r.id (k : Int) (es.take i) : Nat) : Int)), (13, v14_1), (14, I (r.tasks.length : Int)), (15, I (k : Int)), (20, v), (21, I (es.length : Int)), (22, I (i : Int))] f ∧ St w W ([Res.bx b28 cs26 140, Res.bx b6 [I r.id, I r.plan.prio, I r.plan.most, I r.plan.wait, I r.plan.tasks, v14_0, I r.state, v14_1] 123, Res.bx b1 cs 34])) (es.length - 0) ?_ ?_))))))))))))
  ·exact ⟨0, aD, aD, (fun _ e he => by simp at he), (by simp [fU]), rfl, (Ag.cons (h40_.at 2) (Ag.cons (h40_.at 3) (Ag.cons (h40_.at 4) (Ag.cons (h40_.at 7) (Ag.cons (h40_.at 8) (Ag.cons (Eq.trans (show _ = I 0 from (h40_.at 9)) (congrArg I (by simp [fU]))) (Ag.cons (h40_.at 13) (Ag.cons (h40_.at 14) (Ag.cons (h40_.at 15) (Ag.cons (h40_.at 20) (Ag.cons (h40_.at 21) (Ag.cons (h40_.at 22) Ag.nil)))))))))))), st36⟩
  intro m41 f42 W43 hJ44
  obtain ⟨i, hk2, hi, hPr, hen, rfl, hA46, st45⟩ := hJ44
  refine wp_seq (aA (sg (bS (hA46.at 22) (hA46.at 21) (aB (wp_seq (aK rfl (fun h49p => ?_) (fun h49p => ?_)))))))
  ·refine wp_skip (wp_seq (wp_block (wp_seq (aA ?_))))
   have hif21f0 : i < es.length := aD
   have hq_ := idx h (i := i) hif21f0
   obtain ⟨b50, o50, cs50, f50, hp50, hr50, hc50, hm50⟩ := hq_
   refine sg (aN sl_EntryS (hA46.at 20) hp50 (hA46.at 22) rfl (sg (dL dN rfl rfl hr50 st45.below (Shape.len hc50) (sg (aR gX st45 ?_))))); intro b53 W54 hb55 st56
   refine sgn (aO (cs := cs50) dN hc50 rfl rfl st56 rfl ?_); intro W58 st59
   refine aB (wp_seq (aA ?_))
   have hk61 := hc50
   obtain ⟨he61, rfl, hok61⟩ := hk61
   have he61 : _ = [I (es[i]'hif21f0).prio, I (es[i]'hif21f0).seq, I (es[i]'hif21f0).run, I (es[i]'hif21f0).task] := he61
   subst he61
   rcases nem ((es[i]'hif21f0).run = r.id) with h62p | h62p
   ·have h62 := decide_eq_false h62p
    refine rn st59 11 hA46.put.put.put.put [] [(36, .bool false)] [qb 0 rfl 2, qb 2 rfl 0, qk h62] aE fun f63 h63_ => (aB (gK (h63_.at 36) rfl (wp_skip (aA (sg (bY (h63_.at 22) rfl dX (sg (aF (v := I ((i : Int) + 1)) rfl (aB ?_)))))))))
    exact ⟨_, es.length - (i + 1), aD, rfl, i + 1, aD, aD, (gN aD hPr (fun _ h1 h2 h3 => by omega)), (by exact Nat.le_trans (lH _ _ _) (List.length_take_le _ _)), rfl, (Ag.cons (h63_.at 2) (Ag.cons (h63_.at 3) (Ag.cons (h63_.at 4) (Ag.cons (h63_.at 7) (Ag.cons (h63_.at 8) (Ag.cons (Eq.trans (show _ = I ((fU r.id (k : Int) (es.take i) : Nat) : Int) from (h63_.at 9)) (congrArg I (by rw [xE aD (fun hz => by have hz1 := hz.1; have hz2 := hz.2; omega)]))) (Ag.cons (h63_.at 13) (Ag.cons (h63_.at 14) (Ag.cons (h63_.at 15) (Ag.cons (h63_.at 20) (Ag.cons (h63_.at 21) (Ag.cons rfl Ag.nil)))))))))))), st59.f3.f3.f3.d3⟩
   ·have h62 := decide_eq_true h62p
    refine rn st59 11 hA46.put.put.put.put [] [(36, .bool (decide ((es[i]'hif21f0).task = (k : Int))))] [qb 0 rfl 2, qb 2 rfl 0, qk h62, qb 0 rfl 3, .o] aE fun f70 h70_ => (aB (aK (h70_.at 36) (fun h71p => ?_) (fun h71p => ?_)))
    ·refine wp_seq (wp_seq (aA ?_))
     have hk73 := hc26
     obtain ⟨he73, rfl, hok73⟩ := hk73
     have he73 : _ = [I (r.tasks[k]'hif4d94).state, I (r.tasks[k]'hif4d94).need, I (r.tasks[k]'hif4d94).try_, I (r.tasks[k]'hif4d94).until_] := he73
     subst he73
     rcases nem ((r.tasks[k]'hif4d94).state = 2) with h74p | h74p
     ·have h74 := decide_eq_false h74p
      refine rn st59 11 h70_ [] [(47, .bool false)] [qb 1 rfl 0, qk h74] aE fun f75 h75_ => (aB (gK (h75_.at 47) rfl (wp_skip (aA (rn st59 3 h75_ [9] [(9, I (((fU r.id (k : Int) (es.take i) : Nat) : Int) + 1))] [qad ((fU r.id (k : Int) (es.take i) : Nat) : Int) 1] aE fun f77 h77_ => (aB (aA (sg (bY (h77_.at 22) rfl dX (sg (aF (v := I ((i : Int) + 1)) rfl (aB ?_))))))))))))
      exact ⟨_, es.length - (i + 1), aD, rfl, i + 1, aD, aD, (gN aD hPr (fun _ h1 h2 h3 => by omega)), (by exact Nat.le_trans (lH _ _ _) (List.length_take_le _ _)), rfl, (Ag.cons (h77_.at 2) (Ag.cons (h77_.at 3) (Ag.cons (h77_.at 4) (Ag.cons (h77_.at 7) (Ag.cons (h77_.at 8) (Ag.cons (Eq.trans (show _ = I (((fU r.id (k : Int) (es.take i) : Nat) : Int) + 1) from (h77_.at 9)) (congrArg I (by rw [xD aD ⟨by assumption, by assumption⟩]; omega))) (Ag.cons (h77_.at 13) (Ag.cons (h77_.at 14) (Ag.cons (h77_.at 15) (Ag.cons (h77_.at 20) (Ag.cons (h77_.at 21) (Ag.cons rfl Ag.nil)))))))))))), st59.f3.f3.f3.d3⟩
     ·have h74 := decide_eq_true h74p
      refine rn st59 11 h70_ [] [(47, .bool (!decide ((es[i]'hif21f0).prio = r.plan.prio)))] [qb 1 rfl 0, qk h74, qb 0 rfl 0, qb 2 rfl 1, .o] aE fun f84 h84_ => (aB (cB (h84_.at 47) (fun h85p => ?_) (fun h85p => ?_)))
      ·refine wp_seq (aA (sg (aC (v := .bool false) rfl (aB (wr (aL Tryz.results99 rfl ?_))))))
       exact ⟨(fB (by unfold fY; rw [cQ (fun hz => tU (i := i) (k := k) aD aD (by assumption) (by assumption) (by assumption) (by assumption) (hz k aD).1)])), st59.bare⟩
      ·refine wp_skip (aA (rn st59 3 h84_ [9] [(9, I (((fU r.id (k : Int) (es.take i) : Nat) : Int) + 1))] [qad ((fU r.id (k : Int) (es.take i) : Nat) : Int) 1] aE fun f89 h89_ => (aB (aA (sg (bY (h89_.at 22) rfl dX (sg (aF (v := I ((i : Int) + 1)) rfl (aB ?_)))))))))
       exact ⟨_, es.length - (i + 1), aD, rfl, i + 1, aD, aD, (gN aD hPr (fun _ h1 h2 h3 => by omega)), (by exact Nat.le_trans (lH _ _ _) (List.length_take_le _ _)), rfl, (Ag.cons (h89_.at 2) (Ag.cons (h89_.at 3) (Ag.cons (h89_.at 4) (Ag.cons (h89_.at 7) (Ag.cons (h89_.at 8) (Ag.cons (Eq.trans (show _ = I (((fU r.id (k : Int) (es.take i) : Nat) : Int) + 1) from (h89_.at 9)) (congrArg I (by rw [xD aD ⟨by assumption, by assumption⟩]; omega))) (Ag.cons (h89_.at 13) (Ag.cons (h89_.at 14) (Ag.cons (h89_.at 15) (Ag.cons (h89_.at 20) (Ag.cons (h89_.at 21) (Ag.cons rfl Ag.nil)))))))))))), st59.f3.f3.f3.d3⟩
    ·refine wp_skip (aA (sg (bY (h70_.at 22) rfl dX (sg (aF (v := I ((i : Int) + 1)) rfl (aB ?_))))))
     exact ⟨_, es.length - (i + 1), aD, rfl, i + 1, aD, aD, (gN aD hPr (fun _ h1 h2 h3 => by omega)), (by exact Nat.le_trans (lH _ _ _) (List.length_take_le _ _)), rfl, (Ag.cons (h70_.at 2) (Ag.cons (h70_.at 3) (Ag.cons (h70_.at 4) (Ag.cons (h70_.at 7) (Ag.cons (h70_.at 8) (Ag.cons (Eq.trans (show _ = I ((fU r.id (k : Int) (es.take i) : Nat) : Int) from (h70_.at 9)) (congrArg I (by rw [xE aD (fun hz => by have hz1 := hz.1; have hz2 := hz.2; omega)]))) (Ag.cons (h70_.at 13) (Ag.cons (h70_.at 14) (Ag.cons (h70_.at 15) (Ag.cons (h70_.at 20) (Ag.cons (h70_.at 21) (Ag.cons rfl Ag.nil)))))))))))), st59.f3.f3.f3.d3⟩
  ·refine wp_exit (wp_seq (aA ?_))
   have hk103 := hc26
   obtain ⟨he103, rfl, hok103⟩ := hk103
   have he103 : _ = [I (r.tasks[k]'hif4d94).state, I (r.tasks[k]'hif4d94).need, I (r.tasks[k]'hif4d94).try_, I (r.tasks[k]'hif4d94).until_] := he103
   subst he103
   rcases nem ((r.tasks[k]'hif4d94).state = 2) with h104p | h104p
   ·have h104 := decide_eq_false h104p
    rcases nem ((r.tasks[k]'hif4d94).state = 3) with h105p | h105p
    ·have h105 := decide_eq_false h105p
     refine rn st45 27 hA46.put [] [(77, .bool false)] [qb 0 rfl 0, qk h104, qb 0 rfl 0, qk h105] aE fun f106 h106_ => (aB (gK (h106_.at 77) rfl (wp_skip (aA (sg (bY (h106_.at 15) rfl dX (sg (aF (v := I ((k : Int) + 1)) rfl (aB ?_)))))))))
     exact ⟨_, r.tasks.length - (k + 1), aD, rfl, k + 1, aD, (gM aD hPr (fun _ => by omega) hT), rfl, (h106_.put.put.to aE), st45.f2.f2.d2⟩
    ·have h105 := decide_eq_true h105p
     have hk112 := hc
     obtain ⟨v112_0, v112_1, g112_0, g112_1, rfl, hok112, h112_0, h112_1, rfl⟩ := hk112
     refine rc st45 27 hA46.put [] [(77, .bool (!(inB (r.tasks[k]'hif4d94).until_ (y.now + 1) (y.now + r.plan.wait))))] [qb 0 rfl 0, qk h104, qb 0 rfl 0, qk h105, qb 0 rfl 3, qb 2 rfl 0, qad y.now 1, qb 2 rfl 0, qb 1 rfl 3, qad y.now r.plan.wait, qc (args := [I (r.tasks[k]'hif4d94).until_, I (y.now + 1), I (y.now + r.plan.wait)]) (v := .bool (inB (r.tasks[k]'hif4d94).until_ (y.now + 1) (y.now + r.plan.wait))) Tryz.func47 rfl (fun W s b => bZ W (r.tasks[k]'hif4d94).until_ (y.now + 1) (y.now + r.plan.wait)), .o] aE fun f113 W114 h113_ st115 hb116 => (aB (cT (h113_.at 77) (fun h117 => ?_) (fun h117 => ?_)))
     ·have h117p := cJ (aW h117)
      refine wp_seq (aA (sg (aC (v := .bool false) rfl (aB (wr (aL Tryz.results99 rfl ?_))))))
      have hent : fU r.id (k : Int) es = fU r.id (k : Int) (es.take i) := by rw [show i = es.length by omega, List.take_length]
      exact ⟨(fB (by unfold fY; rw [cQ (fun hz => by have hz2 := (hz k aD).2 aD; omega)])), st115.bare⟩
     ·have h117p := inB_iff'.1 (bG h117)
      refine wp_skip (aA (sg (bY (h113_.at 15) rfl dX (sg (aF (v := I ((k : Int) + 1)) rfl (aB ?_))))))
      exact ⟨_, r.tasks.length - (k + 1), aD, rfl, k + 1, aD, (gM aD hPr (fun _ => by omega) hT), rfl, (h113_.put.put.to aE), st115.f2.f2.d2⟩
   ·have h104 := decide_eq_true h104p
    rcases Decidable.em (((fU r.id (k : Int) (es.take i) : Nat) : Int) = 1) with h125p | h125p
    ·have h125 := gS h125p
     rcases nem ((r.tasks[k]'hif4d94).state = 3) with h126p | h126p
     ·have h126 := decide_eq_false h126p
      refine rn st45 27 hA46.put [] [(77, .bool false)] [qb 0 rfl 0, qk h104, qk h125, qb 0 rfl 0, qk h126] aE fun f127 h127_ => (aB (gK (h127_.at 77) rfl (wp_skip (aA (sg (bY (h127_.at 15) rfl dX (sg (aF (v := I ((k : Int) + 1)) rfl (aB ?_)))))))))
      exact ⟨_, r.tasks.length - (k + 1), aD, rfl, k + 1, aD, (gM aD hPr (fun _ => by omega) hT), rfl, (h127_.put.put.to aE), st45.f2.f2.d2⟩
     ·have h126 := decide_eq_true h126p
      have hk133 := hc
      obtain ⟨v133_0, v133_1, g133_0, g133_1, rfl, hok133, h133_0, h133_1, rfl⟩ := hk133
      refine rc st45 27 hA46.put [] [(77, .bool (!(inB (r.tasks[k]'hif4d94).until_ (y.now + 1) (y.now + r.plan.wait))))] [qb 0 rfl 0, qk h104, qk h125, qb 0 rfl 0, qk h126, qb 0 rfl 3, qb 2 rfl 0, qad y.now 1, qb 2 rfl 0, qb 1 rfl 3, qad y.now r.plan.wait, qc (args := [I (r.tasks[k]'hif4d94).until_, I (y.now + 1), I (y.now + r.plan.wait)]) (v := .bool (inB (r.tasks[k]'hif4d94).until_ (y.now + 1) (y.now + r.plan.wait))) Tryz.func47 rfl (fun W s b => bZ W (r.tasks[k]'hif4d94).until_ (y.now + 1) (y.now + r.plan.wait)), .o] aE fun f134 W135 h134_ st136 hb137 => (aB (cT (h134_.at 77) (fun h138 => ?_) (fun h138 => ?_)))
      ·have h138p := cJ (aW h138)
       refine wp_seq (aA (sg (aC (v := .bool false) rfl (aB (wr (aL Tryz.results99 rfl ?_))))))
       have hent : fU r.id (k : Int) es = fU r.id (k : Int) (es.take i) := by rw [show i = es.length by omega, List.take_length]
       exact ⟨(fB (by unfold fY; rw [cQ (fun hz => by have hz2 := (hz k aD).2 aD; omega)])), st136.bare⟩
      ·have h138p := inB_iff'.1 (bG h138)
       refine wp_skip (aA (sg (bY (h134_.at 15) rfl dX (sg (aF (v := I ((k : Int) + 1)) rfl (aB ?_))))))
       exact ⟨_, r.tasks.length - (k + 1), aD, rfl, k + 1, aD, (gM aD hPr (fun _ => by omega) hT), rfl, (h134_.put.put.to aE), st136.f2.f2.d2⟩
    ·have h125 := gR h125p
     refine rn st45 27 hA46.put [] [(77, .bool true)] [qb 0 rfl 0, qk h104, qk h125] aE fun f146 h146_ => (aB (fH (h146_.at 77) rfl (wp_seq (aA (sg (aC (v := .bool false) rfl (aB (wr (aL Tryz.results99 rfl ?_)))))))))
     have hent : fU r.id (k : Int) es = fU r.id (k : Int) (es.take i) := by rw [show i = es.length by omega, List.take_length]
     exact ⟨(fB (by unfold fY; rw [cQ (fun hz => by have hz2 := (hz k aD).2 aD; omega)])), st45.bare⟩
 ·refine wp_exit (wp_seq (aA (sg (aC (v := .bool true) rfl (aB (wr (aL Tryz.results99 rfl ?_)))))))
  exact ⟨(fB (by unfold fY; rw [gG (fun j hj => hT j aD)])), st20.bare⟩
theorem RunsOkS (w : World) {y : Yard} {cs : List Value} {fp : List Nat} (hc : Shape.C w cs y fp) {r : Run} {ds : List Value} {gp : List Nat} (hd : Shape.C w ds r gp) {v : Value} {es : List Entry} {fq : List Nat} (h : Sl w v es fq) (hn : 0 ≤ y.now ∧ y.now ≤ 999999980) (hwt : 0 ≤ r.plan.wait ∧ r.plan.wait ≤ 20) (hl : es.length ≤ 1048576) :
  Calls Tryz.prog 92 #[.agg cs.toArray, .agg ds.toArray, v] w fun e w' => e = .returned (.bool (fY y.now r es)) ∧ St w w' [] := by
 have hcap : r.tasks.length ≤ 9223372036854775807 := by have h0 := hd; obtain ⟨v1, v2, f1, f2, h0, hok, h1, h2, hfp⟩ := h0; exact h2.len_le
 have hcap2 := h.len_le
 refine jX Tryz.func92 rfl Tryz.ntmps92 aX (wp_seq (aA (sg (aJ (cs := cs) rfl (St.start w) ?_)))); intro b1 W2 hb3 st4
 refine sg (aJ (cs := ds) rfl st4 ?_); intro b6 W7 hb8 st9
 refine sg (aC (v := .bool false) rfl (aB (wp_seq (wp_seq (aA (sg (aC (v := I 0) rfl (aB (wp_block (aY (fun (m : Nat) (f : Nat → Value) (W : World) => ∃ (k : Nat), k ≤ r.tasks.length ∧ (∀ j, j < k → tK y.now r es j) ∧ m = r.tasks.length - k ∧ Ag [(2, v), (3, .pointer (some ⟨b1, 0, none⟩)), (4, .pointer (some ⟨b6, 0, none⟩)), (7, I (k : Int))] f ∧ St w W ([Res.bx b6 ds 123, Res.bx b1 cs 34])) (r.tasks.length - 0) ?_ ?_))))))))))
 ·exact ⟨0, aD, (fun j hj => absurd hj (Nat.not_lt_zero j)), rfl, (Ag.nil.put.put.put.put.put.put.put.to aE), st9⟩
 intro m15 f16 W17 hJ18
 obtain ⟨k, hk, hT, rfl, hA20, st19⟩ := hJ18
 refine wp_seq (wp_seq (aA ?_))
 have hk22 := hd
 obtain ⟨v22_0, v22_1, g22_0, g22_1, rfl, hok22, h22_0, h22_1, rfl⟩ := hk22
 refine rn st19 5 hA20 [] [(14, .bool (decide ((k : Int) < (r.tasks.length : Int))))] [qb 0 rfl 7, ql h22_1, .o] aE fun f23 h23_ => (aB (aK (h23_.at 14) (fun h24p => ?_) (fun h24p => ?_)))
 ·refine wp_skip (wp_seq (wp_block (wp_seq (aA (sg (aC (v := I 0) rfl (aB (wp_seq (wp_seq (aA (sg (aC (v := I 0) rfl (aB ?_)))))))))))))
  refine wp_block (aY (fun (m : Nat) (f : Nat → Value) (W : World) => ∃ (i : Nat), k < r.tasks.length ∧ i ≤ es.length ∧ pE r k (es.take i) ∧ fU r.id (k : Int) (es.take i) ≤ i ∧ m = es.length - i ∧ Ag [(2, v), (3, .pointer (some ⟨b1, 0, none⟩)), (4, .pointer (some ⟨b6, 0, none⟩)), (7, I (k : Int)), (8, I ((fU r.id (k : Int) (es.take i) : Nat) : Int)), (9, I (i : Int))] f ∧ St w W ([Res.bx b6 [I r.id, I r.plan.prio, I r.plan.most, I r.plan.wait, I r.plan.tasks, v22_0, I r.state, v22_1] 123, Res.bx b1 cs 34])) (es.length - 0) ?_ ?_)
  ·exact ⟨0, aD, aD, (fun _ e he => by simp at he), (by simp [fU]), rfl, (Ag.cons (h23_.at 2) (Ag.cons (h23_.at 3) (Ag.cons (h23_.at 4) (Ag.cons (h23_.at 7) (Ag.cons (Eq.trans (show _ = I 0 from rfl) (congrArg I (by simp [fU]))) (Ag.cons rfl Ag.nil)))))), st19⟩
  intro m29 f30 W31 hJ32
  obtain ⟨i, hk2, hi, hPr, hen, rfl, hA34, st33⟩ := hJ32
  refine wp_seq (wp_seq (aA (rn st33 4 hA34 [] [(20, .bool (decide ((i : Int) < (es.length : Int))))] [ql h, .o] aE fun f36 h36_ => (aB (aK (h36_.at 20) (fun h37p => ?_) (fun h37p => ?_))))))
  ·refine wp_skip (wp_seq (wp_block (wp_seq ?_)))
   have hif21f0 : i < es.length := aD
   rcases nem ((es[i]'hif21f0).run = r.id) with h41p | h41p
   ·have h41 := decide_eq_false h41p
    have hif21f0 : i < es.length := aD
    have hq_ := idx h (i := i) hif21f0
    obtain ⟨b43, o43, cs43, f43, hp43, hr43, hc43, hm43⟩ := hq_
    have hk44 := hc43
    obtain ⟨he44, rfl, hok44⟩ := hk44
    have he44 : _ = [I (es[i]'hif21f0).prio, I (es[i]'hif21f0).seq, I (es[i]'hif21f0).run, I (es[i]'hif21f0).task] := he44
    subst he44
    refine rd st33 h36_ [] [(39, .bool false)] [qx hp43, qr hr43 2, qb 0 rfl 0, qk h41] aE aE fun f45 W46 h45_ st47 hb48 => (gK (h45_.at 39) rfl (wp_skip (aA (rn st47 3 h45_ [9] [(9, I ((i : Int) + 1))] [qad (i : Int) 1] aE fun f50 h50_ => (aB ?_)))))
    exact ⟨_, es.length - (i + 1), aD, rfl, i + 1, aD, aD, (gN aD hPr (fun _ h1 h2 h3 => by omega)), (by exact Nat.le_trans (lH _ _ _) (List.length_take_le _ _)), rfl, (Ag.cons (h50_.at 2) (Ag.cons (h50_.at 3) (Ag.cons (h50_.at 4) (Ag.cons (h50_.at 7) (Ag.cons (Eq.trans (show _ = I ((fU r.id (k : Int) (es.take i) : Nat) : Int) from (h50_.at 8)) (congrArg I (by rw [xE aD (fun hz => by have hz1 := hz.1; have hz2 := hz.2; omega)]))) (Ag.cons (h50_.at 9) Ag.nil)))))), st47⟩
   ·have h41 := decide_eq_true h41p
    have hif21f0 : i < es.length := aD
    have hq_ := idx h (i := i) hif21f0
    obtain ⟨b52, o52, cs52, f52, hp52, hr52, hc52, hm52⟩ := hq_
    have hk53 := hc52
    obtain ⟨he53, rfl, hok53⟩ := hk53
    have he53 : _ = [I (es[i]'hif21f0).prio, I (es[i]'hif21f0).seq, I (es[i]'hif21f0).run, I (es[i]'hif21f0).task] := he53
    subst he53
    refine rd st33 h36_ [] [(39, .bool (decide ((es[i]'hif21f0).task = (k : Int))))] [qx hp52, qr hr52 2, qb 0 rfl 0, qk h41, qx hp52, qr hr52 3, .o] aE aE fun f54 W55 h54_ st56 hb57 => (aK (h54_.at 39) (fun h58p => ?_) (fun h58p => ?_))
    ·refine wp_seq (aA (rn st56 3 h54_ [8] [(8, I (((fU r.id (k : Int) (es.take i) : Nat) : Int) + 1))] [qad ((fU r.id (k : Int) (es.take i) : Nat) : Int) 1] aE fun f60 h60_ => (aB (wp_seq ?_))))
     have hif4d94 : k < r.tasks.length := aD
     rcases nem ((r.tasks[k]'hif4d94).state = 2) with h64p | h64p
     ·have h64 := decide_eq_false h64p
      have hif4d94 : k < r.tasks.length := aD
      have hq_ := idx h22_1 (i := k) hif4d94
      obtain ⟨b66, o66, cs66, f66, hp66, hr66, hc66, hm66⟩ := hq_
      have hk67 := hc66
      obtain ⟨he67, rfl, hok67⟩ := hk67
      have he67 : _ = [I (r.tasks[k]'hif4d94).state, I (r.tasks[k]'hif4d94).need, I (r.tasks[k]'hif4d94).try_, I (r.tasks[k]'hif4d94).until_] := he67
      subst he67
      refine rd st56 h60_ [] [(59, .bool false)] [qb 0 rfl 7, qx hp66, qr hr66 0, qk h64] aE aE fun f68 W69 h68_ st70 hb71 => (gK (h68_.at 59) rfl (wp_skip (aA (rn st70 3 h68_ [9] [(9, I ((i : Int) + 1))] [qad (i : Int) 1] aE fun f73 h73_ => (aB ?_)))))
      exact ⟨_, es.length - (i + 1), aD, rfl, i + 1, aD, aD, (gN aD hPr (fun _ h1 h2 h3 => by omega)), (by exact Nat.le_trans (lH _ _ _) (List.length_take_le _ _)), rfl, (Ag.cons (h73_.at 2) (Ag.cons (h73_.at 3) (Ag.cons (h73_.at 4) (Ag.cons (h73_.at 7) (Ag.cons (Eq.trans (show _ = I (((fU r.id (k : Int) (es.take i) : Nat) : Int) + 1) from (h73_.at 8)) (congrArg I (by rw [xD aD ⟨by assumption, by assumption⟩]; omega))) (Ag.cons (h73_.at 9) Ag.nil)))))), st70⟩
     ·have h64 := decide_eq_true h64p
      have hif4d94 : k < r.tasks.length := aD
      have hq_ := idx h22_1 (i := k) hif4d94
      obtain ⟨b75, o75, cs75, f75, hp75, hr75, hc75, hm75⟩ := hq_
      have hk76 := hc75
      obtain ⟨he76, rfl, hok76⟩ := hk76
      have he76 : _ = [I (r.tasks[k]'hif4d94).state, I (r.tasks[k]'hif4d94).need, I (r.tasks[k]'hif4d94).try_, I (r.tasks[k]'hif4d94).until_] := he76
      subst he76
      refine rd st56 h60_ [] [(59, .bool (!decide ((es[i]'hif21f0).prio = r.plan.prio)))] [qb 0 rfl 7, qx hp75, qr hr75 0, qk h64, qx hp52, qr hr52 0, qb 0 rfl 1, .o] aE aE fun f77 W78 h77_ st79 hb80 => (cB (h77_.at 59) (fun h81p => ?_) (fun h81p => ?_))
      ·refine wp_seq (aA (sg (aC (v := .bool false) rfl (aB (wr (aL Tryz.results92 rfl ?_))))))
       exact ⟨(fB (by unfold fY; rw [cQ (fun hz => tU (i := i) (k := k) aD aD (by assumption) (by assumption) (by assumption) (by assumption) (hz k aD).1)])), st79.bare⟩
      ·refine wp_skip (aA (rn st79 3 h77_ [9] [(9, I ((i : Int) + 1))] [qad (i : Int) 1] aE fun f85 h85_ => (aB ?_)))
       exact ⟨_, es.length - (i + 1), aD, rfl, i + 1, aD, aD, (gN aD hPr (fun _ h1 h2 h3 => by omega)), (by exact Nat.le_trans (lH _ _ _) (List.length_take_le _ _)), rfl, (Ag.cons (h85_.at 2) (Ag.cons (h85_.at 3) (Ag.cons (h85_.at 4) (Ag.cons (h85_.at 7) (Ag.cons (Eq.trans (show _ = I (((fU r.id (k : Int) (es.take i) : Nat) : Int) + 1) from (h85_.at 8)) (congrArg I (by rw [xD aD ⟨by assumption, by assumption⟩]; omega))) (Ag.cons (h85_.at 9) Ag.nil)))))), st79⟩
    ·refine wp_skip (aA (rn st56 3 h54_ [9] [(9, I ((i : Int) + 1))] [qad (i : Int) 1] aE fun f87 h87_ => (aB ?_)))
     exact ⟨_, es.length - (i + 1), aD, rfl, i + 1, aD, aD, (gN aD hPr (fun _ h1 h2 h3 => by omega)), (by exact Nat.le_trans (lH _ _ _) (List.length_take_le _ _)), rfl, (Ag.cons (h87_.at 2) (Ag.cons (h87_.at 3) (Ag.cons (h87_.at 4) (Ag.cons (h87_.at 7) (Ag.cons (Eq.trans (show _ = I ((fU r.id (k : Int) (es.take i) : Nat) : Int) from (h87_.at 8)) (congrArg I (by rw [xE aD (fun hz => by have hz1 := hz.1; have hz2 := hz.2; omega)]))) (Ag.cons (h87_.at 9) Ag.nil)))))), st56⟩
  ·refine wp_exit (wp_seq ?_)
   have hif4d94 : k < r.tasks.length := aD
   rcases nem ((r.tasks[k]'hif4d94).state = 2) with h91p | h91p
   ·have h91 := decide_eq_false h91p
    have hif4d94 : k < r.tasks.length := aD
    rcases nem ((r.tasks[k]'hif4d94).state = 3) with h95p | h95p
    ·have h95 := decide_eq_false h95p
     have hif4d94 : k < r.tasks.length := aD
     have hq_ := idx h22_1 (i := k) hif4d94
     obtain ⟨b97, o97, cs97, f97, hp97, hr97, hc97, hm97⟩ := hq_
     have hk98 := hc97
     obtain ⟨he98, rfl, hok98⟩ := hk98
     have he98 : _ = [I (r.tasks[k]'hif4d94).state, I (r.tasks[k]'hif4d94).need, I (r.tasks[k]'hif4d94).try_, I (r.tasks[k]'hif4d94).until_] := he98
     subst he98
     refine rd st33 h36_ [] [(98, .bool false)] [qb 0 rfl 7, qx hp97, qr hr97 0, qk h91, qb 0 rfl 7, qx hp97, qr hr97 0, qk h95] aE aE fun f99 W100 h99_ st101 hb102 => (gK (h99_.at 98) rfl (wp_skip (aA (rn st101 3 h99_ [7] [(7, I ((k : Int) + 1))] [qad (k : Int) 1] aE fun f104 h104_ => (aB ?_)))))
     exact ⟨_, r.tasks.length - (k + 1), aD, rfl, k + 1, aD, (gM aD hPr (fun _ => by omega) hT), rfl, (h104_.to aE), st101⟩
    ·have h95 := decide_eq_true h95p
     have hif4d94 : k < r.tasks.length := aD
     have hq_ := idx h22_1 (i := k) hif4d94
     obtain ⟨b106, o106, cs106, f106, hp106, hr106, hc106, hm106⟩ := hq_
     have hk107 := hc106
     obtain ⟨he107, rfl, hok107⟩ := hk107
     have he107 : _ = [I (r.tasks[k]'hif4d94).state, I (r.tasks[k]'hif4d94).need, I (r.tasks[k]'hif4d94).try_, I (r.tasks[k]'hif4d94).until_] := he107
     subst he107
     have hk108 := hc
     obtain ⟨v108_0, v108_1, g108_0, g108_1, rfl, hok108, h108_0, h108_1, rfl⟩ := hk108
     refine rd st33 h36_ [] [(98, .bool (!(inB (r.tasks[k]'hif4d94).until_ (y.now + 1) (y.now + r.plan.wait))))] [qb 0 rfl 7, qx hp106, qr hr106 0, qk h91, qb 0 rfl 7, qx hp106, qr hr106 0, qk h95, qb 0 rfl 7, qx hp106, qr hr106 3, qb 1 rfl 0, qad y.now 1, qb 1 rfl 0, qb 0 rfl 3, qad y.now r.plan.wait, qc (args := [I (r.tasks[k]'hif4d94).until_, I (y.now + 1), I (y.now + r.plan.wait)]) (v := .bool (inB (r.tasks[k]'hif4d94).until_ (y.now + 1) (y.now + r.plan.wait))) Tryz.func43 rfl (fun W s b => cN W (r.tasks[k]'hif4d94).until_ (y.now + 1) (y.now + r.plan.wait)), .o] aE aE fun f109 W110 h109_ st111 hb112 => (cT (h109_.at 98) (fun h113 => ?_) (fun h113 => ?_))
     ·have h113p := cJ (aW h113)
      refine wp_seq (aA (sg (aC (v := .bool false) rfl (aB (wr (aL Tryz.results92 rfl ?_))))))
      have hent : fU r.id (k : Int) es = fU r.id (k : Int) (es.take i) := by rw [show i = es.length by omega, List.take_length]
      exact ⟨(fB (by unfold fY; rw [cQ (fun hz => by have hz2 := (hz k aD).2 aD; omega)])), st111.bare⟩
     ·have h113p := inB_iff'.1 (bG h113)
      refine wp_skip (aA (rn st111 3 h109_ [7] [(7, I ((k : Int) + 1))] [qad (k : Int) 1] aE fun f117 h117_ => (aB ?_)))
      exact ⟨_, r.tasks.length - (k + 1), aD, rfl, k + 1, aD, (gM aD hPr (fun _ => by omega) hT), rfl, (h117_.to aE), st111⟩
   ·have h91 := decide_eq_true h91p
    rcases Decidable.em (((fU r.id (k : Int) (es.take i) : Nat) : Int) = 1) with h121p | h121p
    ·have h121 := gS h121p
     have hif4d94 : k < r.tasks.length := aD
     rcases nem ((r.tasks[k]'hif4d94).state = 3) with h125p | h125p
     ·have h125 := decide_eq_false h125p
      have hif4d94 : k < r.tasks.length := aD
      have hq_ := idx h22_1 (i := k) hif4d94
      obtain ⟨b127, o127, cs127, f127, hp127, hr127, hc127, hm127⟩ := hq_
      have hk128 := hc127
      obtain ⟨he128, rfl, hok128⟩ := hk128
      have he128 : _ = [I (r.tasks[k]'hif4d94).state, I (r.tasks[k]'hif4d94).need, I (r.tasks[k]'hif4d94).try_, I (r.tasks[k]'hif4d94).until_] := he128
      subst he128
      refine rd st33 h36_ [] [(98, .bool false)] [qb 0 rfl 7, qx hp127, qr hr127 0, qk h91, qk h121, qb 0 rfl 7, qx hp127, qr hr127 0, qk h125] aE aE fun f129 W130 h129_ st131 hb132 => (gK (h129_.at 98) rfl (wp_skip (aA (rn st131 3 h129_ [7] [(7, I ((k : Int) + 1))] [qad (k : Int) 1] aE fun f134 h134_ => (aB ?_)))))
      exact ⟨_, r.tasks.length - (k + 1), aD, rfl, k + 1, aD, (gM aD hPr (fun _ => by omega) hT), rfl, (h134_.to aE), st131⟩
     ·have h125 := decide_eq_true h125p
      have hif4d94 : k < r.tasks.length := aD
      have hq_ := idx h22_1 (i := k) hif4d94
      obtain ⟨b136, o136, cs136, f136, hp136, hr136, hc136, hm136⟩ := hq_
      have hk137 := hc136
      obtain ⟨he137, rfl, hok137⟩ := hk137
      have he137 : _ = [I (r.tasks[k]'hif4d94).state, I (r.tasks[k]'hif4d94).need, I (r.tasks[k]'hif4d94).try_, I (r.tasks[k]'hif4d94).until_] := he137
      subst he137
      have hk138 := hc
      obtain ⟨v138_0, v138_1, g138_0, g138_1, rfl, hok138, h138_0, h138_1, rfl⟩ := hk138
      refine rd st33 h36_ [] [(98, .bool (!(inB (r.tasks[k]'hif4d94).until_ (y.now + 1) (y.now + r.plan.wait))))] [qb 0 rfl 7, qx hp136, qr hr136 0, qk h91, qk h121, qb 0 rfl 7, qx hp136, qr hr136 0, qk h125, qb 0 rfl 7, qx hp136, qr hr136 3, qb 1 rfl 0, qad y.now 1, qb 1 rfl 0, qb 0 rfl 3, qad y.now r.plan.wait, qc (args := [I (r.tasks[k]'hif4d94).until_, I (y.now + 1), I (y.now + r.plan.wait)]) (v := .bool (inB (r.tasks[k]'hif4d94).until_ (y.now + 1) (y.now + r.plan.wait))) Tryz.func43 rfl (fun W s b => cN W (r.tasks[k]'hif4d94).until_ (y.now + 1) (y.now + r.plan.wait)), .o] aE aE fun f139 W140 h139_ st141 hb142 => (cT (h139_.at 98) (fun h143 => ?_) (fun h143 => ?_))
      ·have h143p := cJ (aW h143)
       refine wp_seq (aA (sg (aC (v := .bool false) rfl (aB (wr (aL Tryz.results92 rfl ?_))))))
       have hent : fU r.id (k : Int) es = fU r.id (k : Int) (es.take i) := by rw [show i = es.length by omega, List.take_length]
       exact ⟨(fB (by unfold fY; rw [cQ (fun hz => by have hz2 := (hz k aD).2 aD; omega)])), st141.bare⟩
      ·have h143p := inB_iff'.1 (bG h143)
       refine wp_skip (aA (rn st141 3 h139_ [7] [(7, I ((k : Int) + 1))] [qad (k : Int) 1] aE fun f147 h147_ => (aB ?_)))
       exact ⟨_, r.tasks.length - (k + 1), aD, rfl, k + 1, aD, (gM aD hPr (fun _ => by omega) hT), rfl, (h147_.to aE), st141⟩
    ·have h121 := gR h121p
     have hif4d94 : k < r.tasks.length := aD
     have hq_ := idx h22_1 (i := k) hif4d94
     obtain ⟨b149, o149, cs149, f149, hp149, hr149, hc149, hm149⟩ := hq_
     have hk150 := hc149
     obtain ⟨he150, rfl, hok150⟩ := hk150
     have he150 : _ = [I (r.tasks[k]'hif4d94).state, I (r.tasks[k]'hif4d94).need, I (r.tasks[k]'hif4d94).try_, I (r.tasks[k]'hif4d94).until_] := he150
     subst he150
     refine rd st33 h36_ [] [(98, .bool true)] [qb 0 rfl 7, qx hp149, qr hr149 0, qk h91, qk h121] aE aE fun f151 W152 h151_ st153 hb154 => (fH (h151_.at 98) rfl (wp_seq (aA (sg (aC (v := .bool false) rfl (aB (wr (aL Tryz.results92 rfl ?_))))))))
     have hent : fU r.id (k : Int) es = fU r.id (k : Int) (es.take i) := by rw [show i = es.length by omega, List.take_length]
     exact ⟨(fB (by unfold fY; rw [cQ (fun hz => by have hz2 := (hz k aD).2 aD; omega)])), st153.bare⟩
 ·refine wp_exit (wp_seq (aA (sg (aC (v := .bool true) rfl (aB (wr (aL Tryz.results92 rfl ?_)))))))
  exact ⟨(fB (by unfold fY; rw [gG (fun j hj => hT j aD)])), st19.bare⟩
end Go.Proofs.YtchnllpegfbleaaGreat
