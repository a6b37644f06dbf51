/-
  The laws' marks, walked.
  The law on WorkOff, walked.
  What is handed to a law, taken out of the row's reading: it is data in memory, as the walks want it.
  A law's arguments, taken out of the row's reading.
-/
import Derived.ProofKit
import Derived.OpenShut
import Derived.Test.YtchnllpegfbleaaGreatQ01
import Derived.Test.YtchnllpegfbleaaGreatQ02
import Derived.Test.YtchnllpegfbleaaGreatQ03
import Derived.Test.YtchnllpegfbleaaGreatQ06
namespace Go.Proofs.YtchnllpegfbleaaGreat
set_option linter.unusedSimpArgs false
set_option linter.unusedVariables false
set_option maxRecDepth 100000
set_option maxHeartbeats 2000000
open Go.RowKit
theorem markIntS_n {w W0 : World} {rs : List Res} {v : Value} {xs : List Int} {fp : List Nat} (hst : St w W0 (Res.own v xs fp :: rs)) (k : Int) (h0 : 0 ≤ k) (hk : k + (cL neI xs : Nat) ≤ 4611686018427387904) :
  Calls Tryz.prog 31 #[v, I k] W0 fun e w' => ∃ fp', e = .returned (I (k + (cL neI xs : Nat))) ∧ St w w' (Res.own v (mkL mkI neI xs k) fp' :: rs) := by
 have hcap := (aI (hst.get 0 rfl)).len_le
 refine bR Tryz.func31 rfl Tryz.ntmps31 aX (wp_seq (aA (sg (aC (v := I 0) rfl (aB (wp_seq (wp_seq (aA (sg (aC (v := I 0) rfl (aB (wp_block (aY (fun (m : Nat) (f : Nat → Value) (W : World) => ∃ (i : Nat) (K : Int) (fo5 : List Nat), i ≤ xs.length ∧ K = k + (cL neI (xs.take i) : Nat) ∧ m = xs.length - i ∧ Ag [(0, v), (1, I K), (5, I (i : Int))] f ∧ St w W (Res.own (α := List Int) v (mkL mkI neI (xs.take i) k ++ xs.drop i) fo5 :: rs)) (xs.length - 0) ?_ ?_)))))))))))))
 ·exact ⟨0, k, fp, Nat.zero_le _, (by simp [cL]), rfl, (Ag.nil.put.put.put.put.to aE), (by simpa [mkL] using hst)⟩
 intro m6 f7 W8 hJ9
 obtain ⟨i, K, fo5, hi, hK, rfl, hA11, st10⟩ := hJ9
 have hlx : (mkL mkI neI (xs.take i) k ++ xs.drop i).length = xs.length := by rw [List.length_append, eQ, List.length_take, List.length_drop]; omega
 refine wp_seq (wp_seq (aA (rn st10 4 hA11 [] [(9, .bool (decide ((i : Int) < ((mkL mkI neI (xs.take i) k ++ xs.drop i).length : Int))))] [ql (aI (st10.get 0 rfl)), .o] aE fun f13 h13_ => (aB (aK (h13_.at 9) (fun h14p => ?_) (fun h14p => ?_))))))
 ·refine wp_skip (wp_seq (wp_block (wp_seq (aA (rn st10 3 h13_ [] [(12, v), (13, I (i : Int)), (14, I K)] [] aE fun f16 h16_ => ?_)))))
  have hq_ := eH (xs := xs) (i := i) aD
  obtain ⟨y, hy⟩ := hq_
  have hcs := gI neI hy
  have hcl := eZ neI xs (i + 1)
  have hne : neI y = 1 := rfl
  have hb17 : Bd K (1 + (0)) := ⟨by omega, by omega⟩
  have hq_ := St.lendx (α := Int) aX st10 (x := y) (mK hy)
  obtain ⟨b18, e18, pre18, cs18, post18, fi18, fr18, hPA18, hC18, st19⟩ := hq_
  obtain ⟨he18, hf18, hok18⟩ := hC18; have he18 : _ = [I y] := he18; subst he18
  refine sg (aN eP (h16_.at 12) hPA18 (h16_.at 13) rfl (sgn (bE (i := 0) (v := I K) (C' := [I K]) aE rfl (h16_.at 14) rfl rfl st19.d1 rfl bP rfl ?_))); intro W26 st27
  refine aB (aA ?_)
  have hb29 := hb17.up
  refine rn st27 3 h16_.put [1] [(1, I (K + 1))] [.ad K 1 hb29.i64] aE fun f30 h30_ => (aB (aA (rn st27 3 h30_ [5] [(5, I ((i : Int) + 1))] [qad (i : Int) 1] aE fun f32 h32_ => (aB ?_))))
  have st33 := st27.cs0 (cs := [I K]) (x := K) ⟨rfl, rfl, dX⟩
  have hq_ := St.give (α := Int) st33.f2.f1.f2
  obtain ⟨fp38, st39⟩ := hq_
  exact ⟨_, xs.length - (i + 1), aD, rfl, i + 1, K + 1, fp38, aD, aD, rfl, (h32_.to aE), (by rw [← kQ hy hK]; exact st39)⟩
 ·refine wp_exit (wp_seq (aA (sg (aF (v := I K) (h13_.at 1) (sg (aC (v := I K) rfl (aB (wr (aL Tryz.results31 rfl ?_)))))))))
  obtain rfl : i = xs.length := by omega
  have hca := jL neI xs _ rfl
  rw [pG rfl] at st10
  exact ⟨_, fI aD, st10⟩
theorem markEdgeS_n {w W0 : World} {rs : List Res} {v : Value} {xs : List Edge} {fp : List Nat} (hst : St w W0 (Res.own v xs fp :: rs)) (k : Int) (h0 : 0 ≤ k) (hk : k + (cL bL xs : Nat) ≤ 4611686018427387904) :
  Calls Tryz.prog 87 #[v, I k] W0 fun e w' => ∃ fp', e = .returned (I (k + (cL bL xs : Nat))) ∧ St w w' (Res.own v (mkL iJ bL xs k) fp' :: rs) := by
 have hcap := (aI (hst.get 0 rfl)).len_le
 refine bR Tryz.func87 rfl Tryz.ntmps87 aX (wp_seq (aA (sg (aC (v := I 0) rfl (aB (wp_seq (wp_seq (aA (sg (aC (v := I 0) rfl (aB (wp_block (aY (fun (m : Nat) (f : Nat → Value) (W : World) => ∃ (i : Nat) (K : Int) (fo5 : List Nat), i ≤ xs.length ∧ K = k + (cL bL (xs.take i) : Nat) ∧ m = xs.length - i ∧ Ag [(0, v), (1, I K), (5, I (i : Int))] f ∧ St w W (Res.own (α := List Edge) v (mkL iJ bL (xs.take i) k ++ xs.drop i) fo5 :: rs)) (xs.length - 0) ?_ ?_)))))))))))))
 ·exact ⟨0, k, fp, Nat.zero_le _, (by simp [cL]), rfl, (Ag.nil.put.put.put.put.to aE), (by simpa [mkL] using hst)⟩
 intro m6 f7 W8 hJ9
 obtain ⟨i, K, fo5, hi, hK, rfl, hA11, st10⟩ := hJ9
 have hlx : (mkL iJ bL (xs.take i) k ++ xs.drop i).length = xs.length := by rw [List.length_append, eQ, List.length_take, List.length_drop]; omega
 refine wp_seq (wp_seq (aA (rn st10 4 hA11 [] [(9, .bool (decide ((i : Int) < ((mkL iJ bL (xs.take i) k ++ xs.drop i).length : Int))))] [ql (aI (st10.get 0 rfl)), .o] aE fun f13 h13_ => (aB (aK (h13_.at 9) (fun h14p => ?_) (fun h14p => ?_))))))
 ·refine wp_skip (wp_seq (wp_block (wp_seq (aA (rn st10 3 h13_ [] [(12, v), (13, I (i : Int)), (14, I K)] [] aE fun f16 h16_ => ?_)))))
  have hq_ := eH (xs := xs) (i := i) aD
  obtain ⟨y, hy⟩ := hq_
  have hcs := gI bL hy
  have hcl := eZ bL xs (i + 1)
  have hne : bL y = 2 := rfl
  have hb17 : Bd K (1 + (1 + (0))) := ⟨by omega, by omega⟩
  have hq_ := St.lendx (α := Edge) aX st10 (x := y) (mK hy)
  obtain ⟨b18, e18, pre18, cs18, post18, fi18, fr18, hPA18, hC18, st19⟩ := hq_
  obtain ⟨he18, hf18, hok18⟩ := hC18; have he18 : _ = [I y.from_, I y.to_] := he18; subst he18
  refine sg (aN iG (h16_.at 12) hPA18 (h16_.at 13) rfl (sg (aH rZ rfl (sgn (bE (i := 0) (v := I K) (C' := [I K, I y.to_]) aE rfl (h16_.at 14) rfl rfl st19.d1 rfl bP rfl ?_))))); intro W26 st27
  refine aB (wp_seq (aA ?_))
  have hb29 := hb17.up
  refine rn st27 3 h16_.put.put [1] [(1, I (K + 1))] [.ad K 1 hb29.i64] aE fun f30 h30_ => (aB (wp_seq (aA (rn st27 5 h30_ [] [(21, I (K + 1)), (23, .pointer (some ⟨b18, pre18.length + 1, none⟩))] [qx hPA18] aE fun f32 h32_ => (sgn (bE (i := 1) (v := I (K + 1)) (C' := [I K, I (K + 1)]) aE (h32_.at 23) (h32_.at 21) rfl rfl st27 rfl bP rfl ?_)))))); intro W33 st34
  refine aB (aA ?_)
  have hb36 := hb29.up
  refine rn st34 3 h32_ [1] [(1, I ((K + 1) + 1))] [.ad (K + 1) 1 hb36.i64] aE fun f37 h37_ => (aB (aA (rn st34 3 h37_ [5] [(5, I ((i : Int) + 1))] [qad (i : Int) 1] aE fun f39 h39_ => (aB ?_))))
  have st40 := st34.cs0 (cs := [I K, I (K + 1)]) (x := (⟨K, K + 1⟩ : Edge)) ⟨rfl, rfl, eS⟩
  have hq_ := St.give (α := Edge) st40.f2.f1.f2
  obtain ⟨fp45, st46⟩ := hq_
  exact ⟨_, xs.length - (i + 1), aD, rfl, i + 1, (K + 1) + 1, fp45, aD, aD, rfl, (h39_.to aE), (by rw [← kQ hy hK]; exact st46)⟩
 ·refine wp_exit (wp_seq (aA (sg (aF (v := I K) (h13_.at 1) (sg (aC (v := I K) rfl (aB (wr (aL Tryz.results87 rfl ?_)))))))))
  obtain rfl : i = xs.length := by omega
  have hca := jL bL xs _ rfl
  rw [pG rfl] at st10
  exact ⟨_, fI aD, st10⟩
theorem heldEdgeS_n (w : World) {v : Value} {x : List Edge} {fp : List Nat} {k : Int} (h : Sl w v (mkL iJ bL x k) fp) (h0 : 0 ≤ k) (hk : k + (cL bL x : Nat) ≤ 4611686018427387904) :
  Calls Tryz.prog 182 #[v, I k] w fun e w' => e = .returned (I (k + (cL bL x : Nat))) ∧ St w w' [] := by
 have hcap := h.len_le
 rw [eQ] at hcap
 have hml : (mkL iJ bL x k).length = x.length := eQ _ _
 refine bR Tryz.func182 rfl Tryz.ntmps182 aX (wp_seq (aA (sg (aC (v := I 0) rfl (aB (wp_seq (wp_seq (aA (sg (aC (v := I 0) rfl (aB (wp_block (aY (fun (m : Nat) (f : Nat → Value) (W : World) => ∃ (i : Nat) (K : Int), i ≤ x.length ∧ K = k + (cL bL (x.take i) : Nat) ∧ m = x.length - i ∧ Ag [(0, v), (1, I K), (5, I (i : Int))] f ∧ St w W ([])) (x.length - 0) ?_ ?_)))))))))))))
 ·exact ⟨0, k, Nat.zero_le _, (by simp [cL]), rfl, (Ag.nil.put.put.put.put.to aE), (St.start w)⟩
 intro m5 f6 W7 hJ8
 obtain ⟨i, K, hi, hK, rfl, hA10, st9⟩ := hJ8
 refine wp_seq (wp_seq (aA (rn st9 4 hA10 [] [(9, .bool (decide ((i : Int) < ((mkL iJ bL x k).length : Int))))] [ql h, .o] aE fun f12 h12_ => (aB (aK (h12_.at 9) (fun h13p => ?_) (fun h13p => ?_))))))
 ·refine wp_skip (wp_seq (wp_block (wp_seq (wp_seq (aA (sg (aF (v := v) (h12_.at 0) (sg (aF (v := I (i : Int)) (h12_.at 5) ?_)))))))))
  have hq_ := eH (xs := x) (i := i) aD
  obtain ⟨y, hy⟩ := hq_
  have hcs := gI bL hy
  have hcl := eZ bL x (i + 1)
  have hne : bL y = 2 := rfl
  have hb17 : Bd K (1 + (1 + (0))) := ⟨by omega, by omega⟩
  have hq_ := vX h hy hK
  obtain ⟨b16, o16, cs16, f16, hp16, hr16, hc16, hm16⟩ := hq_
  have hk18 := hc16
  obtain ⟨he18, rfl, hok18⟩ := hk18
  have he18 : _ = [I K, I (K + 1)] := he18; subst he18
  refine rn st9 5 h12_.put.put [] [(18, .bool (!decide (K = K)))] [qx hp16, qr hr16 0, .o] aE fun f20 h20_ => (aB (cB (h20_.at 18) (fun h21p => ?_) (fun h21p => ?_)))
  ·exact absurd rfl h21p
  ·refine wp_skip (wp_seq (aA ?_))
   have hb23 := hb17.up
   refine rn st9 3 h20_ [1] [(1, I (K + 1))] [.ad K 1 hb23.i64] aE fun f24 h24_ => (aB (wp_seq (wp_seq (aA (sg (aF (v := v) (h24_.at 0) (sg (aF (v := I (i : Int)) (h24_.at 5) (rn st9 5 h24_.put.put [] [(27, .bool (!decide ((K + 1) = (K + 1))))] [qx hp16, qr hr16 1, .o] aE fun f29 h29_ => (aB (cB (h29_.at 27) (fun h30p => ?_) (fun h30p => ?_))))))))))))
   ·exact absurd rfl h30p
   ·refine wp_skip (aA ?_)
    have hb32 := hb23.up
    refine rn st9 3 h29_ [1] [(1, I ((K + 1) + 1))] [.ad (K + 1) 1 hb32.i64] aE fun f33 h33_ => (aB (aA (rn st9 3 h33_ [5] [(5, I ((i : Int) + 1))] [qad (i : Int) 1] aE fun f35 h35_ => (aB ?_))))
    exact ⟨_, x.length - (i + 1), aD, rfl, i + 1, (K + 1) + 1, aD, aD, rfl, (h35_.to aE), st9⟩
 ·refine wp_exit (wp_seq (aA (sg (aF (v := I K) (h12_.at 1) (sg (aC (v := I K) rfl (aB (wr (aL Tryz.results182 rfl ?_)))))))))
  obtain rfl : i = x.length := by omega
  have hca := jL bL x _ rfl
  exact ⟨fI aD, st9.bare⟩
theorem markEntryS_n {w W0 : World} {rs : List Res} {v : Value} {xs : List Entry} {fp : List Nat} (hst : St w W0 (Res.own v xs fp :: rs)) (k : Int) (h0 : 0 ≤ k) (hk : k + (cL aS xs : Nat) ≤ 4611686018427387904) :
  Calls Tryz.prog 115 #[v, I k] W0 fun e w' => ∃ fp', e = .returned (I (k + (cL aS xs : Nat))) ∧ St w w' (Res.own v (mkL eK aS xs k) fp' :: rs) := by
 have hcap := (aI (hst.get 0 rfl)).len_le
 refine bR Tryz.func115 rfl Tryz.ntmps115 aX (wp_seq (aA (sg (aC (v := I 0) rfl (aB (wp_seq (wp_seq (aA (sg (aC (v := I 0) rfl (aB (wp_block (aY (fun (m : Nat) (f : Nat → Value) (W : World) => ∃ (i : Nat) (K : Int) (fo5 : List Nat), i ≤ xs.length ∧ K = k + (cL aS (xs.take i) : Nat) ∧ m = xs.length - i ∧ Ag [(0, v), (1, I K), (5, I (i : Int))] f ∧ St w W (Res.own (α := List Entry) v (mkL eK aS (xs.take i) k ++ xs.drop i) fo5 :: rs)) (xs.length - 0) ?_ ?_)))))))))))))
 ·exact ⟨0, k, fp, Nat.zero_le _, (by simp [cL]), rfl, (Ag.nil.put.put.put.put.to aE), (by simpa [mkL] using hst)⟩
 intro m6 f7 W8 hJ9
 obtain ⟨i, K, fo5, hi, hK, rfl, hA11, st10⟩ := hJ9
 have hlx : (mkL eK aS (xs.take i) k ++ xs.drop i).length = xs.length := by rw [List.length_append, eQ, List.length_take, List.length_drop]; omega
 refine wp_seq (wp_seq (aA (rn st10 4 hA11 [] [(9, .bool (decide ((i : Int) < ((mkL eK aS (xs.take i) k ++ xs.drop i).length : Int))))] [ql (aI (st10.get 0 rfl)), .o] aE fun f13 h13_ => (aB (aK (h13_.at 9) (fun h14p => ?_) (fun h14p => ?_))))))
 ·refine wp_skip (wp_seq (wp_block (wp_seq (aA (rn st10 3 h13_ [] [(12, v), (13, I (i : Int)), (14, I K)] [] aE fun f16 h16_ => ?_)))))
  have hq_ := eH (xs := xs) (i := i) aD
  obtain ⟨y, hy⟩ := hq_
  have hcs := gI aS hy
  have hcl := eZ aS xs (i + 1)
  have hne : aS y = 4 := rfl
  have hb17 : Bd K (1 + (1 + (1 + (1 + (0))))) := ⟨by omega, by omega⟩
  have hq_ := St.lendx (α := Entry) aX st10 (x := y) (mK hy)
  obtain ⟨b18, e18, pre18, cs18, post18, fi18, fr18, hPA18, hC18, st19⟩ := hq_
  obtain ⟨he18, hf18, hok18⟩ := hC18; have he18 : _ = [I y.prio, I y.seq, I y.run, I y.task] := he18; subst he18
  refine sg (aN sl_EntryS (h16_.at 12) hPA18 (h16_.at 13) rfl (sg (aH fa_Entry_0 rfl (sgn (bE (i := 0) (v := I K) (C' := [I K, I y.seq, I y.run, I y.task]) aE rfl (h16_.at 14) rfl rfl st19.d1 rfl bP rfl ?_))))); intro W26 st27
  refine aB (wp_seq (aA ?_))
  have hb29 := hb17.up
  refine rn st27 3 h16_.put.put [1] [(1, I (K + 1))] [.ad K 1 hb29.i64] aE fun f30 h30_ => (aB (wp_seq (aA (rn st27 5 h30_ [] [(21, I (K + 1)), (23, .pointer (some ⟨b18, pre18.length + 1, none⟩))] [qx hPA18] aE fun f32 h32_ => (sgn (bE (i := 1) (v := I (K + 1)) (C' := [I K, I (K + 1), I y.run, I y.task]) aE (h32_.at 23) (h32_.at 21) rfl rfl st27 rfl bP rfl ?_)))))); intro W33 st34
  refine aB (wp_seq (aA ?_))
  have hb36 := hb29.up
  refine rn st34 3 h32_ [1] [(1, I ((K + 1) + 1))] [.ad (K + 1) 1 hb36.i64] aE fun f37 h37_ => (aB (wp_seq (aA (rn st34 5 h37_ [] [(28, I ((K + 1) + 1)), (30, .pointer (some ⟨b18, pre18.length + 2, none⟩))] [qx hPA18] aE fun f39 h39_ => (sgn (bE (i := 2) (v := I ((K + 1) + 1)) (C' := [I K, I (K + 1), I ((K + 1) + 1), I y.task]) aE (h39_.at 30) (h39_.at 28) rfl rfl st34 rfl bP rfl ?_)))))); intro W40 st41
  refine aB (wp_seq (aA ?_))
  have hb43 := hb36.up
  refine rn st41 3 h39_ [1] [(1, I (((K + 1) + 1) + 1))] [.ad ((K + 1) + 1) 1 hb43.i64] aE fun f44 h44_ => (aB (wp_seq (aA (lw h44_ [(0, v), (1, I (((K + 1) + 1) + 1)), (5, I (i : Int))] aE fun h47_ => (rn st41 5 h47_ [] [(35, I (((K + 1) + 1) + 1)), (37, .pointer (some ⟨b18, pre18.length + 3, none⟩))] [qx hPA18] aE fun f46 h46_ => (sgn (bE (i := 3) (v := I (((K + 1) + 1) + 1)) (C' := [I K, I (K + 1), I ((K + 1) + 1), I (((K + 1) + 1) + 1)]) aE (h46_.at 37) (h46_.at 35) rfl rfl st41 rfl bP rfl ?_))))))); intro W48 st49
  refine aB (aA ?_)
  have hb51 := hb43.up
  refine rn st49 3 h46_ [1] [(1, I ((((K + 1) + 1) + 1) + 1))] [.ad (((K + 1) + 1) + 1) 1 hb51.i64] aE fun f52 h52_ => (aB (aA (rn st49 3 h52_ [5] [(5, I ((i : Int) + 1))] [qad (i : Int) 1] aE fun f54 h54_ => (aB ?_))))
  have st55 := st49.cs0 (cs := [I K, I (K + 1), I ((K + 1) + 1), I (((K + 1) + 1) + 1)]) (x := (⟨K, K + 1, (K + 1) + 1, ((K + 1) + 1) + 1⟩ : Entry)) ⟨rfl, rfl, eS⟩
  have hq_ := St.give (α := Entry) st55.f2.f1.f2
  obtain ⟨fp60, st61⟩ := hq_
  exact ⟨_, xs.length - (i + 1), aD, rfl, i + 1, (((K + 1) + 1) + 1) + 1, fp60, aD, aD, rfl, (h54_.to aE), (by rw [← kQ hy hK]; exact st61)⟩
 ·refine wp_exit (wp_seq (aA (sg (aF (v := I K) (h13_.at 1) (sg (aC (v := I K) rfl (aB (wr (aL Tryz.results115 rfl ?_)))))))))
  obtain rfl : i = xs.length := by omega
  have hca := jL aS xs _ rfl
  rw [pG rfl] at st10
  exact ⟨_, fI aD, st10⟩
theorem heldEntryS_n (w : World) {v : Value} {x : List Entry} {fp : List Nat} {k : Int} (h : Sl w v (mkL eK aS x k) fp) (h0 : 0 ≤ k) (hk : k + (cL aS x : Nat) ≤ 4611686018427387904) :
  Calls Tryz.prog 181 #[v, I k] w fun e w' => e = .returned (I (k + (cL aS x : Nat))) ∧ St w w' [] := by
 have hcap := h.len_le
 rw [eQ] at hcap
 have hml : (mkL eK aS x k).length = x.length := eQ _ _
 refine bR Tryz.func181 rfl Tryz.ntmps181 aX (wp_seq (aA (sg (aC (v := I 0) rfl (aB (wp_seq (wp_seq (aA (sg (aC (v := I 0) rfl (aB (wp_block (aY (fun (m : Nat) (f : Nat → Value) (W : World) => ∃ (i : Nat) (K : Int), i ≤ x.length ∧ K = k + (cL aS (x.take i) : Nat) ∧ m = x.length - i ∧ Ag [(0, v), (1, I K), (5, I (i : Int))] f ∧ St w W ([])) (x.length - 0) ?_ ?_)))))))))))))
 ·exact ⟨0, k, Nat.zero_le _, (by simp [cL]), rfl, (Ag.nil.put.put.put.put.to aE), (St.start w)⟩
 intro m5 f6 W7 hJ8
 obtain ⟨i, K, hi, hK, rfl, hA10, st9⟩ := hJ8
 refine wp_seq (wp_seq (aA (rn st9 4 hA10 [] [(9, .bool (decide ((i : Int) < ((mkL eK aS x k).length : Int))))] [ql h, .o] aE fun f12 h12_ => (aB (aK (h12_.at 9) (fun h13p => ?_) (fun h13p => ?_))))))
 ·refine wp_skip (wp_seq (wp_block (wp_seq (wp_seq (aA (sg (aF (v := v) (h12_.at 0) (sg (aF (v := I (i : Int)) (h12_.at 5) ?_)))))))))
  have hq_ := eH (xs := x) (i := i) aD
  obtain ⟨y, hy⟩ := hq_
  have hcs := gI aS hy
  have hcl := eZ aS x (i + 1)
  have hne : aS y = 4 := rfl
  have hb17 : Bd K (1 + (1 + (1 + (1 + (0))))) := ⟨by omega, by omega⟩
  have hq_ := vX h hy hK
  obtain ⟨b16, o16, cs16, f16, hp16, hr16, hc16, hm16⟩ := hq_
  have hk18 := hc16
  obtain ⟨he18, rfl, hok18⟩ := hk18
  have he18 : _ = [I K, I (K + 1), I ((K + 1) + 1), I (((K + 1) + 1) + 1)] := he18; subst he18
  refine rn st9 5 h12_.put.put [] [(18, .bool (!decide (K = K)))] [qx hp16, qr hr16 0, .o] aE fun f20 h20_ => (aB (cB (h20_.at 18) (fun h21p => ?_) (fun h21p => ?_)))
  ·exact absurd rfl h21p
  ·refine wp_skip (wp_seq (aA ?_))
   have hb23 := hb17.up
   refine rn st9 3 h20_ [1] [(1, I (K + 1))] [.ad K 1 hb23.i64] aE fun f24 h24_ => (aB (wp_seq (wp_seq (aA (sg (aF (v := v) (h24_.at 0) (sg (aF (v := I (i : Int)) (h24_.at 5) (rn st9 5 h24_.put.put [] [(27, .bool (!decide ((K + 1) = (K + 1))))] [qx hp16, qr hr16 1, .o] aE fun f29 h29_ => (aB (cB (h29_.at 27) (fun h30p => ?_) (fun h30p => ?_))))))))))))
   ·exact absurd rfl h30p
   ·refine wp_skip (wp_seq (aA ?_))
    have hb32 := hb23.up
    refine rn st9 3 h29_ [1] [(1, I ((K + 1) + 1))] [.ad (K + 1) 1 hb32.i64] aE fun f33 h33_ => (aB (wp_seq (wp_seq (aA (sg (aF (v := v) (h33_.at 0) (sg (aF (v := I (i : Int)) (h33_.at 5) (lw h33_.put.put [(0, v), (1, I ((K + 1) + 1)), (5, I (i : Int)), (30, v), (31, I (i : Int))] aE fun h39_ => (rn st9 5 h39_ [] [(36, .bool (!decide (((K + 1) + 1) = ((K + 1) + 1))))] [qx hp16, qr hr16 2, .o] aE fun f38 h38_ => (aB (cB (h38_.at 36) (fun h40p => ?_) (fun h40p => ?_)))))))))))))
    ·exact absurd rfl h40p
    ·refine wp_skip (wp_seq (aA ?_))
     have hb42 := hb32.up
     refine rn st9 3 h38_ [1] [(1, I (((K + 1) + 1) + 1))] [.ad ((K + 1) + 1) 1 hb42.i64] aE fun f43 h43_ => (aB (wp_seq (wp_seq (aA (sg (aF (v := v) (h43_.at 0) (sg (aF (v := I (i : Int)) (h43_.at 5) (rn st9 5 h43_.put.put [] [(45, .bool (!decide ((((K + 1) + 1) + 1) = (((K + 1) + 1) + 1))))] [qx hp16, qr hr16 3, .o] aE fun f48 h48_ => (aB (cB (h48_.at 45) (fun h49p => ?_) (fun h49p => ?_))))))))))))
     ·exact absurd rfl h49p
     ·refine wp_skip (aA ?_)
      have hb51 := hb42.up
      refine rn st9 3 h48_ [1] [(1, I ((((K + 1) + 1) + 1) + 1))] [.ad (((K + 1) + 1) + 1) 1 hb51.i64] aE fun f52 h52_ => (aB (aA (rn st9 3 h52_ [5] [(5, I ((i : Int) + 1))] [qad (i : Int) 1] aE fun f54 h54_ => (aB ?_))))
      exact ⟨_, x.length - (i + 1), aD, rfl, i + 1, (((K + 1) + 1) + 1) + 1, aD, aD, rfl, (h54_.to aE), st9⟩
 ·refine wp_exit (wp_seq (aA (sg (aF (v := I K) (h12_.at 1) (sg (aC (v := I K) rfl (aB (wr (aL Tryz.results181 rfl ?_)))))))))
  obtain rfl : i = x.length := by omega
  have hca := jL aS x _ rfl
  exact ⟨fI aD, st9.bare⟩
theorem markTaskS_n {w W0 : World} {rs : List Res} {v : Value} {xs : List Task} {fp : List Nat} (hst : St w W0 (Res.own v xs fp :: rs)) (k : Int) (h0 : 0 ≤ k) (hk : k + (cL cK xs : Nat) ≤ 4611686018427387904) :
  Calls Tryz.prog 116 #[v, I k] W0 fun e w' => ∃ fp', e = .returned (I (k + (cL cK xs : Nat))) ∧ St w w' (Res.own v (mkL iI cK xs k) fp' :: rs) := by
 have hcap := (aI (hst.get 0 rfl)).len_le
 refine bR Tryz.func116 rfl Tryz.ntmps116 aX (wp_seq (aA (sg (aC (v := I 0) rfl (aB (wp_seq (wp_seq (aA (sg (aC (v := I 0) rfl (aB (wp_block (aY (fun (m : Nat) (f : Nat → Value) (W : World) => ∃ (i : Nat) (K : Int) (fo5 : List Nat), i ≤ xs.length ∧ K = k + (cL cK (xs.take i) : Nat) ∧ m = xs.length - i ∧ Ag [(0, v), (1, I K), (5, I (i : Int))] f ∧ St w W (Res.own (α := List Task) v (mkL iI cK (xs.take i) k ++ xs.drop i) fo5 :: rs)) (xs.length - 0) ?_ ?_)))))))))))))
 ·exact ⟨0, k, fp, Nat.zero_le _, (by simp [cL]), rfl, (Ag.nil.put.put.put.put.to aE), (by simpa [mkL] using hst)⟩
 intro m6 f7 W8 hJ9
 obtain ⟨i, K, fo5, hi, hK, rfl, hA11, st10⟩ := hJ9
 have hlx : (mkL iI cK (xs.take i) k ++ xs.drop i).length = xs.length := by rw [List.length_append, eQ, List.length_take, List.length_drop]; omega
 refine wp_seq (wp_seq (aA (rn st10 4 hA11 [] [(9, .bool (decide ((i : Int) < ((mkL iI cK (xs.take i) k ++ xs.drop i).length : Int))))] [ql (aI (st10.get 0 rfl)), .o] aE fun f13 h13_ => (aB (aK (h13_.at 9) (fun h14p => ?_) (fun h14p => ?_))))))
 ·refine wp_skip (wp_seq (wp_block (wp_seq (aA (rn st10 3 h13_ [] [(12, v), (13, I (i : Int)), (14, I K)] [] aE fun f16 h16_ => ?_)))))
  have hq_ := eH (xs := xs) (i := i) aD
  obtain ⟨y, hy⟩ := hq_
  have hcs := gI cK hy
  have hcl := eZ cK xs (i + 1)
  have hne : cK y = 4 := rfl
  have hb17 : Bd K (1 + (1 + (1 + (1 + (0))))) := ⟨by omega, by omega⟩
  have hq_ := St.lendx (α := Task) aX st10 (x := y) (mK hy)
  obtain ⟨b18, e18, pre18, cs18, post18, fi18, fr18, hPA18, hC18, st19⟩ := hq_
  obtain ⟨he18, hf18, hok18⟩ := hC18; have he18 : _ = [I y.state, I y.need, I y.try_, I y.until_] := he18; subst he18
  refine sg (aN jT (h16_.at 12) hPA18 (h16_.at 13) rfl (sg (aH iB rfl (sgn (bE (i := 0) (v := I K) (C' := [I K, I y.need, I y.try_, I y.until_]) aE rfl (h16_.at 14) rfl rfl st19.d1 rfl bP rfl ?_))))); intro W26 st27
  refine aB (wp_seq (aA ?_))
  have hb29 := hb17.up
  refine rn st27 3 h16_.put.put [1] [(1, I (K + 1))] [.ad K 1 hb29.i64] aE fun f30 h30_ => (aB (wp_seq (aA (rn st27 5 h30_ [] [(21, I (K + 1)), (23, .pointer (some ⟨b18, pre18.length + 1, none⟩))] [qx hPA18] aE fun f32 h32_ => (sgn (bE (i := 1) (v := I (K + 1)) (C' := [I K, I (K + 1), I y.try_, I y.until_]) aE (h32_.at 23) (h32_.at 21) rfl rfl st27 rfl bP rfl ?_)))))); intro W33 st34
  refine aB (wp_seq (aA ?_))
  have hb36 := hb29.up
  refine rn st34 3 h32_ [1] [(1, I ((K + 1) + 1))] [.ad (K + 1) 1 hb36.i64] aE fun f37 h37_ => (aB (wp_seq (aA (rn st34 5 h37_ [] [(28, I ((K + 1) + 1)), (30, .pointer (some ⟨b18, pre18.length + 2, none⟩))] [qx hPA18] aE fun f39 h39_ => (sgn (bE (i := 2) (v := I ((K + 1) + 1)) (C' := [I K, I (K + 1), I ((K + 1) + 1), I y.until_]) aE (h39_.at 30) (h39_.at 28) rfl rfl st34 rfl bP rfl ?_)))))); intro W40 st41
  refine aB (wp_seq (aA ?_))
  have hb43 := hb36.up
  refine rn st41 3 h39_ [1] [(1, I (((K + 1) + 1) + 1))] [.ad ((K + 1) + 1) 1 hb43.i64] aE fun f44 h44_ => (aB (wp_seq (aA (lw h44_ [(0, v), (1, I (((K + 1) + 1) + 1)), (5, I (i : Int))] aE fun h47_ => (rn st41 5 h47_ [] [(35, I (((K + 1) + 1) + 1)), (37, .pointer (some ⟨b18, pre18.length + 3, none⟩))] [qx hPA18] aE fun f46 h46_ => (sgn (bE (i := 3) (v := I (((K + 1) + 1) + 1)) (C' := [I K, I (K + 1), I ((K + 1) + 1), I (((K + 1) + 1) + 1)]) aE (h46_.at 37) (h46_.at 35) rfl rfl st41 rfl bP rfl ?_))))))); intro W48 st49
  refine aB (aA ?_)
  have hb51 := hb43.up
  refine rn st49 3 h46_ [1] [(1, I ((((K + 1) + 1) + 1) + 1))] [.ad (((K + 1) + 1) + 1) 1 hb51.i64] aE fun f52 h52_ => (aB (aA (rn st49 3 h52_ [5] [(5, I ((i : Int) + 1))] [qad (i : Int) 1] aE fun f54 h54_ => (aB ?_))))
  have st55 := st49.cs0 (cs := [I K, I (K + 1), I ((K + 1) + 1), I (((K + 1) + 1) + 1)]) (x := (⟨K, K + 1, (K + 1) + 1, ((K + 1) + 1) + 1⟩ : Task)) ⟨rfl, rfl, eS⟩
  have hq_ := St.give (α := Task) st55.f2.f1.f2
  obtain ⟨fp60, st61⟩ := hq_
  exact ⟨_, xs.length - (i + 1), aD, rfl, i + 1, (((K + 1) + 1) + 1) + 1, fp60, aD, aD, rfl, (h54_.to aE), (by rw [← kQ hy hK]; exact st61)⟩
 ·refine wp_exit (wp_seq (aA (sg (aF (v := I K) (h13_.at 1) (sg (aC (v := I K) rfl (aB (wr (aL Tryz.results116 rfl ?_)))))))))
  obtain rfl : i = xs.length := by omega
  have hca := jL cK xs _ rfl
  rw [pG rfl] at st10
  exact ⟨_, fI aD, st10⟩
theorem heldTaskS_n (w : World) {v : Value} {x : List Task} {fp : List Nat} {k : Int} (h : Sl w v (mkL iI cK x k) fp) (h0 : 0 ≤ k) (hk : k + (cL cK x : Nat) ≤ 4611686018427387904) :
  Calls Tryz.prog 183 #[v, I k] w fun e w' => e = .returned (I (k + (cL cK x : Nat))) ∧ St w w' [] := by
 have hcap := h.len_le
 rw [eQ] at hcap
 have hml : (mkL iI cK x k).length = x.length := eQ _ _
 refine bR Tryz.func183 rfl Tryz.ntmps183 aX (wp_seq (aA (sg (aC (v := I 0) rfl (aB (wp_seq (wp_seq (aA (sg (aC (v := I 0) rfl (aB (wp_block (aY (fun (m : Nat) (f : Nat → Value) (W : World) => ∃ (i : Nat) (K : Int), i ≤ x.length ∧ K = k + (cL cK (x.take i) : Nat) ∧ m = x.length - i ∧ Ag [(0, v), (1, I K), (5, I (i : Int))] f ∧ St w W ([])) (x.length - 0) ?_ ?_)))))))))))))
 ·exact ⟨0, k, Nat.zero_le _, (by simp [cL]), rfl, (Ag.nil.put.put.put.put.to aE), (St.start w)⟩
 intro m5 f6 W7 hJ8
 obtain ⟨i, K, hi, hK, rfl, hA10, st9⟩ := hJ8
 refine wp_seq (wp_seq (aA (rn st9 4 hA10 [] [(9, .bool (decide ((i : Int) < ((mkL iI cK x k).length : Int))))] [ql h, .o] aE fun f12 h12_ => (aB (aK (h12_.at 9) (fun h13p => ?_) (fun h13p => ?_))))))
 ·refine wp_skip (wp_seq (wp_block (wp_seq (wp_seq (aA (sg (aF (v := v) (h12_.at 0) (sg (aF (v := I (i : Int)) (h12_.at 5) ?_)))))))))
  have hq_ := eH (xs := x) (i := i) aD
  obtain ⟨y, hy⟩ := hq_
  have hcs := gI cK hy
  have hcl := eZ cK x (i + 1)
  have hne : cK y = 4 := rfl
  have hb17 : Bd K (1 + (1 + (1 + (1 + (0))))) := ⟨by omega, by omega⟩
  have hq_ := vX h hy hK
  obtain ⟨b16, o16, cs16, f16, hp16, hr16, hc16, hm16⟩ := hq_
  have hk18 := hc16
  obtain ⟨he18, rfl, hok18⟩ := hk18
  have he18 : _ = [I K, I (K + 1), I ((K + 1) + 1), I (((K + 1) + 1) + 1)] := he18; subst he18
  refine rn st9 5 h12_.put.put [] [(18, .bool (!decide (K = K)))] [qx hp16, qr hr16 0, .o] aE fun f20 h20_ => (aB (cB (h20_.at 18) (fun h21p => ?_) (fun h21p => ?_)))
  ·exact absurd rfl h21p
  ·refine wp_skip (wp_seq (aA ?_))
   have hb23 := hb17.up
   refine rn st9 3 h20_ [1] [(1, I (K + 1))] [.ad K 1 hb23.i64] aE fun f24 h24_ => (aB (wp_seq (wp_seq (aA (sg (aF (v := v) (h24_.at 0) (sg (aF (v := I (i : Int)) (h24_.at 5) (rn st9 5 h24_.put.put [] [(27, .bool (!decide ((K + 1) = (K + 1))))] [qx hp16, qr hr16 1, .o] aE fun f29 h29_ => (aB (cB (h29_.at 27) (fun h30p => ?_) (fun h30p => ?_))))))))))))
   ·exact absurd rfl h30p
   ·refine wp_skip (wp_seq (aA ?_))
    have hb32 := hb23.up
    refine rn st9 3 h29_ [1] [(1, I ((K + 1) + 1))] [.ad (K + 1) 1 hb32.i64] aE fun f33 h33_ => (aB (wp_seq (wp_seq (aA (sg (aF (v := v) (h33_.at 0) (sg (aF (v := I (i : Int)) (h33_.at 5) (lw h33_.put.put [(0, v), (1, I ((K + 1) + 1)), (5, I (i : Int)), (30, v), (31, I (i : Int))] aE fun h39_ => (rn st9 5 h39_ [] [(36, .bool (!decide (((K + 1) + 1) = ((K + 1) + 1))))] [qx hp16, qr hr16 2, .o] aE fun f38 h38_ => (aB (cB (h38_.at 36) (fun h40p => ?_) (fun h40p => ?_)))))))))))))
    ·exact absurd rfl h40p
    ·refine wp_skip (wp_seq (aA ?_))
     have hb42 := hb32.up
     refine rn st9 3 h38_ [1] [(1, I (((K + 1) + 1) + 1))] [.ad ((K + 1) + 1) 1 hb42.i64] aE fun f43 h43_ => (aB (wp_seq (wp_seq (aA (sg (aF (v := v) (h43_.at 0) (sg (aF (v := I (i : Int)) (h43_.at 5) (rn st9 5 h43_.put.put [] [(45, .bool (!decide ((((K + 1) + 1) + 1) = (((K + 1) + 1) + 1))))] [qx hp16, qr hr16 3, .o] aE fun f48 h48_ => (aB (cB (h48_.at 45) (fun h49p => ?_) (fun h49p => ?_))))))))))))
     ·exact absurd rfl h49p
     ·refine wp_skip (aA ?_)
      have hb51 := hb42.up
      refine rn st9 3 h48_ [1] [(1, I ((((K + 1) + 1) + 1) + 1))] [.ad (((K + 1) + 1) + 1) 1 hb51.i64] aE fun f52 h52_ => (aB (aA (rn st9 3 h52_ [5] [(5, I ((i : Int) + 1))] [qad (i : Int) 1] aE fun f54 h54_ => (aB ?_))))
      exact ⟨_, x.length - (i + 1), aD, rfl, i + 1, (((K + 1) + 1) + 1) + 1, aD, aD, rfl, (h54_.to aE), st9⟩
 ·refine wp_exit (wp_seq (aA (sg (aF (v := I K) (h12_.at 1) (sg (aC (v := I K) rfl (aB (wr (aL Tryz.results183 rfl ?_)))))))))
  obtain rfl : i = x.length := by omega
  have hca := jL cK x _ rfl
  exact ⟨fI aD, st9.bare⟩
theorem markRunS_n {w W0 : World} {rs : List Res} {v : Value} {xs : List Run} {fp : List Nat} (hst : St w W0 (Res.own v xs fp :: rs)) (k : Int) (h0 : 0 ≤ k) (hk : k + (cL cV xs : Nat) ≤ 4611686018427387904) :
  Calls Tryz.prog 58 #[v, I k] W0 fun e w' => ∃ fp', e = .returned (I (k + (cL cV xs : Nat))) ∧ St w w' (Res.own v (mkL jN cV xs k) fp' :: rs) := by
 have hcap := (aI (hst.get 0 rfl)).len_le
 refine bR Tryz.func58 rfl Tryz.ntmps58 aX (wp_seq (aA (sg (aC (v := I 0) rfl (aB (wp_seq (wp_seq (aA (sg (aC (v := I 0) rfl (aB (wp_block (aY (fun (m : Nat) (f : Nat → Value) (W : World) => ∃ (i : Nat) (K : Int) (fo5 : List Nat), i ≤ xs.length ∧ K = k + (cL cV (xs.take i) : Nat) ∧ m = xs.length - i ∧ Ag [(0, v), (1, I K), (5, I (i : Int))] f ∧ St w W (Res.own (α := List Run) v (mkL jN cV (xs.take i) k ++ xs.drop i) fo5 :: rs)) (xs.length - 0) ?_ ?_)))))))))))))
 ·exact ⟨0, k, fp, Nat.zero_le _, (by simp [cL]), rfl, (Ag.nil.put.put.put.put.to aE), (by simpa [mkL] using hst)⟩
 intro m6 f7 W8 hJ9
 obtain ⟨i, K, fo5, hi, hK, rfl, hA11, st10⟩ := hJ9
 have hlx : (mkL jN cV (xs.take i) k ++ xs.drop i).length = xs.length := by rw [List.length_append, eQ, List.length_take, List.length_drop]; omega
 refine wp_seq (wp_seq (aA (rn st10 4 hA11 [] [(9, .bool (decide ((i : Int) < ((mkL jN cV (xs.take i) k ++ xs.drop i).length : Int))))] [ql (aI (st10.get 0 rfl)), .o] aE fun f13 h13_ => (aB (aK (h13_.at 9) (fun h14p => ?_) (fun h14p => ?_))))))
 ·refine wp_skip (wp_seq (wp_block (wp_seq (aA (rn st10 3 h13_ [] [(12, v), (13, I (i : Int)), (14, I K)] [] aE fun f16 h16_ => ?_)))))
  have hq_ := eH (xs := xs) (i := i) aD
  obtain ⟨y, hy⟩ := hq_
  have hcs := gI cV hy
  have hcl := eZ cV xs (i + 1)
  have hne : cV y = 6 + cL bL y.plan.edges + cL cK y.tasks := rfl
  have hb17 : Bd K (1 + (1 + (1 + (1 + (1 + ((cL bL y.plan.edges) + (1 + ((cL cK y.tasks) + (0))))))))) := ⟨by omega, by omega⟩
  have hq_ := St.lendx (α := Run) aX st10 (x := y) (mK hy)
  obtain ⟨b18, e18, pre18, cs18, post18, fi18, fr18, hPA18, hC18, st19⟩ := hq_
  have st24 := st19.f1.uncs rfl
  have hq_ := lV st24
  obtain ⟨v25_0, v25_1, g25_0, g25_1, he25, hok25, st26⟩ := hq_
  subst he25
  refine sg (aN iY (h16_.at 12) hPA18 (h16_.at 13) rfl (sg (aH qX rfl (sgn (bE (i := 0) (v := I K) (C' := [I K, I y.plan.prio, I y.plan.most, I y.plan.wait, I y.plan.tasks, v25_0, I y.state, v25_1]) aE rfl (h16_.at 14) rfl rfl st26.f2 rfl bP rfl ?_))))); intro W32 st33
  refine aB (wp_seq (aA ?_))
  have hb35 := hb17.up
  refine rn st33 3 h16_.put.put [1] [(1, I (K + 1))] [.ad K 1 hb35.i64] aE fun f36 h36_ => (aB (wp_seq (aA (rn st33 6 h36_ [] [(21, I (K + 1)), (24, .pointer (some ⟨b18, pre18.length + 1, none⟩))] [qx hPA18] aE fun f38 h38_ => (sgn (bE (i := 1) (v := I (K + 1)) (C' := [I K, I (K + 1), I y.plan.most, I y.plan.wait, I y.plan.tasks, v25_0, I y.state, v25_1]) aE (h38_.at 24) (h38_.at 21) rfl rfl st33 rfl bP rfl ?_)))))); intro W39 st40
  refine aB (wp_seq (aA ?_))
  have hb42 := hb35.up
  refine rn st40 3 h38_ [1] [(1, I ((K + 1) + 1))] [.ad (K + 1) 1 hb42.i64] aE fun f43 h43_ => (aB (wp_seq (aA (rn st40 6 h43_ [] [(29, I ((K + 1) + 1)), (32, .pointer (some ⟨b18, pre18.length + 2, none⟩))] [qx hPA18] aE fun f45 h45_ => (sgn (bE (i := 2) (v := I ((K + 1) + 1)) (C' := [I K, I (K + 1), I ((K + 1) + 1), I y.plan.wait, I y.plan.tasks, v25_0, I y.state, v25_1]) aE (h45_.at 32) (h45_.at 29) rfl rfl st40 rfl bP rfl ?_)))))); intro W46 st47
  refine aB (wp_seq (aA ?_))
  have hb49 := hb42.up
  refine rn st47 3 h45_ [1] [(1, I (((K + 1) + 1) + 1))] [.ad ((K + 1) + 1) 1 hb49.i64] aE fun f50 h50_ => (aB (wp_seq (aA (lw h50_ [(0, v), (1, I (((K + 1) + 1) + 1)), (5, I (i : Int))] aE fun h53_ => (rn st47 6 h53_ [] [(37, I (((K + 1) + 1) + 1)), (40, .pointer (some ⟨b18, pre18.length + 3, none⟩))] [qx hPA18] aE fun f52 h52_ => (sgn (bE (i := 3) (v := I (((K + 1) + 1) + 1)) (C' := [I K, I (K + 1), I ((K + 1) + 1), I (((K + 1) + 1) + 1), I y.plan.tasks, v25_0, I y.state, v25_1]) aE (h52_.at 40) (h52_.at 37) rfl rfl st47 rfl bP rfl ?_))))))); intro W54 st55
  refine aB (wp_seq (aA ?_))
  have hb57 := hb49.up
  refine rn st55 3 h52_ [1] [(1, I ((((K + 1) + 1) + 1) + 1))] [.ad (((K + 1) + 1) + 1) 1 hb57.i64] aE fun f58 h58_ => (aB (wp_seq (aA (rn st55 6 h58_ [] [(45, I ((((K + 1) + 1) + 1) + 1)), (48, .pointer (some ⟨b18, pre18.length + 4, none⟩))] [qx hPA18] aE fun f60 h60_ => (sgn (bE (i := 4) (v := I ((((K + 1) + 1) + 1) + 1)) (C' := [I K, I (K + 1), I ((K + 1) + 1), I (((K + 1) + 1) + 1), I ((((K + 1) + 1) + 1) + 1), v25_0, I y.state, v25_1]) aE (h60_.at 48) (h60_.at 45) rfl rfl st55 rfl bP rfl ?_)))))); intro W61 st62
  refine aB (wp_seq (aA ?_))
  have hb64 := hb57.up
  refine rn st62 3 h60_ [1] [(1, I (((((K + 1) + 1) + 1) + 1) + 1))] [.ad ((((K + 1) + 1) + 1) + 1) 1 hb64.i64] aE fun f65 h65_ => (aB (wp_seq (aA (rn st62 7 h65_ [] [(56, v25_0), (57, I (((((K + 1) + 1) + 1) + 1) + 1))] [qx hPA18, qp 0 rfl 5] aE fun f67 h67_ => ?_))))
  have hb73 := hb64.upc
  refine sg (bJ Tryz.func87 rfl (h67_.at 56) (h67_.at 57) ((markEdgeS_n st62.f1 (((((K + 1) + 1) + 1) + 1) + 1) hb64.lo hb64.hi).mono ?_)); rintro _ W68 ⟨fp71, rfl, st70⟩; refine ⟨_, rfl, ?_⟩
  refine sg (aC (v := I ((((((K + 1) + 1) + 1) + 1) + 1) + (cL bL y.plan.edges : Nat))) rfl (aB (wp_seq (aA (rn st70 5 h67_.put.put [] [(61, I ((((((K + 1) + 1) + 1) + 1) + 1) + (cL bL y.plan.edges : Nat))), (63, .pointer (some ⟨b18, pre18.length + 6, none⟩))] [qx hPA18] aE fun f77 h77_ => (sgn (bE (i := 6) (v := I ((((((K + 1) + 1) + 1) + 1) + 1) + (cL bL y.plan.edges : Nat))) (C' := [I K, I (K + 1), I ((K + 1) + 1), I (((K + 1) + 1) + 1), I ((((K + 1) + 1) + 1) + 1), v25_0, I ((((((K + 1) + 1) + 1) + 1) + 1) + (cL bL y.plan.edges : Nat)), v25_1]) aE (h77_.at 63) (h77_.at 61) rfl rfl st70.f1 rfl bP rfl ?_))))))); intro W79 st80
  refine aB (wp_seq (aA ?_))
  have hb82 := hb73.up
  refine rn st80 3 h77_ [1] [(1, I (((((((K + 1) + 1) + 1) + 1) + 1) + (cL bL y.plan.edges : Nat)) + 1))] [.ad ((((((K + 1) + 1) + 1) + 1) + 1) + (cL bL y.plan.edges : Nat)) 1 hb82.i64] aE fun f83 h83_ => (aB (aA (lw h83_ [(0, v), (1, I (((((((K + 1) + 1) + 1) + 1) + 1) + (cL bL y.plan.edges : Nat)) + 1)), (5, I (i : Int))] aE fun h86_ => (rn st80 6 h86_ [] [(70, v25_1), (71, I (((((((K + 1) + 1) + 1) + 1) + 1) + (cL bL y.plan.edges : Nat)) + 1))] [qx hPA18, qp 0 rfl 7] aE fun f85 h85_ => ?_))))
  have hb92 := hb82.upc
  refine sg (bJ Tryz.func116 rfl (h85_.at 70) (h85_.at 71) ((markTaskS_n st80.f2 (((((((K + 1) + 1) + 1) + 1) + 1) + (cL bL y.plan.edges : Nat)) + 1) hb82.lo hb82.hi).mono ?_)); rintro _ W87 ⟨fp90, rfl, st89⟩; refine ⟨_, rfl, ?_⟩
  refine sg (aC (v := I ((((((((K + 1) + 1) + 1) + 1) + 1) + (cL bL y.plan.edges : Nat)) + 1) + (cL cK y.tasks : Nat))) rfl (aB (aA (rn st89 3 h85_.put.put [5] [(5, I ((i : Int) + 1))] [qad (i : Int) 1] aE fun f96 h96_ => (aB ?_)))))
  have st98 := iH (x := (⟨K, ⟨K + 1, (K + 1) + 1, ((K + 1) + 1) + 1, (((K + 1) + 1) + 1) + 1, mkL iJ bL y.plan.edges (((((K + 1) + 1) + 1) + 1) + 1)⟩, (((((K + 1) + 1) + 1) + 1) + 1) + (cL bL y.plan.edges : Nat), mkL iI cK y.tasks (((((((K + 1) + 1) + 1) + 1) + 1) + (cL bL y.plan.edges : Nat)) + 1)⟩ : Run)) st89.f2 eS
  try dsimp only at st98
  have st100 := st98.cs rfl
  have hq_ := St.give (α := Run) st100.f2.f1.f2
  obtain ⟨fp104, st105⟩ := hq_
  exact ⟨_, xs.length - (i + 1), aD, rfl, i + 1, (((((((K + 1) + 1) + 1) + 1) + 1) + (cL bL y.plan.edges : Nat)) + 1) + (cL cK y.tasks : Nat), fp104, aD, aD, rfl, (h96_.to aE), (by rw [← kQ hy hK]; exact st105)⟩
 ·refine wp_exit (wp_seq (aA (sg (aF (v := I K) (h13_.at 1) (sg (aC (v := I K) rfl (aB (wr (aL Tryz.results58 rfl ?_)))))))))
  obtain rfl : i = xs.length := by omega
  have hca := jL cV xs _ rfl
  rw [pG rfl] at st10
  exact ⟨_, fI aD, st10⟩
theorem heldRunS_n (w : World) {v : Value} {x : List Run} {fp : List Nat} {k : Int} (h : Sl w v (mkL jN cV x k) fp) (h0 : 0 ≤ k) (hk : k + (cL cV x : Nat) ≤ 4611686018427387904) :
  Calls Tryz.prog 118 #[v, I k] w fun e w' => e = .returned (I (k + (cL cV x : Nat))) ∧ St w w' [] := by
 have hcap := h.len_le
 rw [eQ] at hcap
 have hml : (mkL jN cV x k).length = x.length := eQ _ _
 refine bR Tryz.func118 rfl Tryz.ntmps118 aX (wp_seq (aA (sg (aC (v := I 0) rfl (aB (wp_seq (wp_seq (aA (sg (aC (v := I 0) rfl (aB (wp_block (aY (fun (m : Nat) (f : Nat → Value) (W : World) => ∃ (i : Nat) (K : Int), i ≤ x.length ∧ K = k + (cL cV (x.take i) : Nat) ∧ m = x.length - i ∧ Ag [(0, v), (1, I K), (5, I (i : Int))] f ∧ St w W ([])) (x.length - 0) ?_ ?_)))))))))))))
 ·exact ⟨0, k, Nat.zero_le _, (by simp [cL]), rfl, (Ag.nil.put.put.put.put.to aE), (St.start w)⟩
 intro m5 f6 W7 hJ8
 obtain ⟨i, K, hi, hK, rfl, hA10, st9⟩ := hJ8
 refine wp_seq (wp_seq (aA (rn st9 4 hA10 [] [(9, .bool (decide ((i : Int) < ((mkL jN cV x k).length : Int))))] [ql h, .o] aE fun f12 h12_ => (aB (aK (h12_.at 9) (fun h13p => ?_) (fun h13p => ?_))))))
 ·refine wp_skip (wp_seq (wp_block (wp_seq (wp_seq (aA (sg (aF (v := v) (h12_.at 0) (sg (aF (v := I (i : Int)) (h12_.at 5) ?_)))))))))
  have hq_ := eH (xs := x) (i := i) aD
  obtain ⟨y, hy⟩ := hq_
  have hcs := gI cV hy
  have hcl := eZ cV x (i + 1)
  have hne : cV y = 6 + cL bL y.plan.edges + cL cK y.tasks := rfl
  have hb17 : Bd K (1 + (1 + (1 + (1 + (1 + ((cL bL y.plan.edges) + (1 + ((cL cK y.tasks) + (0))))))))) := ⟨by omega, by omega⟩
  have hq_ := vX h hy hK
  obtain ⟨b16, o16, cs16, f16, hp16, hr16, hc16, hm16⟩ := hq_
  have hk18 := hc16
  obtain ⟨v18_0, v18_1, g18_0, g18_1, he18, hok18, h18_0, h18_1, rfl⟩ := hk18
  have he18 : _ = [I K, I (K + 1), I ((K + 1) + 1), I (((K + 1) + 1) + 1), I ((((K + 1) + 1) + 1) + 1), v18_0, I ((((((K + 1) + 1) + 1) + 1) + 1) + (cL bL y.plan.edges : Nat)), v18_1] := he18; subst he18
  have h18_0 : Sl _ v18_0 (mkL iJ bL y.plan.edges (((((K + 1) + 1) + 1) + 1) + 1)) _ := h18_0
  have h18_1 : Sl _ v18_1 (mkL iI cK y.tasks (((((((K + 1) + 1) + 1) + 1) + 1) + (cL bL y.plan.edges : Nat)) + 1)) _ := h18_1
  refine rn st9 5 h12_.put.put [] [(18, .bool (!decide (K = K)))] [qx hp16, qr hr16 0, .o] aE fun f20 h20_ => (aB (cB (h20_.at 18) (fun h21p => ?_) (fun h21p => ?_)))
  ·exact absurd rfl h21p
  ·refine wp_skip (wp_seq (aA ?_))
   have hb23 := hb17.up
   refine rn st9 3 h20_ [1] [(1, I (K + 1))] [.ad K 1 hb23.i64] aE fun f24 h24_ => (aB (wp_seq (wp_seq (aA (sg (aF (v := v) (h24_.at 0) (sg (aF (v := I (i : Int)) (h24_.at 5) (rn st9 6 h24_.put.put [] [(28, .bool (!decide ((K + 1) = (K + 1))))] [qx hp16, qr hr16 1, .o] aE fun f29 h29_ => (aB (cB (h29_.at 28) (fun h30p => ?_) (fun h30p => ?_))))))))))))
   ·exact absurd rfl h30p
   ·refine wp_skip (wp_seq (aA ?_))
    have hb32 := hb23.up
    refine rn st9 3 h29_ [1] [(1, I ((K + 1) + 1))] [.ad (K + 1) 1 hb32.i64] aE fun f33 h33_ => (aB (wp_seq (wp_seq (aA (sg (aF (v := v) (h33_.at 0) (sg (aF (v := I (i : Int)) (h33_.at 5) (lw h33_.put.put [(0, v), (1, I ((K + 1) + 1)), (5, I (i : Int)), (31, v), (32, I (i : Int))] aE fun h39_ => (rn st9 6 h39_ [] [(38, .bool (!decide (((K + 1) + 1) = ((K + 1) + 1))))] [qx hp16, qr hr16 2, .o] aE fun f38 h38_ => (aB (cB (h38_.at 38) (fun h40p => ?_) (fun h40p => ?_)))))))))))))
    ·exact absurd rfl h40p
    ·refine wp_skip (wp_seq (aA ?_))
     have hb42 := hb32.up
     refine rn st9 3 h38_ [1] [(1, I (((K + 1) + 1) + 1))] [.ad ((K + 1) + 1) 1 hb42.i64] aE fun f43 h43_ => (aB (wp_seq (wp_seq (aA (sg (aF (v := v) (h43_.at 0) (sg (aF (v := I (i : Int)) (h43_.at 5) (rn st9 6 h43_.put.put [] [(48, .bool (!decide ((((K + 1) + 1) + 1) = (((K + 1) + 1) + 1))))] [qx hp16, qr hr16 3, .o] aE fun f48 h48_ => (aB (cB (h48_.at 48) (fun h49p => ?_) (fun h49p => ?_))))))))))))
     ·exact absurd rfl h49p
     ·refine wp_skip (wp_seq (aA ?_))
      have hb51 := hb42.up
      refine rn st9 3 h48_ [1] [(1, I ((((K + 1) + 1) + 1) + 1))] [.ad (((K + 1) + 1) + 1) 1 hb51.i64] aE fun f52 h52_ => (aB (wp_seq (wp_seq (aA (sg (aF (v := v) (h52_.at 0) (sg (aF (v := I (i : Int)) (h52_.at 5) (rn st9 6 h52_.put.put [] [(58, .bool (!decide (((((K + 1) + 1) + 1) + 1) = ((((K + 1) + 1) + 1) + 1))))] [qx hp16, qr hr16 4, .o] aE fun f57 h57_ => (aB (cB (h57_.at 58) (fun h58p => ?_) (fun h58p => ?_))))))))))))
      ·exact absurd rfl h58p
      ·refine wp_skip (wp_seq (aA ?_))
       have hb60 := hb51.up
       refine rn st9 3 h57_ [1] [(1, I (((((K + 1) + 1) + 1) + 1) + 1))] [.ad ((((K + 1) + 1) + 1) + 1) 1 hb60.i64] aE fun f61 h61_ => (aB (wp_seq (aA (sg (aF (v := v) (h61_.at 0) (sg (aF (v := I (i : Int)) (h61_.at 5) (lw h61_.put.put [(0, v), (1, I (((((K + 1) + 1) + 1) + 1) + 1)), (5, I (i : Int)), (61, v), (62, I (i : Int))] aE fun h67_ => (rn st9 5 h67_ [] [(66, v18_0), (67, I (((((K + 1) + 1) + 1) + 1) + 1))] [qx hp16, qr hr16 5] aE fun f66 h66_ => ?_)))))))))
       have hb72 := hb60.upc
       refine sg (bJ Tryz.func182 rfl (h66_.at 66) (h66_.at 67) ((heldEdgeS_n W7 (x := y.plan.edges) (h18_0.below st9.below) hb60.lo hb60.hi).mono ?_)); rintro _ W68 ⟨rfl, hk69⟩; refine ⟨_, rfl, ?_⟩
       have st70 := St.call st9 hk69
       refine sg (aC (v := I ((((((K + 1) + 1) + 1) + 1) + 1) + (cL bL y.plan.edges : Nat))) rfl (aB (wp_seq (wp_seq (aA (sg (aF (v := I ((((((K + 1) + 1) + 1) + 1) + 1) + (cL bL y.plan.edges : Nat))) rfl (sg (bS rfl rfl (aB (aK rfl (fun h77p => ?_) (fun h77p => ?_))))))))))))
       ·exact absurd h77p (Int.not_lt.2 hb72.1)
       ·refine wp_skip (wp_seq (wp_seq (aA (sg (aF (v := v) (h66_.at 0) (sg (aF (v := I (i : Int)) (h66_.at 5) (rn st70 5 h66_.put.put.put.put.put.put [] [(77, .bool (!decide ((((((((K + 1) + 1) + 1) + 1) + 1) + (cL bL y.plan.edges : Nat)) : Int) = ((((((K + 1) + 1) + 1) + 1) + 1) + (cL bL y.plan.edges : Nat)))))] [qx hp16, qr hr16 6, .o] aE fun f82 h82_ => (aB (cB (h82_.at 77) (fun h83p => ?_) (fun h83p => ?_)))))))))))
        ·exact absurd rfl h83p
        ·refine wp_skip (wp_seq (aA ?_))
         have hb85 := hb72.up
         refine rn st70 3 h82_ [1] [(1, I (((((((K + 1) + 1) + 1) + 1) + 1) + (cL bL y.plan.edges : Nat)) + 1))] [.ad ((((((K + 1) + 1) + 1) + 1) + 1) + (cL bL y.plan.edges : Nat)) 1 hb85.i64] aE fun f86 h86_ => (aB (wp_seq (aA (sg (aF (v := v) (h86_.at 0) (sg (aF (v := I (i : Int)) (h86_.at 5) (rn st70 4 h86_.put.put [] [(84, v18_1), (85, I (((((((K + 1) + 1) + 1) + 1) + 1) + (cL bL y.plan.edges : Nat)) + 1))] [qx hp16, qr hr16 7] aE fun f91 h91_ => ?_))))))))
         have hb96 := hb85.upc
         refine sg (bJ Tryz.func183 rfl (h91_.at 84) (h91_.at 85) ((heldTaskS_n W68 (x := y.tasks) (h18_1.below st70.below) hb85.lo hb85.hi).mono ?_)); rintro _ W92 ⟨rfl, hk93⟩; refine ⟨_, rfl, ?_⟩
         have st94 := St.call st70 hk93
         refine sg (aC (v := I ((((((((K + 1) + 1) + 1) + 1) + 1) + (cL bL y.plan.edges : Nat)) + 1) + (cL cK y.tasks : Nat))) rfl (aB (wp_seq (aA (sg (aF (v := I ((((((((K + 1) + 1) + 1) + 1) + 1) + (cL bL y.plan.edges : Nat)) + 1) + (cL cK y.tasks : Nat))) rfl (sg (bS rfl rfl (aB (aK rfl (fun h101p => ?_) (fun h101p => ?_)))))))))))
         ·exact absurd h101p (Int.not_lt.2 hb96.1)
         ·refine wp_skip (aA (lw h91_.put.put.put.put [(0, v), (1, I ((((((((K + 1) + 1) + 1) + 1) + 1) + (cL bL y.plan.edges : Nat)) + 1) + (cL cK y.tasks : Nat))), (5, I (i : Int))] aE fun h104_ => (rn st94 3 h104_ [5] [(5, I ((i : Int) + 1))] [qad (i : Int) 1] aE fun f103 h103_ => (aB ?_))))
          exact ⟨_, x.length - (i + 1), aD, rfl, i + 1, (((((((K + 1) + 1) + 1) + 1) + 1) + (cL bL y.plan.edges : Nat)) + 1) + (cL cK y.tasks : Nat), aD, aD, rfl, (h103_.to aE), st94⟩
 ·refine wp_exit (wp_seq (aA (sg (aF (v := I K) (h12_.at 1) (sg (aC (v := I K) rfl (aB (wr (aL Tryz.results118 rfl ?_)))))))))
  obtain rfl : i = x.length := by omega
  have hca := jL cV x _ rfl
  exact ⟨fI aD, st9.bare⟩
theorem markEntrySS_n {w W0 : World} {rs : List Res} {v : Value} {xs : List (List Entry)} {fp : List Nat} (hst : St w W0 (Res.own v xs fp :: rs)) (k : Int) (h0 : 0 ≤ k) (hk : k + (cL (cL aS) xs : Nat) ≤ 4611686018427387904) :
  Calls Tryz.prog 57 #[v, I k] W0 fun e w' => ∃ fp', e = .returned (I (k + (cL (cL aS) xs : Nat))) ∧ St w w' (Res.own v (mkL (mkL eK aS) (cL aS) xs k) fp' :: rs) := by
 have hcap := (aI (hst.get 0 rfl)).len_le
 refine bR Tryz.func57 rfl Tryz.ntmps57 aX (wp_seq (aA (sg (aC (v := I 0) rfl (aB (wp_seq (wp_seq (aA (sg (aC (v := I 0) rfl (aB (wp_block (aY (fun (m : Nat) (f : Nat → Value) (W : World) => ∃ (i : Nat) (K : Int) (fo5 : List Nat), i ≤ xs.length ∧ K = k + (cL (cL aS) (xs.take i) : Nat) ∧ m = xs.length - i ∧ Ag [(0, v), (1, I K), (5, I (i : Int))] f ∧ St w W (Res.own (α := List (List Entry)) v (mkL (mkL eK aS) (cL aS) (xs.take i) k ++ xs.drop i) fo5 :: rs)) (xs.length - 0) ?_ ?_)))))))))))))
 ·exact ⟨0, k, fp, Nat.zero_le _, (by simp [cL]), rfl, (Ag.nil.put.put.put.put.to aE), (by simpa [mkL] using hst)⟩
 intro m6 f7 W8 hJ9
 obtain ⟨i, K, fo5, hi, hK, rfl, hA11, st10⟩ := hJ9
 have hlx : (mkL (mkL eK aS) (cL aS) (xs.take i) k ++ xs.drop i).length = xs.length := by rw [List.length_append, eQ, List.length_take, List.length_drop]; omega
 refine wp_seq (wp_seq (aA (rn st10 4 hA11 [] [(9, .bool (decide ((i : Int) < ((mkL (mkL eK aS) (cL aS) (xs.take i) k ++ xs.drop i).length : Int))))] [ql (aI (st10.get 0 rfl)), .o] aE fun f13 h13_ => (aB (aK (h13_.at 9) (fun h14p => ?_) (fun h14p => ?_))))))
 ·refine wp_skip (wp_seq (wp_block (aA (sg (aF (v := v) (h13_.at 0) (sg (aF (v := I (i : Int)) (h13_.at 5) ?_)))))))
  have hq_ := eH (xs := xs) (i := i) aD
  obtain ⟨y, hy⟩ := hq_
  have hcs := gI (cL aS) hy
  have hcl := eZ (cL aS) xs (i + 1)
  have hne : cL aS y = cL aS y := rfl
  have hb17 : Bd K ((cL aS y) + (0)) := ⟨by omega, by omega⟩
  have hq_ := St.lendx (α := List Entry) aX st10 (x := y) (mK hy)
  obtain ⟨b18, e18, pre18, cs18, post18, fi18, fr18, hPA18, hC18, st19⟩ := hq_
  have hq_ := st19.f1.uncs1
  obtain ⟨v18, he18, st24⟩ := hq_; subst he18
  refine rn st24 3 h13_.put.put [] [(15, v18), (16, I K)] [qx hPA18, qp 1 rfl 0] aE fun f26 h26_ => ?_
  have hb31 := hb17.upc
  refine sg (bJ Tryz.func115 rfl (h26_.at 15) (h26_.at 16) ((markEntryS_n st24 K hb17.lo hb17.hi).mono ?_)); rintro _ W27 ⟨fp30, rfl, st29⟩; refine ⟨_, rfl, ?_⟩
  refine sg (aC (v := I (K + (cL aS y : Nat))) rfl (aB (aA (rn st29 3 h26_.put.put [5] [(5, I ((i : Int) + 1))] [qad (i : Int) 1] aE fun f35 h35_ => (aB ?_)))))
  have st36 := st29.cs1
  have hq_ := St.give (α := List Entry) st36.f2.f1.f2
  obtain ⟨fp40, st41⟩ := hq_
  exact ⟨_, xs.length - (i + 1), aD, rfl, i + 1, K + (cL aS y : Nat), fp40, aD, aD, rfl, (h35_.to aE), (by rw [← kQ hy hK]; exact st41)⟩
 ·refine wp_exit (wp_seq (aA (sg (aF (v := I K) (h13_.at 1) (sg (aC (v := I K) rfl (aB (wr (aL Tryz.results57 rfl ?_)))))))))
  obtain rfl : i = xs.length := by omega
  have hca := jL (cL aS) xs _ rfl
  rw [pG rfl] at st10
  exact ⟨_, fI aD, st10⟩
theorem heldEntrySS_n (w : World) {v : Value} {x : List (List Entry)} {fp : List Nat} {k : Int} (h : Sl w v (mkL (mkL eK aS) (cL aS) x k) fp) (h0 : 0 ≤ k) (hk : k + (cL (cL aS) x : Nat) ≤ 4611686018427387904) :
  Calls Tryz.prog 117 #[v, I k] w fun e w' => e = .returned (I (k + (cL (cL aS) x : Nat))) ∧ St w w' [] := by
 have hcap := h.len_le
 rw [eQ] at hcap
 have hml : (mkL (mkL eK aS) (cL aS) x k).length = x.length := eQ _ _
 refine bR Tryz.func117 rfl Tryz.ntmps117 aX (wp_seq (aA (sg (aC (v := I 0) rfl (aB (wp_seq (wp_seq (aA (sg (aC (v := I 0) rfl (aB (wp_block (aY (fun (m : Nat) (f : Nat → Value) (W : World) => ∃ (i : Nat) (K : Int), i ≤ x.length ∧ K = k + (cL (cL aS) (x.take i) : Nat) ∧ m = x.length - i ∧ Ag [(0, v), (1, I K), (5, I (i : Int))] f ∧ St w W ([])) (x.length - 0) ?_ ?_)))))))))))))
 ·exact ⟨0, k, Nat.zero_le _, (by simp [cL]), rfl, (Ag.nil.put.put.put.put.to aE), (St.start w)⟩
 intro m5 f6 W7 hJ8
 obtain ⟨i, K, hi, hK, rfl, hA10, st9⟩ := hJ8
 refine wp_seq (wp_seq (aA (rn st9 4 hA10 [] [(9, .bool (decide ((i : Int) < ((mkL (mkL eK aS) (cL aS) x k).length : Int))))] [ql h, .o] aE fun f12 h12_ => (aB (aK (h12_.at 9) (fun h13p => ?_) (fun h13p => ?_))))))
 ·refine wp_skip (wp_seq (wp_block (wp_seq (aA (sg (aF (v := v) (h12_.at 0) (sg (aF (v := I (i : Int)) (h12_.at 5) ?_))))))))
  have hq_ := eH (xs := x) (i := i) aD
  obtain ⟨y, hy⟩ := hq_
  have hcs := gI (cL aS) hy
  have hcl := eZ (cL aS) x (i + 1)
  have hne : cL aS y = cL aS y := rfl
  have hb17 : Bd K ((cL aS y) + (0)) := ⟨by omega, by omega⟩
  have hq_ := vX h hy hK
  obtain ⟨b16, o16, cs16, f16, hp16, hr16, hc16, hm16⟩ := hq_
  obtain ⟨v18, rfl, h19⟩ := hc16
  have h19 : Sl _ v18 (mkL eK aS y K) f16 := h19
  refine rn st9 3 h12_.put.put [] [(15, v18), (16, I K)] [qx hp16, qr hr16 0] aE fun f21 h21_ => ?_
  have hb26 := hb17.upc
  refine sg (bJ Tryz.func181 rfl (h21_.at 15) (h21_.at 16) ((heldEntryS_n W7 (x := y) (h19.below st9.below) hb17.lo hb17.hi).mono ?_)); rintro _ W22 ⟨rfl, hk23⟩; refine ⟨_, rfl, ?_⟩
  have st24 := St.call st9 hk23
  refine sg (aC (v := I (K + (cL aS y : Nat))) rfl (aB (wp_seq (aA (sg (aF (v := I (K + (cL aS y : Nat))) rfl (sg (bS rfl rfl (aB (aK rfl (fun h31p => ?_) (fun h31p => ?_)))))))))))
  ·exact absurd h31p (Int.not_lt.2 hb26.1)
  ·refine wp_skip (aA (rn st24 3 h21_.put.put.put.put [5] [(5, I ((i : Int) + 1))] [qad (i : Int) 1] aE fun f33 h33_ => (aB ?_)))
   exact ⟨_, x.length - (i + 1), aD, rfl, i + 1, K + (cL aS y : Nat), aD, aD, rfl, (h33_.to aE), st24⟩
 ·refine wp_exit (wp_seq (aA (sg (aF (v := I K) (h12_.at 1) (sg (aC (v := I K) rfl (aB (wr (aL Tryz.results117 rfl ?_)))))))))
  obtain rfl : i = x.length := by omega
  have hca := jL (cL aS) x _ rfl
  exact ⟨fI aD, st9.bare⟩
theorem markYard_n {w W0 : World} {rs : List Res} {x : Yard} {cs : List Value} {fp : List Nat} (hst : St w W0 (Res.own (.agg cs.toArray) x fp :: rs)) (k : Int) (h0 : 0 ≤ k) (hk : k + (dD x : Nat) ≤ 4611686018427387904) :
  Calls Tryz.prog 20 #[.agg cs.toArray, I k] W0 fun e w' => ∃ fp', e = .returned (I (k + (dD x : Nat))) ∧ St w w' (Res.own (.agg cs.toArray) (qM x k) fp' :: rs) := by
 have hk2 := hk
 unfold dD at hk2
 refine bR Tryz.func20 rfl Tryz.ntmps20 aX ?_
 have hb1 : Bd k ((cL (cL aS) x.shelf) + ((cL cV x.runs) + (0))) := ⟨by omega, by omega⟩
 refine wp_seq (aA (sg (aJ (cs := cs) rfl hst ?_))); intro b2 W3 hb4 st5
 refine sg (aC (v := I 0) rfl (aB (wp_seq (aA ?_))))
 have hq_ := eB st5.f1
 obtain ⟨v11_0, v11_1, g11_0, g11_1, he11, hok11, st12⟩ := hq_
 subst he11
 refine rn st12 3 Ag.nil.put.put.put.put [] [(6, v11_0), (7, I k)] [qb 2 rfl 2] aE fun f15 h15_ => ?_
 have hb20 := hb1.upc
 refine sg (bJ Tryz.func57 rfl (h15_.at 6) (h15_.at 7) ((markEntrySS_n st12 k hb1.lo hb1.hi).mono ?_)); rintro _ W16 ⟨fp19, rfl, st18⟩; refine ⟨_, rfl, ?_⟩
 refine sg (aC (v := I (k + (cL (cL aS) x.shelf : Nat))) rfl (aB (wp_seq (aA (rn st18 3 h15_.put.put [] [(10, v11_1), (11, I (k + (cL (cL aS) x.shelf : Nat)))] [qb 2 rfl 3] aE fun f24 h24_ => ?_)))))
 have hb30 := hb20.upc
 refine sg (bJ Tryz.func58 rfl (h24_.at 10) (h24_.at 11) ((markRunS_n st18.f1 (k + (cL (cL aS) x.shelf : Nat)) hb20.lo hb20.hi).mono ?_)); rintro _ W25 ⟨fp28, rfl, st27⟩; refine ⟨_, rfl, ?_⟩
 refine sg (aC (v := I ((k + (cL (cL aS) x.shelf : Nat)) + (cL cV x.runs : Nat))) rfl (aB (wp_seq (aA (sg (aF (v := I ((k + (cL (cL aS) x.shelf : Nat)) + (cL cV x.runs : Nat))) rfl (sg (aC (v := I ((k + (cL (cL aS) x.shelf : Nat)) + (cL cV x.runs : Nat))) rfl (aB (wr (aL Tryz.results20 rfl ?_)))))))))))
 have st36 := eN (x := (qM x k)) st27.f1 hok11
 exact ⟨_, fI (by unfold dD; push_cast; omega), st36.d1⟩
theorem heldYard_n (w : World) {x : Yard} {cs : List Value} {fp : List Nat} {k : Int} (hc : Shape.C w cs (qM x k) fp) (h0 : 0 ≤ k) (hk : k + (dD x : Nat) ≤ 4611686018427387904) :
  Calls Tryz.prog 60 #[.agg cs.toArray, I k] w fun e w' => e = .returned (I (k + (dD x : Nat))) ∧ St w w' [] := by
 have hk2 := hk
 have hnt : dD x = cL (cL aS) x.shelf + cL cV x.runs := rfl
 refine bR Tryz.func60 rfl Tryz.ntmps60 aX ?_
 have hb1 : Bd k ((cL (cL aS) x.shelf) + ((cL cV x.runs) + (0))) := ⟨by omega, by omega⟩
 refine wp_seq (aA (sg (aJ (cs := cs) rfl (St.start w) ?_))); intro b2 W3 hb4 st5
 refine sg (aC (v := I 0) rfl (aB (wp_seq (aA ?_))))
 have hk10 := hc
 obtain ⟨v10_0, v10_1, g10_0, g10_1, he10, hok10, h10_0, h10_1, rfl⟩ := hk10
 have he10 : _ = [I x.now, I x.seq, v10_0, v10_1] := he10; subst he10
 have h10_0 : Sl _ v10_0 (mkL (mkL eK aS) (cL aS) x.shelf k) _ := h10_0
 have h10_1 : Sl _ v10_1 (mkL jN cV x.runs (k + (cL (cL aS) x.shelf : Nat))) _ := h10_1
 refine rn st5 3 Ag.nil.put.put.put.put [] [(6, v10_0), (7, I k)] [qb 0 rfl 2] aE fun f11 h11_ => ?_
 have hb16 := hb1.upc
 refine sg (bJ Tryz.func117 rfl (h11_.at 6) (h11_.at 7) ((heldEntrySS_n W3 (x := x.shelf) (h10_0.below st5.below) hb1.lo hb1.hi).mono ?_)); rintro _ W12 ⟨rfl, hk13⟩; refine ⟨_, rfl, ?_⟩
 have st14 := St.call st5 hk13
 refine sg (aC (v := I (k + (cL (cL aS) x.shelf : Nat))) rfl (aB (wp_seq (wp_seq (aA (sg (aF (v := I (k + (cL (cL aS) x.shelf : Nat))) rfl (sg (bS rfl rfl (aB (aK rfl (fun h21p => ?_) (fun h21p => ?_))))))))))))
 ·exact absurd h21p (Int.not_lt.2 hb16.1)
 ·refine wp_skip (wp_seq (aA (rn st14 3 h11_.put.put.put.put [] [(12, v10_1), (13, I (k + (cL (cL aS) x.shelf : Nat)))] [qb 0 rfl 3] aE fun f23 h23_ => ?_)))
  have hb28 := hb16.upc
  refine sg (bJ Tryz.func118 rfl (h23_.at 12) (h23_.at 13) ((heldRunS_n W12 (x := x.runs) (h10_1.below st14.below) hb16.lo hb16.hi).mono ?_)); rintro _ W24 ⟨rfl, hk25⟩; refine ⟨_, rfl, ?_⟩
  have st26 := St.call st14 hk25
  refine sg (aC (v := I ((k + (cL (cL aS) x.shelf : Nat)) + (cL cV x.runs : Nat))) rfl (aB (wp_seq (wp_seq (aA (sg (aF (v := I ((k + (cL (cL aS) x.shelf : Nat)) + (cL cV x.runs : Nat))) rfl (sg (bS rfl rfl (aB (aK rfl (fun h33p => ?_) (fun h33p => ?_))))))))))))
  ·exact absurd h33p (Int.not_lt.2 hb28.1)
  ·refine wp_skip (wp_seq (aA (sg (aF (v := I ((k + (cL (cL aS) x.shelf : Nat)) + (cL cV x.runs : Nat))) rfl (sg (aC (v := I ((k + (cL (cL aS) x.shelf : Nat)) + (cL cV x.runs : Nat))) rfl (aB (wr (aL Tryz.results60 rfl ?_)))))))))
   exact ⟨fI aD, st26.bare⟩
theorem markReplyS_n {w W0 : World} {rs : List Res} {v : Value} {xs : List Reply} {fp : List Nat} (hst : St w W0 (Res.own v xs fp :: rs)) (k : Int) (h0 : 0 ≤ k) (hk : k + (cL cC xs : Nat) ≤ 4611686018427387904) :
  Calls Tryz.prog 59 #[v, I k] W0 fun e w' => ∃ fp', e = .returned (I (k + (cL cC xs : Nat))) ∧ St w w' (Res.own v (mkL iA cC xs k) fp' :: rs) := by
 have hcap := (aI (hst.get 0 rfl)).len_le
 refine bR Tryz.func59 rfl Tryz.ntmps59 aX (wp_seq (aA (sg (aC (v := I 0) rfl (aB (wp_seq (wp_seq (aA (sg (aC (v := I 0) rfl (aB (wp_block (aY (fun (m : Nat) (f : Nat → Value) (W : World) => ∃ (i : Nat) (K : Int) (fo5 : List Nat), i ≤ xs.length ∧ K = k + (cL cC (xs.take i) : Nat) ∧ m = xs.length - i ∧ Ag [(0, v), (1, I K), (5, I (i : Int))] f ∧ St w W (Res.own (α := List Reply) v (mkL iA cC (xs.take i) k ++ xs.drop i) fo5 :: rs)) (xs.length - 0) ?_ ?_)))))))))))))
 ·exact ⟨0, k, fp, Nat.zero_le _, (by simp [cL]), rfl, (Ag.nil.put.put.put.put.to aE), (by simpa [mkL] using hst)⟩
 intro m6 f7 W8 hJ9
 obtain ⟨i, K, fo5, hi, hK, rfl, hA11, st10⟩ := hJ9
 have hlx : (mkL iA cC (xs.take i) k ++ xs.drop i).length = xs.length := by rw [List.length_append, eQ, List.length_take, List.length_drop]; omega
 refine wp_seq (wp_seq (aA (rn st10 4 hA11 [] [(9, .bool (decide ((i : Int) < ((mkL iA cC (xs.take i) k ++ xs.drop i).length : Int))))] [ql (aI (st10.get 0 rfl)), .o] aE fun f13 h13_ => (aB (aK (h13_.at 9) (fun h14p => ?_) (fun h14p => ?_))))))
 ·refine wp_skip (wp_seq (wp_block (wp_seq (aA (rn st10 3 h13_ [] [(12, v), (13, I (i : Int)), (14, I K)] [] aE fun f16 h16_ => ?_)))))
  have hq_ := eH (xs := xs) (i := i) aD
  obtain ⟨y, hy⟩ := hq_
  have hcs := gI cC hy
  have hcl := eZ cC xs (i + 1)
  have hne : cC y = 4 := rfl
  have hb17 : Bd K (1 + (1 + (1 + (1 + (0))))) := ⟨by omega, by omega⟩
  have hq_ := St.lendx (α := Reply) aX st10 (x := y) (mK hy)
  obtain ⟨b18, e18, pre18, cs18, post18, fi18, fr18, hPA18, hC18, st19⟩ := hq_
  obtain ⟨he18, hf18, hok18⟩ := hC18; have he18 : _ = [I y.code, I y.run, I y.task, I y.try_] := he18; subst he18
  refine sg (aN lT (h16_.at 12) hPA18 (h16_.at 13) rfl (sg (aH uH rfl (sgn (bE (i := 0) (v := I K) (C' := [I K, I y.run, I y.task, I y.try_]) aE rfl (h16_.at 14) rfl rfl st19.d1 rfl bP rfl ?_))))); intro W26 st27
  refine aB (wp_seq (aA ?_))
  have hb29 := hb17.up
  refine rn st27 3 h16_.put.put [1] [(1, I (K + 1))] [.ad K 1 hb29.i64] aE fun f30 h30_ => (aB (wp_seq (aA (rn st27 5 h30_ [] [(21, I (K + 1)), (23, .pointer (some ⟨b18, pre18.length + 1, none⟩))] [qx hPA18] aE fun f32 h32_ => (sgn (bE (i := 1) (v := I (K + 1)) (C' := [I K, I (K + 1), I y.task, I y.try_]) aE (h32_.at 23) (h32_.at 21) rfl rfl st27 rfl bP rfl ?_)))))); intro W33 st34
  refine aB (wp_seq (aA ?_))
  have hb36 := hb29.up
  refine rn st34 3 h32_ [1] [(1, I ((K + 1) + 1))] [.ad (K + 1) 1 hb36.i64] aE fun f37 h37_ => (aB (wp_seq (aA (rn st34 5 h37_ [] [(28, I ((K + 1) + 1)), (30, .pointer (some ⟨b18, pre18.length + 2, none⟩))] [qx hPA18] aE fun f39 h39_ => (sgn (bE (i := 2) (v := I ((K + 1) + 1)) (C' := [I K, I (K + 1), I ((K + 1) + 1), I y.try_]) aE (h39_.at 30) (h39_.at 28) rfl rfl st34 rfl bP rfl ?_)))))); intro W40 st41
  refine aB (wp_seq (aA ?_))
  have hb43 := hb36.up
  refine rn st41 3 h39_ [1] [(1, I (((K + 1) + 1) + 1))] [.ad ((K + 1) + 1) 1 hb43.i64] aE fun f44 h44_ => (aB (wp_seq (aA (lw h44_ [(0, v), (1, I (((K + 1) + 1) + 1)), (5, I (i : Int))] aE fun h47_ => (rn st41 5 h47_ [] [(35, I (((K + 1) + 1) + 1)), (37, .pointer (some ⟨b18, pre18.length + 3, none⟩))] [qx hPA18] aE fun f46 h46_ => (sgn (bE (i := 3) (v := I (((K + 1) + 1) + 1)) (C' := [I K, I (K + 1), I ((K + 1) + 1), I (((K + 1) + 1) + 1)]) aE (h46_.at 37) (h46_.at 35) rfl rfl st41 rfl bP rfl ?_))))))); intro W48 st49
  refine aB (aA ?_)
  have hb51 := hb43.up
  refine rn st49 3 h46_ [1] [(1, I ((((K + 1) + 1) + 1) + 1))] [.ad (((K + 1) + 1) + 1) 1 hb51.i64] aE fun f52 h52_ => (aB (aA (rn st49 3 h52_ [5] [(5, I ((i : Int) + 1))] [qad (i : Int) 1] aE fun f54 h54_ => (aB ?_))))
  have st55 := st49.cs0 (cs := [I K, I (K + 1), I ((K + 1) + 1), I (((K + 1) + 1) + 1)]) (x := (⟨K, K + 1, (K + 1) + 1, ((K + 1) + 1) + 1⟩ : Reply)) ⟨rfl, rfl, eS⟩
  have hq_ := St.give (α := Reply) st55.f2.f1.f2
  obtain ⟨fp60, st61⟩ := hq_
  exact ⟨_, xs.length - (i + 1), aD, rfl, i + 1, (((K + 1) + 1) + 1) + 1, fp60, aD, aD, rfl, (h54_.to aE), (by rw [← kQ hy hK]; exact st61)⟩
 ·refine wp_exit (wp_seq (aA (sg (aF (v := I K) (h13_.at 1) (sg (aC (v := I K) rfl (aB (wr (aL Tryz.results59 rfl ?_)))))))))
  obtain rfl : i = xs.length := by omega
  have hca := jL cC xs _ rfl
  rw [pG rfl] at st10
  exact ⟨_, fI aD, st10⟩
theorem heldReplyS_n (w : World) {v : Value} {x : List Reply} {fp : List Nat} {k : Int} (h : Sl w v (mkL iA cC x k) fp) (h0 : 0 ≤ k) (hk : k + (cL cC x : Nat) ≤ 4611686018427387904) :
  Calls Tryz.prog 61 #[v, I k] w fun e w' => e = .returned (I (k + (cL cC x : Nat))) ∧ St w w' [] := by
 have hcap := h.len_le
 rw [eQ] at hcap
 have hml : (mkL iA cC x k).length = x.length := eQ _ _
 refine bR Tryz.func61 rfl Tryz.ntmps61 aX (wp_seq (aA (sg (aC (v := I 0) rfl (aB (wp_seq (wp_seq (aA (sg (aC (v := I 0) rfl (aB (wp_block (aY (fun (m : Nat) (f : Nat → Value) (W : World) => ∃ (i : Nat) (K : Int), i ≤ x.length ∧ K = k + (cL cC (x.take i) : Nat) ∧ m = x.length - i ∧ Ag [(0, v), (1, I K), (5, I (i : Int))] f ∧ St w W ([])) (x.length - 0) ?_ ?_)))))))))))))
 ·exact ⟨0, k, Nat.zero_le _, (by simp [cL]), rfl, (Ag.nil.put.put.put.put.to aE), (St.start w)⟩
 intro m5 f6 W7 hJ8
 obtain ⟨i, K, hi, hK, rfl, hA10, st9⟩ := hJ8
 refine wp_seq (wp_seq (aA (rn st9 4 hA10 [] [(9, .bool (decide ((i : Int) < ((mkL iA cC x k).length : Int))))] [ql h, .o] aE fun f12 h12_ => (aB (aK (h12_.at 9) (fun h13p => ?_) (fun h13p => ?_))))))
 ·refine wp_skip (wp_seq (wp_block (wp_seq (wp_seq (aA (sg (aF (v := v) (h12_.at 0) (sg (aF (v := I (i : Int)) (h12_.at 5) ?_)))))))))
  have hq_ := eH (xs := x) (i := i) aD
  obtain ⟨y, hy⟩ := hq_
  have hcs := gI cC hy
  have hcl := eZ cC x (i + 1)
  have hne : cC y = 4 := rfl
  have hb17 : Bd K (1 + (1 + (1 + (1 + (0))))) := ⟨by omega, by omega⟩
  have hq_ := vX h hy hK
  obtain ⟨b16, o16, cs16, f16, hp16, hr16, hc16, hm16⟩ := hq_
  have hk18 := hc16
  obtain ⟨he18, rfl, hok18⟩ := hk18
  have he18 : _ = [I K, I (K + 1), I ((K + 1) + 1), I (((K + 1) + 1) + 1)] := he18; subst he18
  refine rn st9 5 h12_.put.put [] [(18, .bool (!decide (K = K)))] [qx hp16, qr hr16 0, .o] aE fun f20 h20_ => (aB (cB (h20_.at 18) (fun h21p => ?_) (fun h21p => ?_)))
  ·exact absurd rfl h21p
  ·refine wp_skip (wp_seq (aA ?_))
   have hb23 := hb17.up
   refine rn st9 3 h20_ [1] [(1, I (K + 1))] [.ad K 1 hb23.i64] aE fun f24 h24_ => (aB (wp_seq (wp_seq (aA (sg (aF (v := v) (h24_.at 0) (sg (aF (v := I (i : Int)) (h24_.at 5) (rn st9 5 h24_.put.put [] [(27, .bool (!decide ((K + 1) = (K + 1))))] [qx hp16, qr hr16 1, .o] aE fun f29 h29_ => (aB (cB (h29_.at 27) (fun h30p => ?_) (fun h30p => ?_))))))))))))
   ·exact absurd rfl h30p
   ·refine wp_skip (wp_seq (aA ?_))
    have hb32 := hb23.up
    refine rn st9 3 h29_ [1] [(1, I ((K + 1) + 1))] [.ad (K + 1) 1 hb32.i64] aE fun f33 h33_ => (aB (wp_seq (wp_seq (aA (sg (aF (v := v) (h33_.at 0) (sg (aF (v := I (i : Int)) (h33_.at 5) (lw h33_.put.put [(0, v), (1, I ((K + 1) + 1)), (5, I (i : Int)), (30, v), (31, I (i : Int))] aE fun h39_ => (rn st9 5 h39_ [] [(36, .bool (!decide (((K + 1) + 1) = ((K + 1) + 1))))] [qx hp16, qr hr16 2, .o] aE fun f38 h38_ => (aB (cB (h38_.at 36) (fun h40p => ?_) (fun h40p => ?_)))))))))))))
    ·exact absurd rfl h40p
    ·refine wp_skip (wp_seq (aA ?_))
     have hb42 := hb32.up
     refine rn st9 3 h38_ [1] [(1, I (((K + 1) + 1) + 1))] [.ad ((K + 1) + 1) 1 hb42.i64] aE fun f43 h43_ => (aB (wp_seq (wp_seq (aA (sg (aF (v := v) (h43_.at 0) (sg (aF (v := I (i : Int)) (h43_.at 5) (rn st9 5 h43_.put.put [] [(45, .bool (!decide ((((K + 1) + 1) + 1) = (((K + 1) + 1) + 1))))] [qx hp16, qr hr16 3, .o] aE fun f48 h48_ => (aB (cB (h48_.at 45) (fun h49p => ?_) (fun h49p => ?_))))))))))))
     ·exact absurd rfl h49p
     ·refine wp_skip (aA ?_)
      have hb51 := hb42.up
      refine rn st9 3 h48_ [1] [(1, I ((((K + 1) + 1) + 1) + 1))] [.ad (((K + 1) + 1) + 1) 1 hb51.i64] aE fun f52 h52_ => (aB (aA (rn st9 3 h52_ [5] [(5, I ((i : Int) + 1))] [qad (i : Int) 1] aE fun f54 h54_ => (aB ?_))))
      exact ⟨_, x.length - (i + 1), aD, rfl, i + 1, (((K + 1) + 1) + 1) + 1, aD, aD, rfl, (h54_.to aE), st9⟩
 ·refine wp_exit (wp_seq (aA (sg (aF (v := I K) (h12_.at 1) (sg (aC (v := I K) rfl (aB (wr (aL Tryz.results61 rfl ?_)))))))))
  obtain rfl : i = x.length := by omega
  have hca := jL cC x _ rfl
  exact ⟨fI aD, st9.bare⟩
theorem tZ {w W0 : World} {rs : List Res} {x : Crew} {cs : List Value} {fp : List Nat} (hst : St w W0 (Res.own (.agg cs.toArray) x fp :: rs)) (k : Int) (h0 : 0 ≤ k) (hk : k + (dH x : Nat) ≤ 4611686018427387904) :
  Calls Tryz.prog 21 #[.agg cs.toArray, I k] W0 fun e w' => ∃ fp', e = .returned (I (k + (dH x : Nat))) ∧ St w w' (Res.own (.agg cs.toArray) (qN x k) fp' :: rs) := by
 have hk2 := hk
 unfold dH at hk2
 refine bR Tryz.func21 rfl Tryz.ntmps21 aX ?_
 have hb1 : Bd k ((dD x.yard) + ((cL cC x.holds) + (0))) := ⟨by omega, by omega⟩
 refine wp_seq (aA (sg (aJ (cs := cs) rfl hst ?_))); intro b2 W3 hb4 st5
 refine sg (aC (v := I 0) rfl (aB (wp_seq (aA ?_))))
 have hq_ := oB st5.f1
 obtain ⟨v11_0, v11_1, v11_2, g11_0, g11_1, g11_2, he11, hok11, st12⟩ := hq_
 subst he11
 refine rn st12 3 Ag.nil.put.put.put.put [] [(6, .agg #[I x.yard.now, I x.yard.seq, v11_0, v11_1]), (7, I k)] [qb 3 rfl 0] aE fun f16 h16_ => ?_
 have st23 := eN (x := x.yard) st12.f1.f1 eS
 have hb25 := hb1.upc
 refine sg (bJ Tryz.func20 rfl (h16_.at 6) (h16_.at 7) ((markYard_n st23 k hb1.lo hb1.hi).mono ?_)); rintro _ W17 ⟨fp20, rfl, st19⟩; refine ⟨_, rfl, ?_⟩
 have hq_ := eB st19
 obtain ⟨vq26_0, vq26_1, fq26_0, fq26_1, heq26, hokq26, st27⟩ := hq_
 have ev26_0 := Option.some.inj (congrArg (fun l : List Value => l[2]?) heq26); subst ev26_0
 have ev26_1 := Option.some.inj (congrArg (fun l : List Value => l[3]?) heq26); subst ev26_1
 refine sg (aC (v := I (k + (dD x.yard : Nat))) rfl (aB (wp_seq (aA (rn st27 3 h16_.put.put [] [(10, v11_2), (11, I (k + (dD x.yard : Nat)))] [qb 3 rfl 4] aE fun f31 h31_ => ?_)))))
 have hb37 := hb25.upc
 refine sg (bJ Tryz.func59 rfl (h31_.at 10) (h31_.at 11) ((markReplyS_n st27.f2 (k + (dD x.yard : Nat)) hb25.lo hb25.hi).mono ?_)); rintro _ W32 ⟨fp35, rfl, st34⟩; refine ⟨_, rfl, ?_⟩
 refine sg (aC (v := I ((k + (dD x.yard : Nat)) + (cL cC x.holds : Nat))) rfl (aB (wp_seq (aA (sg (aF (v := I ((k + (dD x.yard : Nat)) + (cL cC x.holds : Nat))) rfl (sg (aC (v := I ((k + (dD x.yard : Nat)) + (cL cC x.holds : Nat))) rfl (aB (wr (aL Tryz.results21 rfl ?_)))))))))))
 have st44 := fV (x := (qN x k)) st34.f2.f2 hok11
 exact ⟨_, fI (by unfold dH; push_cast; omega), st44.d1⟩
theorem uC (w : World) {x : Crew} {cs : List Value} {fp : List Nat} {k : Int} (hc : Shape.C w cs (qN x k) fp) (h0 : 0 ≤ k) (hk : k + (dH x : Nat) ≤ 4611686018427387904) :
  Calls Tryz.prog 22 #[.agg cs.toArray, I k] w fun e w' => e = .returned (I (k + (dH x : Nat))) ∧ St w w' [] := by
 have hk2 := hk
 have hnt : dH x = dD x.yard + cL cC x.holds := rfl
 refine bR Tryz.func22 rfl Tryz.ntmps22 aX ?_
 have hb1 : Bd k ((dD x.yard) + ((cL cC x.holds) + (0))) := ⟨by omega, by omega⟩
 refine wp_seq (aA (sg (aJ (cs := cs) rfl (St.start w) ?_))); intro b2 W3 hb4 st5
 refine sg (aC (v := I 0) rfl (aB (wp_seq (aA ?_))))
 have hk10 := hc
 obtain ⟨v10_0, v10_1, v10_2, g10_0, g10_1, g10_2, he10, hok10, h10_0, h10_1, h10_2, rfl⟩ := hk10
 have he10 : _ = [I x.yard.now, I x.yard.seq, v10_0, v10_1, v10_2, I x.turns, I x.did] := he10; subst he10
 have h10_0 : Sl _ v10_0 (mkL (mkL eK aS) (cL aS) x.yard.shelf k) _ := h10_0
 have h10_1 : Sl _ v10_1 (mkL jN cV x.yard.runs (k + (cL (cL aS) x.yard.shelf : Nat))) _ := h10_1
 have h10_2 : Sl _ v10_2 (mkL iA cC x.holds (k + (dD x.yard : Nat))) _ := h10_2
 refine rn st5 3 Ag.nil.put.put.put.put [] [(6, .agg #[I x.yard.now, I x.yard.seq, v10_0, v10_1]), (7, I k)] [qb 0 rfl 0] aE fun f11 h11_ => ?_
 have hb16 := hb1.upc
 refine sg (bJ Tryz.func60 rfl (h11_.at 6) (h11_.at 7) ((heldYard_n W3 (x := x.yard) (show Shape.C _ [I x.yard.now, I x.yard.seq, v10_0, v10_1] (qN x k).yard _ from ⟨_, _, _, _, rfl, eS, (h10_0.below st5.below), (h10_1.below st5.below), rfl⟩) hb1.lo hb1.hi).mono ?_)); rintro _ W12 ⟨rfl, hk13⟩; refine ⟨_, rfl, ?_⟩
 have st14 := St.call st5 hk13
 refine sg (aC (v := I (k + (dD x.yard : Nat))) rfl (aB (wp_seq (wp_seq (aA (sg (aF (v := I (k + (dD x.yard : Nat))) rfl (sg (bS rfl rfl (aB (aK rfl (fun h21p => ?_) (fun h21p => ?_))))))))))))
 ·exact absurd h21p (Int.not_lt.2 hb16.1)
 ·refine wp_skip (wp_seq (aA (rn st14 3 h11_.put.put.put.put [] [(12, v10_2), (13, I (k + (dD x.yard : Nat)))] [qb 0 rfl 4] aE fun f23 h23_ => ?_)))
  have hb28 := hb16.upc
  refine sg (bJ Tryz.func61 rfl (h23_.at 12) (h23_.at 13) ((heldReplyS_n W12 (x := x.holds) (h10_2.below st14.below) hb16.lo hb16.hi).mono ?_)); rintro _ W24 ⟨rfl, hk25⟩; refine ⟨_, rfl, ?_⟩
  have st26 := St.call st14 hk25
  refine sg (aC (v := I ((k + (dD x.yard : Nat)) + (cL cC x.holds : Nat))) rfl (aB (wp_seq (wp_seq (aA (sg (aF (v := I ((k + (dD x.yard : Nat)) + (cL cC x.holds : Nat))) rfl (sg (bS rfl rfl (aB (aK rfl (fun h33p => ?_) (fun h33p => ?_))))))))))))
  ·exact absurd h33p (Int.not_lt.2 hb28.1)
  ·refine wp_skip (wp_seq (aA (sg (aF (v := I ((k + (dD x.yard : Nat)) + (cL cC x.holds : Nat))) rfl (sg (aC (v := I ((k + (dD x.yard : Nat)) + (cL cC x.holds : Nat))) rfl (aB (wr (aL Tryz.results22 rfl ?_)))))))))
   exact ⟨fI aD, st26.bare⟩
theorem workOff_law (w : World) (cs0 : List Value) (x0 : Crew) (fp0 : List Nat) (hc0 : Shape.C w cs0 x0 fp0) (v1 : Value) (xs1 : List Int) (fp1 : List Nat) (hs1 : Sl w v1 xs1 fp1) :
  Calls Tryz.prog 7 #[.agg cs0.toArray, v1] w fun e w' => e = .returned (.bool true) ∧ Below w.heap.size w w' := by
 have hwx0 : x0.wt ≤ 1048576 → (fO x0 (xs1.take 600)).wt ≤ 1048576 := fun h => pP _ h
 refine bR Tryz.func7 rfl Tryz.ntmps7 aX (wp_seq (aA (sg (aJ (cs := cs0) rfl (St.start w) ?_)))); intro b1 W2 hb3 st4
 refine sg (aC (v := .bool false) rfl (aB (wp_seq (wp_seq (aA (rn st4 3 Ag.nil.put.put.put.put [] [(16, .bool (decide (1048576 < (xs1.length : Int))))] [ql hs1, .o] aE fun f9 h9_ => (aB (aK (h9_.at 16) (fun h10p => ?_) (fun h10p => ?_)))))))))
 ·refine wp_seq (aA (sg (aC (v := .bool true) rfl (aB (wr (aL Tryz.results7 rfl ?_))))))
  exact ⟨rfl, st4.below⟩
 ·refine wp_skip (wp_seq (aA (sg (aC (v := I 1048576) rfl (aB (wp_seq (aA (rc st4 4 h9_.put [5] [(5, I (szL 1048576 x0.wt))] [qw 0 rfl (Shape.len hc0), qc Tryz.func10 rfl (fun W s b => szCrew_n W (bA hc0 s.below) 1048576 aD aD)] aE fun f16 W17 h16_ st18 hb19 => (aB (wp_seq (wp_seq (aA ?_))))))))))))
  refine sg (aF (v := I (szL 1048576 x0.wt)) (h16_.at 5) (sg (bS rfl rfl (aB (aK rfl (fun h22p => ?_) (fun h22p => ?_))))))
  ·have h22q := lL h22p aD
   refine wp_seq (aA (sg (aC (v := .bool true) rfl (aB (wr (aL Tryz.results7 rfl ?_))))))
   exact ⟨rfl, st18.below⟩
  ·have h22q := lM h22p aD
   refine wp_skip (wp_seq (aA (sg (bB qS rfl (h16_.at 2) (st18.get 0 rfl) (Shape.len hc0) (sg (bF Tryz.func12 rfl rfl ((pS W17 (bA hc0 st18.below) (by first | exact hw | omega | (simp only [Plan.wt, Run.wt, Yard.wt, Deed.wt, Note.wt, File.wt, Disk.wt, Engine.wt, WorldD.wt, ActD.wt, Span.wt, Crew.wt] at *; omega))).mono ?_))))))); rintro _ W29 ⟨cs27, fp27, rfl, hk30⟩; refine ⟨_, rfl, ?_⟩
   have st31 := St.call st18 hk30
   refine sg (aF (v := v1) (h16_.at 1) (sg (bF Tryz.func24 rfl rfl ((pR W29 (hs1.below st31.below) (by first | exact hw | omega | (simp only [Plan.wt, Run.wt, Yard.wt, Deed.wt, Note.wt, File.wt, Disk.wt, Engine.wt, WorldD.wt, ActD.wt, Span.wt, Crew.wt] at *; omega))).mono ?_)))); rintro _ W37 ⟨v35, fp35, rfl, hk38⟩; refine ⟨_, rfl, ?_⟩
   have st39 := St.call st31 hk38
   refine sg (bJ Tryz.func29 rfl rfl rfl ((WorkOffS W37 (bO (st39.get 1 rfl) rfl) (aI (st39.get 0 rfl)) (by first | omega | (simp only [Crew.wt] at *; omega))).mono ?_)); rintro _ W43 ⟨cs41, fp41, rfl, hk44⟩; refine ⟨_, rfl, ?_⟩
   have st45 := St.call st39 hk44
   refine sg (aR gD st45 ?_); intro b47 W48 hb49 st50
   refine sgn (aO (cs := cs41) bT (bO (st50.get 1 rfl) rfl) rfl rfl st50 rfl ?_); intro W52 st53
   refine aB (wp_seq (aA (sg (bB qS rfl (h16_.at 2) (st53.get 4 rfl) (Shape.len hc0) (sg (bF Tryz.func12 rfl rfl ((pS W52 (bA hc0 st53.below) (by first | exact hw | omega | (simp only [Plan.wt, Run.wt, Yard.wt, Deed.wt, Note.wt, File.wt, Disk.wt, Engine.wt, WorldD.wt, ActD.wt, Span.wt, Crew.wt] at *; omega))).mono ?_))))))); rintro _ W58 ⟨cs56, fp56, rfl, hk59⟩; refine ⟨_, rfl, ?_⟩
   have st60 := St.call st53 hk59
   refine sg (aR gD st60 ?_); intro b62 W63 hb64 st65
   refine sgn (aO (cs := cs56) bT (bO (st65.get 1 rfl) rfl) rfl rfl st65 rfl ?_); intro W67 st68
   refine aB (wp_seq (aA (sg (aF (v := v1) (h16_.at 1) (sg (bF Tryz.func24 rfl rfl ((pR W67 (hs1.below st68.below) (by first | exact hw | omega | (simp only [Plan.wt, Run.wt, Yard.wt, Deed.wt, Note.wt, File.wt, Disk.wt, Engine.wt, WorldD.wt, ActD.wt, Span.wt, Crew.wt] at *; omega))).mono ?_))))))); rintro _ W73 ⟨v71, fp71, rfl, hk74⟩; refine ⟨_, rfl, ?_⟩
   have st75 := St.call st68 hk74
   refine sg (aC (v := v71) rfl (aB (wp_seq (aA (sg (bB bT rfl rfl (st75.get 1 rfl) (Shape.len (bO (st75.get 2 rfl) rfl)) (sg (aF (v := v71) rfl (sg (bJ Tryz.func30 rfl rfl rfl ((yP W73 (bO (st75.get 2 rfl) rfl) (aI (st75.get 0 rfl)) (by first | omega | (simp only [Crew.wt] at *; omega))).mono ?_))))))))))); rintro _ W83 ⟨cs81, fp81, rfl, hk84⟩; refine ⟨_, rfl, ?_⟩
   have st85 := St.call st75 hk84
   refine sg (aR gD st85 ?_); intro b87 W88 hb89 st90
   refine sgn (aO (cs := cs81) bT (bO (st90.get 1 rfl) rfl) rfl rfl st90 rfl ?_); intro W92 st93
   refine aB (wp_seq (wp_seq (aA (lw h16_.put.put.put.put.put.put.put.put.put.put.put.put.put.put.put.put.put.put [(1, v1), (2, .pointer (some ⟨b1, 0, none⟩)), (6, .pointer (some ⟨b47, 0, none⟩)), (7, .pointer (some ⟨b62, 0, none⟩)), (8, v71), (9, .pointer (some ⟨b87, 0, none⟩))] aE fun h96_ => (rc st93 4 h96_ [] [(37, .bool (!(eqB (fO x0 (xs1.take 600)) (fO x0 (xs1.take 600)))))] [qw 0 rfl (Shape.len (bO (st93.get 1 rfl) rfl)), qw 5 rfl (Shape.len (bO (st93.get 6 rfl) rfl)), qc Tryz.func14 rfl (fun W s b => qZ W (bO (s.get 1 rfl) rfl) (bO (s.get 6 rfl) rfl)), .o] aE fun f95 W97 h95_ st98 hb99 => (aB (cT (h95_.at 37) (fun h100 => ?_) (fun h100 => ?_))))))))
   ·exact absurd (aW h100) (by rw [dB rfl]; decide)
   ·refine wp_skip (wp_seq (wp_seq (oZ [Pl.is (.agg cs56.toArray), Pl.is (.agg cs0.toArray), Pl.sval (α := Crew) x0, Pl.bool (eqB x0 x0), Pl.bool (!(eqB x0 x0))] mix (by rfl) st98 ⟨(fun f W hst hbl hd hf => bB bT rfl ((hf 7 rfl).trans (h95_.at 7)) (hst.get 3 rfl) (Shape.len (bO (hst.get 4 rfl) rfl)) brq), (fun f W hst hbl hd hf => bB qS rfl ((hf 2 rfl).trans (h95_.at 2)) (hst.get 9 rfl) (Shape.len hc0) brq), (fun f W hst hbl hd hf => bF Tryz.func12 rfl (hd 1 39 rfl rfl) ((pS W (bA hc0 hst.below) (by first | exact hw | omega | (simp only [Plan.wt, Run.wt, Yard.wt, Deed.wt, Note.wt, File.wt, Disk.wt, Engine.wt, WorldD.wt, ActD.wt, Span.wt, Crew.wt] at *; omega))).mono (by rintro e W2 ⟨cs, fp, rfl, hk⟩; exact ⟨_, rfl, hk.below, fp, own_V (hk.get 0 rfl)⟩))), (fun f W hst hbl hd hf => by obtain ⟨fp103, cs103, e103, hc103⟩ := hd 2 40 rfl rfl; exact bJ Tryz.func14 rfl (hd 0 38 rfl rfl) e103 ((qZ W (bO (hst.get 4 rfl) rfl) hc103).mono (by rintro e W2 ⟨rfl, hk⟩; exact ⟨_, rfl, hk.below, rfl⟩))), (fun f W hst hbl hd hf => nU (hd 3 41 rfl rfl) brq), trivial⟩ ?_)))
    intro f104 W105 st106 hb107 hv108 hf109
    refine cT (hv108 4 42 aX rfl) (fun h111 => ?_) (fun h111 => ?_)
    ·exact absurd (aW h111) (by rw [dB rfl]; decide)
    ·refine wp_skip (wp_seq (wp_seq (aA (sg (aF (v := v71) ((hf109 8 rfl).trans (h95_.at 8)) (sg (aF (v := v1) ((hf109 1 rfl).trans (h95_.at 1)) (sg (bF Tryz.func24 rfl rfl ((pR W105 (hs1.below st106.below) (by first | exact hw | omega | (simp only [Plan.wt, Run.wt, Yard.wt, Deed.wt, Note.wt, File.wt, Disk.wt, Engine.wt, WorldD.wt, ActD.wt, Span.wt, Crew.wt] at *; omega))).mono ?_)))))))))); rintro _ W116 ⟨v114, fp114, rfl, hk117⟩; refine ⟨_, rfl, ?_⟩
     have st118 := St.call st106 hk117
     refine rc st118 2 (Ag.cons (show f104 1 = v1 from ((hf109 1 rfl).trans (h95_.at 1))) (Ag.cons (show f104 2 = .pointer (some ⟨b1, 0, none⟩) from ((hf109 2 rfl).trans (h95_.at 2))) (Ag.cons (show f104 6 = .pointer (some ⟨b47, 0, none⟩) from ((hf109 6 rfl).trans (h95_.at 6))) (Ag.cons (show f104 7 = .pointer (some ⟨b62, 0, none⟩) from ((hf109 7 rfl).trans (h95_.at 7))) (Ag.cons (show f104 8 = v71 from ((hf109 8 rfl).trans (h95_.at 8))) (Ag.cons (show f104 9 = .pointer (some ⟨b87, 0, none⟩) from ((hf109 9 rfl).trans (h95_.at 9))) Ag.nil)))))).put.put.put [] [(47, .bool (!(eqB xs1 xs1)))] [qc Tryz.func26 rfl (fun W s b => eqIntS_n W (aI (s.get 3 rfl)) (aI (s.get 0 rfl))), .o] aE fun f121 W122 h121_ st123 hb124 => (aB (cT (h121_.at 47) (fun h125 => ?_) (fun h125 => ?_)))
     ·exact absurd (aW h125) (by rw [dB rfl]; decide)
     ·refine wp_skip (wp_seq (aA (sg (aC (v := I 1) rfl (aB (wp_seq (aA (sg (bB bT rfl (h121_.at 7) (st123.get 4 rfl) (Shape.len (bO (st123.get 5 rfl) rfl)) (sg (aF (v := I 1) rfl (sg (bJ Tryz.func21 rfl rfl rfl ((tZ st123.f5 1 aD (by have := qJ x0; omega)).mono ?_)))))))))))))); rintro _ W130 ⟨fp133, rfl, st132⟩; refine ⟨_, rfl, ?_⟩
      refine sg (aC (v := I (1 + (dH x0 : Nat))) rfl (aB (wp_seq (aA (sg (aF (v := v71) (h121_.at 8) (sg (aF (v := I (1 + (dH x0 : Nat))) rfl (sg (bJ Tryz.func31 rfl rfl rfl ((markIntS_n st132.f4 (1 + (dH x0 : Nat)) aD (by have := cb_IntS xs1; have := qJ x0; omega)).mono ?_))))))))))); rintro _ W139 ⟨fp142, rfl, st141⟩; refine ⟨_, rfl, ?_⟩
      refine sg (aC (v := I ((1 + (dH x0 : Nat)) + (cL neI xs1 : Nat))) rfl (aB (wp_seq (wp_seq (aA ?_)))))
      rcases nem (((1 + (dH x0 : Nat)) + (cL neI xs1 : Nat)) < 0) with h147p | h147p
      ·have h147 := decide_eq_false h147p
       refine rc st141 8 h121_.put.put.put.put.put.put.put.put.put [] [(61, .bool false)] [qk h147, qw 3 rfl (Shape.len (bO (st141.get 4 rfl) rfl)), qw 6 rfl (Shape.len (bO (st141.get 7 rfl) rfl)), qc Tryz.func14 rfl (fun W s b => qZ W (bO (s.get 4 rfl) rfl) (bO (s.get 7 rfl) rfl)), qk h100] aE fun f148 W149 h148_ st150 hb151 => (aB (gK (h148_.at 61) rfl (wp_skip (wp_seq (aA (sg (aC (v := I 1) rfl (aB (wp_seq (aA (sg (bB bT rfl (h148_.at 9) (st150.get 3 rfl) (Shape.len (bO (st150.get 4 rfl) rfl)) (sg (aF (v := I 1) rfl ?_))))))))))))))
       refine sg (bJ Tryz.func21 rfl rfl rfl ((tZ st150.f4 1 aD (by have := qJ (fO x0 (xs1.take 600)); omega)).mono ?_)); rintro _ W156 ⟨fp159, rfl, st158⟩; refine ⟨_, rfl, ?_⟩
       refine sg (aC (v := I (1 + (dH (fO x0 (xs1.take 600)) : Nat))) rfl (aB (wp_seq (aA (sg (aC (v := I 1) rfl (aB (wp_seq (aA (sg (bB bT rfl (h148_.at 9) (st158.get 4 rfl) (Shape.len (bO (st158.get 0 rfl) rfl)) (sg (aF (v := I 1) rfl (sg (bJ Tryz.func22 rfl rfl rfl ((uC W156 (x := (fO x0 (xs1.take 600))) (bO (st158.get 0 rfl) rfl) aD (by have := qJ (fO x0 (xs1.take 600)); omega)).mono ?_)))))))))))))))); rintro _ W167 ⟨rfl, hk168⟩; refine ⟨_, rfl, ?_⟩
       have st169 := St.call st158 hk168
       refine sg (aC (v := I (1 + (dH (fO x0 (xs1.take 600)) : Nat))) rfl (aB (wp_seq (wp_seq (aA (sg (aF (v := I (1 + (dH (fO x0 (xs1.take 600)) : Nat))) rfl (sg (bS rfl rfl (aB (aK rfl (fun h175p => ?_) (fun h175p => ?_))))))))))))
       ·have h175 := decide_eq_true h175p
        omega
       ·have h175 := decide_eq_false h175p
        refine wp_skip (wp_seq (wp_seq (aA (lw h148_.put.put.put.put.put.put.put.put.put.put.put.put [(1, v1), (2, .pointer (some ⟨b1, 0, none⟩)), (6, .pointer (some ⟨b47, 0, none⟩)), (9, .pointer (some ⟨b87, 0, none⟩)), (11, I (1 + (dH (fO x0 (xs1.take 600)) : Nat))), (12, I (1 + (dH (fO x0 (xs1.take 600)) : Nat)))] aE fun h178_ => (rn st169 3 h178_ [] [(72, .bool (!decide (((1 + (dH (fO x0 (xs1.take 600)) : Nat)) : Int) = (1 + (dH (fO x0 (xs1.take 600)) : Nat)))))] [.o] aE fun f177 h177_ => (aB (cB (h177_.at 72) (fun h179p => ?_) (fun h179p => ?_))))))))
        ·have h179 := gR h179p
         exact absurd rfl h179p
        ·have h179 := gS h179p
         refine wp_skip (wp_seq (aA (sg (bB qS rfl (h177_.at 2) (st169.get 10 rfl) (Shape.len hc0) (sg (bF Tryz.func12 rfl rfl ((pS W167 (bA hc0 st169.below) (by first | exact hw | omega | (simp only [Plan.wt, Run.wt, Yard.wt, Deed.wt, Note.wt, File.wt, Disk.wt, Engine.wt, WorldD.wt, ActD.wt, Span.wt, Crew.wt] at *; omega))).mono ?_))))))); rintro _ W184 ⟨cs182, fp182, rfl, hk185⟩; refine ⟨_, rfl, ?_⟩
         have st186 := St.call st169 hk185
         refine sg (aF (v := v1) (h177_.at 1) (sg (bF Tryz.func24 rfl rfl ((pR W184 (hs1.below st186.below) (by first | exact hw | omega | (simp only [Plan.wt, Run.wt, Yard.wt, Deed.wt, Note.wt, File.wt, Disk.wt, Engine.wt, WorldD.wt, ActD.wt, Span.wt, Crew.wt] at *; omega))).mono ?_)))); rintro _ W192 ⟨v190, fp190, rfl, hk193⟩; refine ⟨_, rfl, ?_⟩
         have st194 := St.call st186 hk193
         refine sg (bJ Tryz.func30 rfl rfl rfl ((yP W192 (bO (st194.get 1 rfl) rfl) (aI (st194.get 0 rfl)) (by first | omega | (simp only [Crew.wt] at *; omega))).mono ?_)); rintro _ W198 ⟨cs196, fp196, rfl, hk199⟩; refine ⟨_, rfl, ?_⟩
         have st200 := St.call st194 hk199
         refine sg (aR gD st200 ?_); intro b202 W203 hb204 st205
         refine sgn (aO (cs := cs196) bT (bO (st205.get 1 rfl) rfl) rfl rfl st205 rfl ?_); intro W207 st208
         refine aB (wp_seq (wp_seq (aA (rc st208 4 h177_.put.put.put.put.put.put [] [(81, .bool false)] [qw 0 rfl (Shape.len (bO (st208.get 1 rfl) rfl)), qw 10 rfl (Shape.len (bO (st208.get 11 rfl) rfl)), qc Tryz.func14 rfl (fun W s b => qZ W (bO (s.get 1 rfl) rfl) (bO (s.get 11 rfl) rfl)), qk h100] aE fun f210 W211 h210_ st212 hb213 => (aB (gK (h210_.at 81) rfl (wp_skip (wp_seq (aA (sg (aC (v := I 1) rfl (aB ?_))))))))))))
         refine wp_seq (aA (sg (bB bT rfl (h210_.at 9) (st212.get 8 rfl) (Shape.len (bO (st212.get 4 rfl) rfl)) (sg (aF (v := I 1) rfl (sg (bJ Tryz.func22 rfl rfl rfl ((uC W211 (x := (fO x0 (xs1.take 600))) (bO (st212.get 4 rfl) rfl) aD (by have := qJ (fO x0 (xs1.take 600)); omega)).mono ?_)))))))); rintro _ W218 ⟨rfl, hk219⟩; refine ⟨_, rfl, ?_⟩
         have st220 := St.call st212 hk219
         refine sg (aC (v := I (1 + (dH (fO x0 (xs1.take 600)) : Nat))) rfl (aB (wp_seq (wp_seq (aA (sg (aF (v := I (1 + (dH (fO x0 (xs1.take 600)) : Nat))) rfl (sg (bS rfl rfl (aB (gK rfl h175 (wp_skip (wp_seq (wp_seq ?_))))))))))))))
         refine aA (lw h210_.put.put.put.put.put.put.put [(11, I (1 + (dH (fO x0 (xs1.take 600)) : Nat))), (12, I (1 + (dH (fO x0 (xs1.take 600)) : Nat)))] aE fun h228_ => (rn st220 3 h228_ [] [(89, .bool false)] [qk h179] aE fun f227 h227_ => (aB (gK (h227_.at 89) rfl (wp_skip (wp_seq (aA (sg (aC (v := .bool true) rfl (aB (wr (aL Tryz.results7 rfl ?_))))))))))))
         exact ⟨rfl, st220.below⟩
      ·have h147 := decide_eq_true h147p
       omega
end Go.Proofs.YtchnllpegfbleaaGreat
namespace Go.Proofs.YtchnllpegfbleaaGreat
set_option linter.unusedSimpArgs false
set_option linter.unusedVariables false
set_option maxRecDepth 100000
set_option maxHeartbeats 2000000
open Go.ChangeShapes Go.WideShapes Go.ChangeAt Go.RowKit Go.Deep
def iU (t : TypeId) (α : Type) [Shape α] : Prop := ∀ {H : Type} (enc : TypeId × Value → H) (w : World) (fuel : Nat) (cs : List Value) (x : DataW H × List MemPlace),
 DataW.trod enc Tryz.prog w 0 (fun _ => true) true fuel t cs = some x → ∃ (a : α) (fp : List Nat), Shape.C w cs a fp

theorem fF {n : Int} (h : (Lit.int .i64 n).wf = true) : I64 n := by
 have := bounds_i64 h
 exact this

theorem opens_int : iU 3 Int := by
 intro H enc w fuel cs x h
 obtain ⟨n, rfl, _, hw⟩ := DataW.trod_int Tryz.underlying3 h
 exact ⟨n, [], rfl, rfl, fF hw⟩

theorem hL {t e : TypeId} {α : Type} [Shape α] (ht : Tryz.prog.underlying t = some (.slice e)) (hC : Tryz.prog.cellsOf e = Shape.size α) (hp : 0 < Shape.size α) (he : iU e α) : iU t (List α) := by
 intro H enc w fuel cs x h
 rcases open_slice ht h with ⟨rfl, _⟩ | ⟨a, len, cap, m, n, D, Pl, rfl, _, hl, hm, hmm, _, hi⟩
 ·exact ⟨[], [], _, rfl, none, 0, rfl, Nat.le_refl _, by omega, .inl ⟨rfl, rfl⟩⟩
 ·simp only [if_true] at hmm
  subst hmm
  unfold maxLen at hm
  have key : ∀ k, k ≤ len → 0 < len → ∃ (xs : List α) (fp : List Nat), xs.length = k ∧ a.spot = none ∧ SlAt w a.block a.off xs fp := by
   intro k
   induction k with
   | zero =>
    intro _ hlp
    obtain ⟨cs', hc, _⟩ := hi 0 aD
    obtain ⟨_, hcl, hat⟩ := World.cells?_some hc
    rw [hC] at hcl hat
    have h0 := hat 0 hp
    have : a.spot = none := by
     have hlt : 0 < cs'.length := by omega
     rw [List.getElem?_eq_getElem hlt] at h0
     simpa [Addr.add] using World.cell?_spot h0
    exact ⟨[], [], rfl, this, rfl⟩
   | succ k ih =>
    intro hk hlp
    obtain ⟨xs, fp, hxl, hsp, hS⟩ := ih aD hlp
    obtain ⟨cs', hc, ht'⟩ := hi k aD
    obtain ⟨_, hcl, hat⟩ := World.cells?_some hc
    rw [hC] at hcl hat
    obtain ⟨x, f, hx⟩ := he enc w n cs' _ ht'
    refine ⟨xs ++ [x], fp ++ f, by simp [hxl], hsp, SlAt.snoc hS ?_ hx⟩
    intro j v hj
    have hjl : j < cs'.length := (List.getElem?_eq_some_iff.1 hj).1
    have := hat j aD
    rw [hj] at this
    rw [← this, hxl]
    obtain ⟨ab, ao, asp⟩ := a
    simp only at hsp
    subst hsp
    rw [Addr.add_mid, Addr.add_mid]
  by_cases hlp : 0 < len
  ·obtain ⟨xs, fp, hxl, hsp, hS⟩ := key len (Nat.le_refl _) hlp
   obtain ⟨ab, ao, asp⟩ := a
   simp only at hsp
   subst hsp
   subst hxl
   have hne : xs ≠ [] := by rintro rfl; simp at hlp
   refine ⟨xs, ab :: fp, _, rfl, _, m, rfl, hl, hm, .inr ⟨ab, ao, fp, hne, rfl, rfl, ?_, hS⟩⟩
   cases xs with
   | nil => exact absurd rfl hne
   | cons x xs =>
    obtain ⟨cs', f1, f2, hr, hc, _, _⟩ := hS
    have hl' := Shape.len hc
    have h0 := hr 0 _ (List.getElem?_eq_getElem aD)
    exact World.block_lt_of_cell? w _ h0
  ·obtain rfl : len = 0 := by omega
   exact ⟨[], [], _, rfl, _, m, rfl, by simp, hm, .inl ⟨rfl, rfl⟩⟩

theorem oO {H : Type} {enc : TypeId × Value → H} {W W' : World} (hl : laidOutB Tryz.prog = true) (hb : Below W.heap.size W W') : ∀ {ts : List TypeId} {vs : List Value} {ds : List (DataW H)} {p : List MemPlace},
  (∀ t ∈ ts, Tryz.prog.readableRec t = true ∧ t < Tryz.prog.types.size) → DataW.TrodAll enc Tryz.prog W 0 (fun _ => true) true ts vs ds p → (∀ x ∈ p, x.block < W.heap.size) →
  DataW.TrodAll enc Tryz.prog W' 0 (fun b => decide (b < W.heap.size)) true ts vs ds p
 | [], _, _, _, _, h, _ => by
  obtain ⟨rfl, rfl, rfl⟩ := trodAll_nil h
  exact trodAll_mk0
 | t :: ts, _, _, _, ht, h, hp => by
  obtain ⟨v1, vs1, d1, ds1, p1, q1, rfl, rfl, rfl, h1, r1⟩ := trodAll_cons h
  exact trodAll_cons_mk (Below.trod hl (ht t (by simp)).1 (ht t (by simp)).2 h1 hb (fun x hx => hp x (by simp [hx]))) (oO hl hb (fun t' h' => ht t' (by simp [h'])) r1 (fun x hx => hp x (by simp [hx])))

theorem open_param_slice {H : Type} {enc : TypeId × Value → H} {W : World} {base : Nat} {t e : TypeId} {α : Type} [Shape α] (ht : Tryz.prog.underlying t = some (.slice e)) (ho : iU t (List α)) {v : Value} {d : DataW H} {p : List MemPlace}
  (hv : Value.okWide Tryz.prog W .any base t v) (h : DataW.Trod enc Tryz.prog W 0 (fun _ => true) true t v d p) : ∃ (xs : List α) (fp : List Nat), Sl W v xs fp := by
 obtain ⟨a, len, cap, rfl⟩ := okWide_slice ht hv
 obtain ⟨fuel, hf⟩ := h
 obtain ⟨xs, fp, v', hv', hs⟩ := ho enc W fuel _ _ hf
 have : v' = .slice a len cap := (List.singleton_inj.1 hv').symm
 subst this
 exact ⟨xs, fp, hs⟩
theorem open_param_struct {H : Type} {enc : TypeId × Value → H} {W : World} {base : Nat} {t : TypeId} {fs : Array Field} {α : Type} [Shape α] (ht : Tryz.prog.underlying t = some (.struct fs)) (ho : iU t α) {v : Value} {d : DataW H} {p : List MemPlace}
  (hv : Value.okWide Tryz.prog W .any base t v) (h : DataW.Trod enc Tryz.prog W 0 (fun _ => true) true t v d p) : ∃ (cs : List Value) (x : α) (fp : List Nat), v = .agg cs.toArray ∧ Shape.C W cs x fp := by
 obtain ⟨cs, rfl, hsz⟩ := okWide_struct ht hv
 obtain ⟨fuel, hf⟩ := h
 obtain ⟨x, fp, hc⟩ := ho enc W fuel _ _ hf
 exact ⟨cs.toList, x, fp, rfl, hc⟩
theorem ownKnobTry : ownKnob Tryz.prog.godebug = none := by kernel_rfl
theorem laidOutTry : laidOutB Tryz.prog = true := by kernel_rfl
end Go.Proofs.YtchnllpegfbleaaGreat
namespace Go.Proofs.YtchnllpegfbleaaGreat
set_option linter.unusedSimpArgs false
set_option linter.unusedVariables false
set_option maxRecDepth 100000
set_option maxHeartbeats 2000000
open Go.ChangeShapes Go.WideShapes Go.ChangeAt Go.RowKit Go.Deep
theorem opens_intS : iU 49 (List Int) := hL Tryz.underlying49 aE aX opens_int
theorem opens_Edge : iU 228 Edge := by
 intro H enc w fuel cs x h
 obtain ⟨xs, n, _, hx, hl, hlen, hf⟩ := DataW.trod_struct Tryz.underlying228 h
 have hl' : cs.length = 2 := hl
 have hlen' : xs.length = 2 := hlen
 match cs, hl', xs, hlen' with
 | [c0, c1], _, [y0, y1], _ =>
  obtain ⟨n0, e0, _, w0⟩ := DataW.trod_int Tryz.underlying3 (hf 0 _ rfl)
  have e0' : [c0] = [I n0] := e0
  obtain rfl := List.singleton_inj.1 e0'
  obtain ⟨n1, e1, _, w1⟩ := DataW.trod_int Tryz.underlying3 (hf 1 _ rfl)
  have e1' : [c1] = [I n1] := e1
  obtain rfl := List.singleton_inj.1 e1'
  exact ⟨⟨n0, n1⟩, [], rfl, rfl, ⟨fF w0, fF w1⟩⟩
theorem opens_EdgeS : iU 94 (List Edge) := hL Tryz.underlying94 aE aX opens_Edge
theorem opens_Plan : iU 96 Plan := by
 intro H enc w fuel cs x h
 obtain ⟨xs, n, _, hx, hl, hlen, hf⟩ := DataW.trod_struct Tryz.underlying96 h
 have hl' : cs.length = 5 := hl
 have hlen' : xs.length = 5 := hlen
 match cs, hl', xs, hlen' with
 | [c0, c1, c2, c3, c4], _, [y0, y1, y2, y3, y4], _ =>
  obtain ⟨n0, e0, _, w0⟩ := DataW.trod_int Tryz.underlying3 (hf 0 _ rfl)
  have e0' : [c0] = [I n0] := e0
  obtain rfl := List.singleton_inj.1 e0'
  obtain ⟨n1, e1, _, w1⟩ := DataW.trod_int Tryz.underlying3 (hf 1 _ rfl)
  have e1' : [c1] = [I n1] := e1
  obtain rfl := List.singleton_inj.1 e1'
  obtain ⟨n2, e2, _, w2⟩ := DataW.trod_int Tryz.underlying3 (hf 2 _ rfl)
  have e2' : [c2] = [I n2] := e2
  obtain rfl := List.singleton_inj.1 e2'
  obtain ⟨n3, e3, _, w3⟩ := DataW.trod_int Tryz.underlying3 (hf 3 _ rfl)
  have e3' : [c3] = [I n3] := e3
  obtain rfl := List.singleton_inj.1 e3'
  obtain ⟨l4, g4, u4, e4, s4⟩ := opens_EdgeS enc w n _ _ (hf 4 _ rfl)
  have e4' : [c4] = [u4] := e4
  obtain rfl := List.singleton_inj.1 e4'
  exact ⟨⟨n0, n1, n2, n3, l4⟩, _, _, g4, rfl, ⟨fF w0, fF w1, fF w2, fF w3⟩, s4, rfl⟩
theorem opens_Entry : iU 188 Entry := by
 intro H enc w fuel cs x h
 obtain ⟨xs, n, _, hx, hl, hlen, hf⟩ := DataW.trod_struct Tryz.underlying188 h
 have hl' : cs.length = 4 := hl
 have hlen' : xs.length = 4 := hlen
 match cs, hl', xs, hlen' with
 | [c0, c1, c2, c3], _, [y0, y1, y2, y3], _ =>
  obtain ⟨n0, e0, _, w0⟩ := DataW.trod_int Tryz.underlying3 (hf 0 _ rfl)
  have e0' : [c0] = [I n0] := e0
  obtain rfl := List.singleton_inj.1 e0'
  obtain ⟨n1, e1, _, w1⟩ := DataW.trod_int Tryz.underlying3 (hf 1 _ rfl)
  have e1' : [c1] = [I n1] := e1
  obtain rfl := List.singleton_inj.1 e1'
  obtain ⟨n2, e2, _, w2⟩ := DataW.trod_int Tryz.underlying3 (hf 2 _ rfl)
  have e2' : [c2] = [I n2] := e2
  obtain rfl := List.singleton_inj.1 e2'
  obtain ⟨n3, e3, _, w3⟩ := DataW.trod_int Tryz.underlying3 (hf 3 _ rfl)
  have e3' : [c3] = [I n3] := e3
  obtain rfl := List.singleton_inj.1 e3'
  exact ⟨⟨n0, n1, n2, n3⟩, [], rfl, rfl, ⟨fF w0, fF w1, fF w2, fF w3⟩⟩
theorem opens_EntryS : iU 134 (List Entry) := hL Tryz.underlying134 aE aX opens_Entry
theorem opens_Task : iU 218 Task := by
 intro H enc w fuel cs x h
 obtain ⟨xs, n, _, hx, hl, hlen, hf⟩ := DataW.trod_struct Tryz.underlying218 h
 have hl' : cs.length = 4 := hl
 have hlen' : xs.length = 4 := hlen
 match cs, hl', xs, hlen' with
 | [c0, c1, c2, c3], _, [y0, y1, y2, y3], _ =>
  obtain ⟨n0, e0, _, w0⟩ := DataW.trod_int Tryz.underlying3 (hf 0 _ rfl)
  have e0' : [c0] = [I n0] := e0
  obtain rfl := List.singleton_inj.1 e0'
  obtain ⟨n1, e1, _, w1⟩ := DataW.trod_int Tryz.underlying3 (hf 1 _ rfl)
  have e1' : [c1] = [I n1] := e1
  obtain rfl := List.singleton_inj.1 e1'
  obtain ⟨n2, e2, _, w2⟩ := DataW.trod_int Tryz.underlying3 (hf 2 _ rfl)
  have e2' : [c2] = [I n2] := e2
  obtain rfl := List.singleton_inj.1 e2'
  obtain ⟨n3, e3, _, w3⟩ := DataW.trod_int Tryz.underlying3 (hf 3 _ rfl)
  have e3' : [c3] = [I n3] := e3
  obtain rfl := List.singleton_inj.1 e3'
  exact ⟨⟨n0, n1, n2, n3⟩, [], rfl, rfl, ⟨fF w0, fF w1, fF w2, fF w3⟩⟩
theorem opens_TaskS : iU 136 (List Task) := hL Tryz.underlying136 aE aX opens_Task
theorem opens_Run : iU 138 Run := by
 intro H enc w fuel cs x h
 obtain ⟨xs, n, _, hx, hl, hlen, hf⟩ := DataW.trod_struct Tryz.underlying138 h
 have hl' : cs.length = 8 := hl
 have hlen' : xs.length = 4 := hlen
 match cs, hl', xs, hlen' with
 | [c0, c1, c2, c3, c4, c5, c6, c7], _, [y0, y1, y2, y3], _ =>
  obtain ⟨n0, e0, _, w0⟩ := DataW.trod_int Tryz.underlying3 (hf 0 _ rfl)
  have e0' : [c0] = [I n0] := e0
  obtain rfl := List.singleton_inj.1 e0'
  obtain ⟨z1, gz1, u1_0, g1_0, e1, ok1, s1_0, _⟩ := opens_Plan enc w n _ _ (hf 1 _ rfl)
  have e1' : [c1, c2, c3, c4, c5] = [I z1.prio, I z1.most, I z1.wait, I z1.tasks, u1_0] := e1
  simp only [List.cons.injEq, and_true] at e1'
  obtain ⟨rfl, rfl, rfl, rfl, rfl⟩ := e1'
  obtain ⟨n2, e2, _, w2⟩ := DataW.trod_int Tryz.underlying3 (hf 2 _ rfl)
  have e2' : [c6] = [I n2] := e2
  obtain rfl := List.singleton_inj.1 e2'
  obtain ⟨l3, g3, u3, e3, s3⟩ := opens_TaskS enc w n _ _ (hf 3 _ rfl)
  have e3' : [c7] = [u3] := e3
  obtain rfl := List.singleton_inj.1 e3'
  exact ⟨⟨n0, z1, n2, l3⟩, _, _, _, g1_0, g3, rfl, ⟨fF w0, ok1, fF w2⟩, s1_0, s3, rfl⟩
theorem opens_RunS : iU 23 (List Run) := hL Tryz.underlying23 aE aX opens_Run
theorem opens_EntrySS : iU 22 (List (List Entry)) := hL Tryz.underlying22 aE aX opens_EntryS
theorem opens_Yard : iU 25 Yard := by
 intro H enc w fuel cs x h
 obtain ⟨xs, n, _, hx, hl, hlen, hf⟩ := DataW.trod_struct Tryz.underlying25 h
 have hl' : cs.length = 4 := hl
 have hlen' : xs.length = 4 := hlen
 match cs, hl', xs, hlen' with
 | [c0, c1, c2, c3], _, [y0, y1, y2, y3], _ =>
  obtain ⟨n0, e0, _, w0⟩ := DataW.trod_int Tryz.underlying3 (hf 0 _ rfl)
  have e0' : [c0] = [I n0] := e0
  obtain rfl := List.singleton_inj.1 e0'
  obtain ⟨n1, e1, _, w1⟩ := DataW.trod_int Tryz.underlying3 (hf 1 _ rfl)
  have e1' : [c1] = [I n1] := e1
  obtain rfl := List.singleton_inj.1 e1'
  obtain ⟨l2, g2, u2, e2, s2⟩ := opens_EntrySS enc w n _ _ (hf 2 _ rfl)
  have e2' : [c2] = [u2] := e2
  obtain rfl := List.singleton_inj.1 e2'
  obtain ⟨l3, g3, u3, e3, s3⟩ := opens_RunS enc w n _ _ (hf 3 _ rfl)
  have e3' : [c3] = [u3] := e3
  obtain rfl := List.singleton_inj.1 e3'
  exact ⟨⟨n0, n1, l2, l3⟩, _, _, _, g2, g3, rfl, ⟨fF w0, fF w1⟩, s2, s3, rfl⟩
theorem opens_Reply : iU 99 Reply := by
 intro H enc w fuel cs x h
 obtain ⟨xs, n, _, hx, hl, hlen, hf⟩ := DataW.trod_struct Tryz.underlying99 h
 have hl' : cs.length = 4 := hl
 have hlen' : xs.length = 4 := hlen
 match cs, hl', xs, hlen' with
 | [c0, c1, c2, c3], _, [y0, y1, y2, y3], _ =>
  obtain ⟨n0, e0, _, w0⟩ := DataW.trod_int Tryz.underlying3 (hf 0 _ rfl)
  have e0' : [c0] = [I n0] := e0
  obtain rfl := List.singleton_inj.1 e0'
  obtain ⟨n1, e1, _, w1⟩ := DataW.trod_int Tryz.underlying3 (hf 1 _ rfl)
  have e1' : [c1] = [I n1] := e1
  obtain rfl := List.singleton_inj.1 e1'
  obtain ⟨n2, e2, _, w2⟩ := DataW.trod_int Tryz.underlying3 (hf 2 _ rfl)
  have e2' : [c2] = [I n2] := e2
  obtain rfl := List.singleton_inj.1 e2'
  obtain ⟨n3, e3, _, w3⟩ := DataW.trod_int Tryz.underlying3 (hf 3 _ rfl)
  have e3' : [c3] = [I n3] := e3
  obtain rfl := List.singleton_inj.1 e3'
  exact ⟨⟨n0, n1, n2, n3⟩, [], rfl, rfl, ⟨fF w0, fF w1, fF w2, fF w3⟩⟩
theorem opens_ReplyS : iU 26 (List Reply) := hL Tryz.underlying26 aE aX opens_Reply
theorem opens_Crew : iU 28 Crew := by
 intro H enc w fuel cs x h
 obtain ⟨xs, n, _, hx, hl, hlen, hf⟩ := DataW.trod_struct Tryz.underlying28 h
 have hl' : cs.length = 7 := hl
 have hlen' : xs.length = 4 := hlen
 match cs, hl', xs, hlen' with
 | [c0, c1, c2, c3, c4, c5, c6], _, [y0, y1, y2, y3], _ =>
  obtain ⟨z0, gz0, u0_0, u0_1, g0_0, g0_1, e0, ok0, s0_0, s0_1, _⟩ := opens_Yard enc w n _ _ (hf 0 _ rfl)
  have e0' : [c0, c1, c2, c3] = [I z0.now, I z0.seq, u0_0, u0_1] := e0
  simp only [List.cons.injEq, and_true] at e0'
  obtain ⟨rfl, rfl, rfl, rfl⟩ := e0'
  obtain ⟨l1, g1, u1, e1, s1⟩ := opens_ReplyS enc w n _ _ (hf 1 _ rfl)
  have e1' : [c4] = [u1] := e1
  obtain rfl := List.singleton_inj.1 e1'
  obtain ⟨n2, e2, _, w2⟩ := DataW.trod_int Tryz.underlying3 (hf 2 _ rfl)
  have e2' : [c5] = [I n2] := e2
  obtain rfl := List.singleton_inj.1 e2'
  obtain ⟨n3, e3, _, w3⟩ := DataW.trod_int Tryz.underlying3 (hf 3 _ rfl)
  have e3' : [c6] = [I n3] := e3
  obtain rfl := List.singleton_inj.1 e3'
  exact ⟨⟨z0, l1, n2, n3⟩, _, _, _, _, g0_0, g0_1, g1, rfl, ⟨ok0, fF w2, fF w3⟩, s0_0, s0_1, s1, rfl⟩
end Go.Proofs.YtchnllpegfbleaaGreat
