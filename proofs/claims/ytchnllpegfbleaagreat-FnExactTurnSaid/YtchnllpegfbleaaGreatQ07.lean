/-
  The laws' marks, walked.
  The law on Turn, walked.
  What is handed to a law, taken out of the row's reading: it is data in memory, as the walks want it.
  A law's arguments, taken out of the row's reading.
-/
import Derived.ProofKit
import Derived.OpenShut
import Derived.Test.YtchnllpegfbleaaGreatQ01
import Derived.Test.YtchnllpegfbleaaGreatQ02
import Derived.Test.YtchnllpegfbleaaGreatQ03
import Derived.Test.YtchnllpegfbleaaGreatQ06
namespace Go.Proofs.YtchnllpegfbleaaGreat
set_option linter.unusedSimpArgs false
set_option linter.unusedVariables false
set_option maxRecDepth 100000
set_option maxHeartbeats 2000000
open Go.RowKit
theorem markEdgeS_n {w W0 : World} {rs : List Res} {v : Value} {xs : List Edge} {fp : List Nat} (hst : St w W0 (Res.own v xs fp :: rs)) (k : Int) (h0 : 0 ≤ k) (hk : k + (cL bL xs : Nat) ≤ 4611686018427387904) :
  Calls Tryz.prog 87 #[v, I k] W0 fun e w' => ∃ fp', e = .returned (I (k + (cL bL xs : Nat))) ∧ St w w' (Res.own v (mkL iG bL xs k) fp' :: rs) := by
 have hcap := (aJ (hst.get 0 rfl)).len_le
 refine bR Tryz.func87 rfl Tryz.ntmps87 aX (wp_seq (aA (sg (aC (v := I 0) rfl (aB (wp_seq (wp_seq (aA (sg (aC (v := I 0) rfl (aB (wp_block (aY (fun (m : Nat) (f : Nat → Value) (W : World) => ∃ (i : Nat) (K : Int) (fo5 : List Nat), i ≤ xs.length ∧ K = k + (cL bL (xs.take i) : Nat) ∧ m = xs.length - i ∧ Ag [(0, v), (1, I K), (5, I (i : Int))] f ∧ St w W (Res.own (α := List Edge) v (mkL iG bL (xs.take i) k ++ xs.drop i) fo5 :: rs)) (xs.length - 0) ?_ ?_)))))))))))))
 ·exact ⟨0, k, fp, Nat.zero_le _, (by simp [cL]), rfl, (Ag.nil.put.put.put.put.to aE), (by simpa [mkL] using hst)⟩
 intro m6 f7 W8 hJ9
 obtain ⟨i, K, fo5, hi, hK, rfl, hA11, st10⟩ := hJ9
 have hlx : (mkL iG bL (xs.take i) k ++ xs.drop i).length = xs.length := by rw [List.length_append, eT, List.length_take, List.length_drop]; omega
 refine wp_seq (wp_seq (aA (rn st10 4 hA11 [] [(9, .bool (decide ((i : Int) < ((mkL iG bL (xs.take i) k ++ xs.drop i).length : Int))))] [ql (aJ (st10.get 0 rfl)), .o] aE fun f13 h13_ => (aB (aK (h13_.at 9) (fun h14p => ?_) (fun h14p => ?_))))))
 ·refine wp_skip (wp_seq (wp_block (wp_seq (aA (rn st10 3 h13_ [] [(12, v), (13, I (i : Int)), (14, I K)] [] aE fun f16 h16_ => ?_)))))
  have hq_ := eR (xs := xs) (i := i) aD
  obtain ⟨y, hy⟩ := hq_
  have hcs := gP bL hy
  have hcl := fF bL xs (i + 1)
  have hne : bL y = 2 := rfl
  have hb17 : Bd K (1 + (1 + (0))) := ⟨by omega, by omega⟩
  have hq_ := St.lendx (α := Edge) aX st10 (x := y) (oA hy)
  obtain ⟨b18, e18, pre18, cs18, post18, fi18, fr18, hPA18, hC18, st19⟩ := hq_
  obtain ⟨he18, hf18, hok18⟩ := hC18; have he18 : _ = [I y.from_, I y.to_] := he18; subst he18
  refine sg (aN iD (h16_.at 12) hPA18 (h16_.at 13) rfl (sg (aH rU rfl (sgn (bC (i := 0) (v := I K) (C' := [I K, I y.to_]) aE rfl (h16_.at 14) rfl rfl st19.d1 rfl bP rfl ?_))))); intro W26 st27
  refine aB (wp_seq (aA ?_))
  have hb29 := hb17.up
  refine rn st27 3 h16_.put.put [1] [(1, I (K + 1))] [.ad K 1 hb29.i64] aE fun f30 h30_ => (aB (wp_seq (aA (rn st27 5 h30_ [] [(21, I (K + 1)), (23, .pointer (some ⟨b18, pre18.length + 1, none⟩))] [qx hPA18] aE fun f32 h32_ => (sgn (bC (i := 1) (v := I (K + 1)) (C' := [I K, I (K + 1)]) aE (h32_.at 23) (h32_.at 21) rfl rfl st27 rfl bP rfl ?_)))))); intro W33 st34
  refine aB (aA ?_)
  have hb36 := hb29.up
  refine rn st34 3 h32_ [1] [(1, I ((K + 1) + 1))] [.ad (K + 1) 1 hb36.i64] aE fun f37 h37_ => (aB (aA (rn st34 3 h37_ [5] [(5, I ((i : Int) + 1))] [qad (i : Int) 1] aE fun f39 h39_ => (aB ?_))))
  have st40 := st34.cs0 (cs := [I K, I (K + 1)]) (x := (⟨K, K + 1⟩ : Edge)) ⟨rfl, rfl, eP⟩
  have hq_ := St.give (α := Edge) st40.f2.f1.f2
  obtain ⟨fp45, st46⟩ := hq_
  exact ⟨_, xs.length - (i + 1), aD, rfl, i + 1, (K + 1) + 1, fp45, aD, aD, rfl, (h39_.to aE), (by rw [← lV hy hK]; exact st46)⟩
 ·refine wp_exit (wp_seq (aA (sg (aF (v := I K) (h13_.at 1) (sg (aC (v := I K) rfl (aB (wr (aL Tryz.results87 rfl ?_)))))))))
  obtain rfl : i = xs.length := by omega
  have hca := jX bL xs _ rfl
  rw [rO rfl] at st10
  exact ⟨_, fI aD, st10⟩
theorem heldEdgeS_n (w : World) {v : Value} {x : List Edge} {fp : List Nat} {k : Int} (h : Sl w v (mkL iG bL x k) fp) (h0 : 0 ≤ k) (hk : k + (cL bL x : Nat) ≤ 4611686018427387904) :
  Calls Tryz.prog 182 #[v, I k] w fun e w' => e = .returned (I (k + (cL bL x : Nat))) ∧ St w w' [] := by
 have hcap := h.len_le
 rw [eT] at hcap
 have hml : (mkL iG bL x k).length = x.length := eT _ _
 refine bR Tryz.func182 rfl Tryz.ntmps182 aX (wp_seq (aA (sg (aC (v := I 0) rfl (aB (wp_seq (wp_seq (aA (sg (aC (v := I 0) rfl (aB (wp_block (aY (fun (m : Nat) (f : Nat → Value) (W : World) => ∃ (i : Nat) (K : Int), i ≤ x.length ∧ K = k + (cL bL (x.take i) : Nat) ∧ m = x.length - i ∧ Ag [(0, v), (1, I K), (5, I (i : Int))] f ∧ St w W ([])) (x.length - 0) ?_ ?_)))))))))))))
 ·exact ⟨0, k, Nat.zero_le _, (by simp [cL]), rfl, (Ag.nil.put.put.put.put.to aE), (St.start w)⟩
 intro m5 f6 W7 hJ8
 obtain ⟨i, K, hi, hK, rfl, hA10, st9⟩ := hJ8
 refine wp_seq (wp_seq (aA (rn st9 4 hA10 [] [(9, .bool (decide ((i : Int) < ((mkL iG bL x k).length : Int))))] [ql h, .o] aE fun f12 h12_ => (aB (aK (h12_.at 9) (fun h13p => ?_) (fun h13p => ?_))))))
 ·refine wp_skip (wp_seq (wp_block (wp_seq (wp_seq (aA (sg (aF (v := v) (h12_.at 0) (sg (aF (v := I (i : Int)) (h12_.at 5) ?_)))))))))
  have hq_ := eR (xs := x) (i := i) aD
  obtain ⟨y, hy⟩ := hq_
  have hcs := gP bL hy
  have hcl := fF bL x (i + 1)
  have hne : bL y = 2 := rfl
  have hb17 : Bd K (1 + (1 + (0))) := ⟨by omega, by omega⟩
  have hq_ := vU h hy hK
  obtain ⟨b16, o16, cs16, f16, hp16, hr16, hc16, hm16⟩ := hq_
  have hk18 := hc16
  obtain ⟨he18, rfl, hok18⟩ := hk18
  have he18 : _ = [I K, I (K + 1)] := he18; subst he18
  refine rn st9 5 h12_.put.put [] [(18, .bool (!decide (K = K)))] [qx hp16, qr hr16 0, .o] aE fun f20 h20_ => (aB (cC (h20_.at 18) (fun h21p => ?_) (fun h21p => ?_)))
  ·exact absurd rfl h21p
  ·refine wp_skip (wp_seq (aA ?_))
   have hb23 := hb17.up
   refine rn st9 3 h20_ [1] [(1, I (K + 1))] [.ad K 1 hb23.i64] aE fun f24 h24_ => (aB (wp_seq (wp_seq (aA (sg (aF (v := v) (h24_.at 0) (sg (aF (v := I (i : Int)) (h24_.at 5) (rn st9 5 h24_.put.put [] [(27, .bool (!decide ((K + 1) = (K + 1))))] [qx hp16, qr hr16 1, .o] aE fun f29 h29_ => (aB (cC (h29_.at 27) (fun h30p => ?_) (fun h30p => ?_))))))))))))
   ·exact absurd rfl h30p
   ·refine wp_skip (aA ?_)
    have hb32 := hb23.up
    refine rn st9 3 h29_ [1] [(1, I ((K + 1) + 1))] [.ad (K + 1) 1 hb32.i64] aE fun f33 h33_ => (aB (aA (rn st9 3 h33_ [5] [(5, I ((i : Int) + 1))] [qad (i : Int) 1] aE fun f35 h35_ => (aB ?_))))
    exact ⟨_, x.length - (i + 1), aD, rfl, i + 1, (K + 1) + 1, aD, aD, rfl, (h35_.to aE), st9⟩
 ·refine wp_exit (wp_seq (aA (sg (aF (v := I K) (h12_.at 1) (sg (aC (v := I K) rfl (aB (wr (aL Tryz.results182 rfl ?_)))))))))
  obtain rfl : i = x.length := by omega
  have hca := jX bL x _ rfl
  exact ⟨fI aD, st9.bare⟩
theorem markEntryS_n {w W0 : World} {rs : List Res} {v : Value} {xs : List Entry} {fp : List Nat} (hst : St w W0 (Res.own v xs fp :: rs)) (k : Int) (h0 : 0 ≤ k) (hk : k + (cL aQ xs : Nat) ≤ 4611686018427387904) :
  Calls Tryz.prog 115 #[v, I k] W0 fun e w' => ∃ fp', e = .returned (I (k + (cL aQ xs : Nat))) ∧ St w w' (Res.own v (mkL eJ aQ xs k) fp' :: rs) := by
 have hcap := (aJ (hst.get 0 rfl)).len_le
 refine bR Tryz.func115 rfl Tryz.ntmps115 aX (wp_seq (aA (sg (aC (v := I 0) rfl (aB (wp_seq (wp_seq (aA (sg (aC (v := I 0) rfl (aB (wp_block (aY (fun (m : Nat) (f : Nat → Value) (W : World) => ∃ (i : Nat) (K : Int) (fo5 : List Nat), i ≤ xs.length ∧ K = k + (cL aQ (xs.take i) : Nat) ∧ m = xs.length - i ∧ Ag [(0, v), (1, I K), (5, I (i : Int))] f ∧ St w W (Res.own (α := List Entry) v (mkL eJ aQ (xs.take i) k ++ xs.drop i) fo5 :: rs)) (xs.length - 0) ?_ ?_)))))))))))))
 ·exact ⟨0, k, fp, Nat.zero_le _, (by simp [cL]), rfl, (Ag.nil.put.put.put.put.to aE), (by simpa [mkL] using hst)⟩
 intro m6 f7 W8 hJ9
 obtain ⟨i, K, fo5, hi, hK, rfl, hA11, st10⟩ := hJ9
 have hlx : (mkL eJ aQ (xs.take i) k ++ xs.drop i).length = xs.length := by rw [List.length_append, eT, List.length_take, List.length_drop]; omega
 refine wp_seq (wp_seq (aA (rn st10 4 hA11 [] [(9, .bool (decide ((i : Int) < ((mkL eJ aQ (xs.take i) k ++ xs.drop i).length : Int))))] [ql (aJ (st10.get 0 rfl)), .o] aE fun f13 h13_ => (aB (aK (h13_.at 9) (fun h14p => ?_) (fun h14p => ?_))))))
 ·refine wp_skip (wp_seq (wp_block (wp_seq (aA (rn st10 3 h13_ [] [(12, v), (13, I (i : Int)), (14, I K)] [] aE fun f16 h16_ => ?_)))))
  have hq_ := eR (xs := xs) (i := i) aD
  obtain ⟨y, hy⟩ := hq_
  have hcs := gP aQ hy
  have hcl := fF aQ xs (i + 1)
  have hne : aQ y = 4 := rfl
  have hb17 : Bd K (1 + (1 + (1 + (1 + (0))))) := ⟨by omega, by omega⟩
  have hq_ := St.lendx (α := Entry) aX st10 (x := y) (oA hy)
  obtain ⟨b18, e18, pre18, cs18, post18, fi18, fr18, hPA18, hC18, st19⟩ := hq_
  obtain ⟨he18, hf18, hok18⟩ := hC18; have he18 : _ = [I y.prio, I y.seq, I y.run, I y.task] := he18; subst he18
  refine sg (aN sl_EntryS (h16_.at 12) hPA18 (h16_.at 13) rfl (sg (aH fa_Entry_0 rfl (sgn (bC (i := 0) (v := I K) (C' := [I K, I y.seq, I y.run, I y.task]) aE rfl (h16_.at 14) rfl rfl st19.d1 rfl bP rfl ?_))))); intro W26 st27
  refine aB (wp_seq (aA ?_))
  have hb29 := hb17.up
  refine rn st27 3 h16_.put.put [1] [(1, I (K + 1))] [.ad K 1 hb29.i64] aE fun f30 h30_ => (aB (wp_seq (aA (rn st27 5 h30_ [] [(21, I (K + 1)), (23, .pointer (some ⟨b18, pre18.length + 1, none⟩))] [qx hPA18] aE fun f32 h32_ => (sgn (bC (i := 1) (v := I (K + 1)) (C' := [I K, I (K + 1), I y.run, I y.task]) aE (h32_.at 23) (h32_.at 21) rfl rfl st27 rfl bP rfl ?_)))))); intro W33 st34
  refine aB (wp_seq (aA ?_))
  have hb36 := hb29.up
  refine rn st34 3 h32_ [1] [(1, I ((K + 1) + 1))] [.ad (K + 1) 1 hb36.i64] aE fun f37 h37_ => (aB (wp_seq (aA (rn st34 5 h37_ [] [(28, I ((K + 1) + 1)), (30, .pointer (some ⟨b18, pre18.length + 2, none⟩))] [qx hPA18] aE fun f39 h39_ => (sgn (bC (i := 2) (v := I ((K + 1) + 1)) (C' := [I K, I (K + 1), I ((K + 1) + 1), I y.task]) aE (h39_.at 30) (h39_.at 28) rfl rfl st34 rfl bP rfl ?_)))))); intro W40 st41
  refine aB (wp_seq (aA ?_))
  have hb43 := hb36.up
  refine rn st41 3 h39_ [1] [(1, I (((K + 1) + 1) + 1))] [.ad ((K + 1) + 1) 1 hb43.i64] aE fun f44 h44_ => (aB (wp_seq (aA (lw h44_ [(0, v), (1, I (((K + 1) + 1) + 1)), (5, I (i : Int))] aE fun h47_ => (rn st41 5 h47_ [] [(35, I (((K + 1) + 1) + 1)), (37, .pointer (some ⟨b18, pre18.length + 3, none⟩))] [qx hPA18] aE fun f46 h46_ => (sgn (bC (i := 3) (v := I (((K + 1) + 1) + 1)) (C' := [I K, I (K + 1), I ((K + 1) + 1), I (((K + 1) + 1) + 1)]) aE (h46_.at 37) (h46_.at 35) rfl rfl st41 rfl bP rfl ?_))))))); intro W48 st49
  refine aB (aA ?_)
  have hb51 := hb43.up
  refine rn st49 3 h46_ [1] [(1, I ((((K + 1) + 1) + 1) + 1))] [.ad (((K + 1) + 1) + 1) 1 hb51.i64] aE fun f52 h52_ => (aB (aA (rn st49 3 h52_ [5] [(5, I ((i : Int) + 1))] [qad (i : Int) 1] aE fun f54 h54_ => (aB ?_))))
  have st55 := st49.cs0 (cs := [I K, I (K + 1), I ((K + 1) + 1), I (((K + 1) + 1) + 1)]) (x := (⟨K, K + 1, (K + 1) + 1, ((K + 1) + 1) + 1⟩ : Entry)) ⟨rfl, rfl, eP⟩
  have hq_ := St.give (α := Entry) st55.f2.f1.f2
  obtain ⟨fp60, st61⟩ := hq_
  exact ⟨_, xs.length - (i + 1), aD, rfl, i + 1, (((K + 1) + 1) + 1) + 1, fp60, aD, aD, rfl, (h54_.to aE), (by rw [← lV hy hK]; exact st61)⟩
 ·refine wp_exit (wp_seq (aA (sg (aF (v := I K) (h13_.at 1) (sg (aC (v := I K) rfl (aB (wr (aL Tryz.results115 rfl ?_)))))))))
  obtain rfl : i = xs.length := by omega
  have hca := jX aQ xs _ rfl
  rw [rO rfl] at st10
  exact ⟨_, fI aD, st10⟩
theorem heldEntryS_n (w : World) {v : Value} {x : List Entry} {fp : List Nat} {k : Int} (h : Sl w v (mkL eJ aQ x k) fp) (h0 : 0 ≤ k) (hk : k + (cL aQ x : Nat) ≤ 4611686018427387904) :
  Calls Tryz.prog 181 #[v, I k] w fun e w' => e = .returned (I (k + (cL aQ x : Nat))) ∧ St w w' [] := by
 have hcap := h.len_le
 rw [eT] at hcap
 have hml : (mkL eJ aQ x k).length = x.length := eT _ _
 refine bR Tryz.func181 rfl Tryz.ntmps181 aX (wp_seq (aA (sg (aC (v := I 0) rfl (aB (wp_seq (wp_seq (aA (sg (aC (v := I 0) rfl (aB (wp_block (aY (fun (m : Nat) (f : Nat → Value) (W : World) => ∃ (i : Nat) (K : Int), i ≤ x.length ∧ K = k + (cL aQ (x.take i) : Nat) ∧ m = x.length - i ∧ Ag [(0, v), (1, I K), (5, I (i : Int))] f ∧ St w W ([])) (x.length - 0) ?_ ?_)))))))))))))
 ·exact ⟨0, k, Nat.zero_le _, (by simp [cL]), rfl, (Ag.nil.put.put.put.put.to aE), (St.start w)⟩
 intro m5 f6 W7 hJ8
 obtain ⟨i, K, hi, hK, rfl, hA10, st9⟩ := hJ8
 refine wp_seq (wp_seq (aA (rn st9 4 hA10 [] [(9, .bool (decide ((i : Int) < ((mkL eJ aQ x k).length : Int))))] [ql h, .o] aE fun f12 h12_ => (aB (aK (h12_.at 9) (fun h13p => ?_) (fun h13p => ?_))))))
 ·refine wp_skip (wp_seq (wp_block (wp_seq (wp_seq (aA (sg (aF (v := v) (h12_.at 0) (sg (aF (v := I (i : Int)) (h12_.at 5) ?_)))))))))
  have hq_ := eR (xs := x) (i := i) aD
  obtain ⟨y, hy⟩ := hq_
  have hcs := gP aQ hy
  have hcl := fF aQ x (i + 1)
  have hne : aQ y = 4 := rfl
  have hb17 : Bd K (1 + (1 + (1 + (1 + (0))))) := ⟨by omega, by omega⟩
  have hq_ := vU h hy hK
  obtain ⟨b16, o16, cs16, f16, hp16, hr16, hc16, hm16⟩ := hq_
  have hk18 := hc16
  obtain ⟨he18, rfl, hok18⟩ := hk18
  have he18 : _ = [I K, I (K + 1), I ((K + 1) + 1), I (((K + 1) + 1) + 1)] := he18; subst he18
  refine rn st9 5 h12_.put.put [] [(18, .bool (!decide (K = K)))] [qx hp16, qr hr16 0, .o] aE fun f20 h20_ => (aB (cC (h20_.at 18) (fun h21p => ?_) (fun h21p => ?_)))
  ·exact absurd rfl h21p
  ·refine wp_skip (wp_seq (aA ?_))
   have hb23 := hb17.up
   refine rn st9 3 h20_ [1] [(1, I (K + 1))] [.ad K 1 hb23.i64] aE fun f24 h24_ => (aB (wp_seq (wp_seq (aA (sg (aF (v := v) (h24_.at 0) (sg (aF (v := I (i : Int)) (h24_.at 5) (rn st9 5 h24_.put.put [] [(27, .bool (!decide ((K + 1) = (K + 1))))] [qx hp16, qr hr16 1, .o] aE fun f29 h29_ => (aB (cC (h29_.at 27) (fun h30p => ?_) (fun h30p => ?_))))))))))))
   ·exact absurd rfl h30p
   ·refine wp_skip (wp_seq (aA ?_))
    have hb32 := hb23.up
    refine rn st9 3 h29_ [1] [(1, I ((K + 1) + 1))] [.ad (K + 1) 1 hb32.i64] aE fun f33 h33_ => (aB (wp_seq (wp_seq (aA (sg (aF (v := v) (h33_.at 0) (sg (aF (v := I (i : Int)) (h33_.at 5) (lw h33_.put.put [(0, v), (1, I ((K + 1) + 1)), (5, I (i : Int)), (30, v), (31, I (i : Int))] aE fun h39_ => (rn st9 5 h39_ [] [(36, .bool (!decide (((K + 1) + 1) = ((K + 1) + 1))))] [qx hp16, qr hr16 2, .o] aE fun f38 h38_ => (aB (cC (h38_.at 36) (fun h40p => ?_) (fun h40p => ?_)))))))))))))
    ·exact absurd rfl h40p
    ·refine wp_skip (wp_seq (aA ?_))
     have hb42 := hb32.up
     refine rn st9 3 h38_ [1] [(1, I (((K + 1) + 1) + 1))] [.ad ((K + 1) + 1) 1 hb42.i64] aE fun f43 h43_ => (aB (wp_seq (wp_seq (aA (sg (aF (v := v) (h43_.at 0) (sg (aF (v := I (i : Int)) (h43_.at 5) (rn st9 5 h43_.put.put [] [(45, .bool (!decide ((((K + 1) + 1) + 1) = (((K + 1) + 1) + 1))))] [qx hp16, qr hr16 3, .o] aE fun f48 h48_ => (aB (cC (h48_.at 45) (fun h49p => ?_) (fun h49p => ?_))))))))))))
     ·exact absurd rfl h49p
     ·refine wp_skip (aA ?_)
      have hb51 := hb42.up
      refine rn st9 3 h48_ [1] [(1, I ((((K + 1) + 1) + 1) + 1))] [.ad (((K + 1) + 1) + 1) 1 hb51.i64] aE fun f52 h52_ => (aB (aA (rn st9 3 h52_ [5] [(5, I ((i : Int) + 1))] [qad (i : Int) 1] aE fun f54 h54_ => (aB ?_))))
      exact ⟨_, x.length - (i + 1), aD, rfl, i + 1, (((K + 1) + 1) + 1) + 1, aD, aD, rfl, (h54_.to aE), st9⟩
 ·refine wp_exit (wp_seq (aA (sg (aF (v := I K) (h12_.at 1) (sg (aC (v := I K) rfl (aB (wr (aL Tryz.results181 rfl ?_)))))))))
  obtain rfl : i = x.length := by omega
  have hca := jX aQ x _ rfl
  exact ⟨fI aD, st9.bare⟩
theorem markTaskS_n {w W0 : World} {rs : List Res} {v : Value} {xs : List Task} {fp : List Nat} (hst : St w W0 (Res.own v xs fp :: rs)) (k : Int) (h0 : 0 ≤ k) (hk : k + (cL cK xs : Nat) ≤ 4611686018427387904) :
  Calls Tryz.prog 116 #[v, I k] W0 fun e w' => ∃ fp', e = .returned (I (k + (cL cK xs : Nat))) ∧ St w w' (Res.own v (mkL iF cK xs k) fp' :: rs) := by
 have hcap := (aJ (hst.get 0 rfl)).len_le
 refine bR Tryz.func116 rfl Tryz.ntmps116 aX (wp_seq (aA (sg (aC (v := I 0) rfl (aB (wp_seq (wp_seq (aA (sg (aC (v := I 0) rfl (aB (wp_block (aY (fun (m : Nat) (f : Nat → Value) (W : World) => ∃ (i : Nat) (K : Int) (fo5 : List Nat), i ≤ xs.length ∧ K = k + (cL cK (xs.take i) : Nat) ∧ m = xs.length - i ∧ Ag [(0, v), (1, I K), (5, I (i : Int))] f ∧ St w W (Res.own (α := List Task) v (mkL iF cK (xs.take i) k ++ xs.drop i) fo5 :: rs)) (xs.length - 0) ?_ ?_)))))))))))))
 ·exact ⟨0, k, fp, Nat.zero_le _, (by simp [cL]), rfl, (Ag.nil.put.put.put.put.to aE), (by simpa [mkL] using hst)⟩
 intro m6 f7 W8 hJ9
 obtain ⟨i, K, fo5, hi, hK, rfl, hA11, st10⟩ := hJ9
 have hlx : (mkL iF cK (xs.take i) k ++ xs.drop i).length = xs.length := by rw [List.length_append, eT, List.length_take, List.length_drop]; omega
 refine wp_seq (wp_seq (aA (rn st10 4 hA11 [] [(9, .bool (decide ((i : Int) < ((mkL iF cK (xs.take i) k ++ xs.drop i).length : Int))))] [ql (aJ (st10.get 0 rfl)), .o] aE fun f13 h13_ => (aB (aK (h13_.at 9) (fun h14p => ?_) (fun h14p => ?_))))))
 ·refine wp_skip (wp_seq (wp_block (wp_seq (aA (rn st10 3 h13_ [] [(12, v), (13, I (i : Int)), (14, I K)] [] aE fun f16 h16_ => ?_)))))
  have hq_ := eR (xs := xs) (i := i) aD
  obtain ⟨y, hy⟩ := hq_
  have hcs := gP cK hy
  have hcl := fF cK xs (i + 1)
  have hne : cK y = 4 := rfl
  have hb17 : Bd K (1 + (1 + (1 + (1 + (0))))) := ⟨by omega, by omega⟩
  have hq_ := St.lendx (α := Task) aX st10 (x := y) (oA hy)
  obtain ⟨b18, e18, pre18, cs18, post18, fi18, fr18, hPA18, hC18, st19⟩ := hq_
  obtain ⟨he18, hf18, hok18⟩ := hC18; have he18 : _ = [I y.state, I y.need, I y.try_, I y.until_] := he18; subst he18
  refine sg (aN jQ (h16_.at 12) hPA18 (h16_.at 13) rfl (sg (aH hU rfl (sgn (bC (i := 0) (v := I K) (C' := [I K, I y.need, I y.try_, I y.until_]) aE rfl (h16_.at 14) rfl rfl st19.d1 rfl bP rfl ?_))))); intro W26 st27
  refine aB (wp_seq (aA ?_))
  have hb29 := hb17.up
  refine rn st27 3 h16_.put.put [1] [(1, I (K + 1))] [.ad K 1 hb29.i64] aE fun f30 h30_ => (aB (wp_seq (aA (rn st27 5 h30_ [] [(21, I (K + 1)), (23, .pointer (some ⟨b18, pre18.length + 1, none⟩))] [qx hPA18] aE fun f32 h32_ => (sgn (bC (i := 1) (v := I (K + 1)) (C' := [I K, I (K + 1), I y.try_, I y.until_]) aE (h32_.at 23) (h32_.at 21) rfl rfl st27 rfl bP rfl ?_)))))); intro W33 st34
  refine aB (wp_seq (aA ?_))
  have hb36 := hb29.up
  refine rn st34 3 h32_ [1] [(1, I ((K + 1) + 1))] [.ad (K + 1) 1 hb36.i64] aE fun f37 h37_ => (aB (wp_seq (aA (rn st34 5 h37_ [] [(28, I ((K + 1) + 1)), (30, .pointer (some ⟨b18, pre18.length + 2, none⟩))] [qx hPA18] aE fun f39 h39_ => (sgn (bC (i := 2) (v := I ((K + 1) + 1)) (C' := [I K, I (K + 1), I ((K + 1) + 1), I y.until_]) aE (h39_.at 30) (h39_.at 28) rfl rfl st34 rfl bP rfl ?_)))))); intro W40 st41
  refine aB (wp_seq (aA ?_))
  have hb43 := hb36.up
  refine rn st41 3 h39_ [1] [(1, I (((K + 1) + 1) + 1))] [.ad ((K + 1) + 1) 1 hb43.i64] aE fun f44 h44_ => (aB (wp_seq (aA (lw h44_ [(0, v), (1, I (((K + 1) + 1) + 1)), (5, I (i : Int))] aE fun h47_ => (rn st41 5 h47_ [] [(35, I (((K + 1) + 1) + 1)), (37, .pointer (some ⟨b18, pre18.length + 3, none⟩))] [qx hPA18] aE fun f46 h46_ => (sgn (bC (i := 3) (v := I (((K + 1) + 1) + 1)) (C' := [I K, I (K + 1), I ((K + 1) + 1), I (((K + 1) + 1) + 1)]) aE (h46_.at 37) (h46_.at 35) rfl rfl st41 rfl bP rfl ?_))))))); intro W48 st49
  refine aB (aA ?_)
  have hb51 := hb43.up
  refine rn st49 3 h46_ [1] [(1, I ((((K + 1) + 1) + 1) + 1))] [.ad (((K + 1) + 1) + 1) 1 hb51.i64] aE fun f52 h52_ => (aB (aA (rn st49 3 h52_ [5] [(5, I ((i : Int) + 1))] [qad (i : Int) 1] aE fun f54 h54_ => (aB ?_))))
  have st55 := st49.cs0 (cs := [I K, I (K + 1), I ((K + 1) + 1), I (((K + 1) + 1) + 1)]) (x := (⟨K, K + 1, (K + 1) + 1, ((K + 1) + 1) + 1⟩ : Task)) ⟨rfl, rfl, eP⟩
  have hq_ := St.give (α := Task) st55.f2.f1.f2
  obtain ⟨fp60, st61⟩ := hq_
  exact ⟨_, xs.length - (i + 1), aD, rfl, i + 1, (((K + 1) + 1) + 1) + 1, fp60, aD, aD, rfl, (h54_.to aE), (by rw [← lV hy hK]; exact st61)⟩
 ·refine wp_exit (wp_seq (aA (sg (aF (v := I K) (h13_.at 1) (sg (aC (v := I K) rfl (aB (wr (aL Tryz.results116 rfl ?_)))))))))
  obtain rfl : i = xs.length := by omega
  have hca := jX cK xs _ rfl
  rw [rO rfl] at st10
  exact ⟨_, fI aD, st10⟩
theorem heldTaskS_n (w : World) {v : Value} {x : List Task} {fp : List Nat} {k : Int} (h : Sl w v (mkL iF cK x k) fp) (h0 : 0 ≤ k) (hk : k + (cL cK x : Nat) ≤ 4611686018427387904) :
  Calls Tryz.prog 183 #[v, I k] w fun e w' => e = .returned (I (k + (cL cK x : Nat))) ∧ St w w' [] := by
 have hcap := h.len_le
 rw [eT] at hcap
 have hml : (mkL iF cK x k).length = x.length := eT _ _
 refine bR Tryz.func183 rfl Tryz.ntmps183 aX (wp_seq (aA (sg (aC (v := I 0) rfl (aB (wp_seq (wp_seq (aA (sg (aC (v := I 0) rfl (aB (wp_block (aY (fun (m : Nat) (f : Nat → Value) (W : World) => ∃ (i : Nat) (K : Int), i ≤ x.length ∧ K = k + (cL cK (x.take i) : Nat) ∧ m = x.length - i ∧ Ag [(0, v), (1, I K), (5, I (i : Int))] f ∧ St w W ([])) (x.length - 0) ?_ ?_)))))))))))))
 ·exact ⟨0, k, Nat.zero_le _, (by simp [cL]), rfl, (Ag.nil.put.put.put.put.to aE), (St.start w)⟩
 intro m5 f6 W7 hJ8
 obtain ⟨i, K, hi, hK, rfl, hA10, st9⟩ := hJ8
 refine wp_seq (wp_seq (aA (rn st9 4 hA10 [] [(9, .bool (decide ((i : Int) < ((mkL iF cK x k).length : Int))))] [ql h, .o] aE fun f12 h12_ => (aB (aK (h12_.at 9) (fun h13p => ?_) (fun h13p => ?_))))))
 ·refine wp_skip (wp_seq (wp_block (wp_seq (wp_seq (aA (sg (aF (v := v) (h12_.at 0) (sg (aF (v := I (i : Int)) (h12_.at 5) ?_)))))))))
  have hq_ := eR (xs := x) (i := i) aD
  obtain ⟨y, hy⟩ := hq_
  have hcs := gP cK hy
  have hcl := fF cK x (i + 1)
  have hne : cK y = 4 := rfl
  have hb17 : Bd K (1 + (1 + (1 + (1 + (0))))) := ⟨by omega, by omega⟩
  have hq_ := vU h hy hK
  obtain ⟨b16, o16, cs16, f16, hp16, hr16, hc16, hm16⟩ := hq_
  have hk18 := hc16
  obtain ⟨he18, rfl, hok18⟩ := hk18
  have he18 : _ = [I K, I (K + 1), I ((K + 1) + 1), I (((K + 1) + 1) + 1)] := he18; subst he18
  refine rn st9 5 h12_.put.put [] [(18, .bool (!decide (K = K)))] [qx hp16, qr hr16 0, .o] aE fun f20 h20_ => (aB (cC (h20_.at 18) (fun h21p => ?_) (fun h21p => ?_)))
  ·exact absurd rfl h21p
  ·refine wp_skip (wp_seq (aA ?_))
   have hb23 := hb17.up
   refine rn st9 3 h20_ [1] [(1, I (K + 1))] [.ad K 1 hb23.i64] aE fun f24 h24_ => (aB (wp_seq (wp_seq (aA (sg (aF (v := v) (h24_.at 0) (sg (aF (v := I (i : Int)) (h24_.at 5) (rn st9 5 h24_.put.put [] [(27, .bool (!decide ((K + 1) = (K + 1))))] [qx hp16, qr hr16 1, .o] aE fun f29 h29_ => (aB (cC (h29_.at 27) (fun h30p => ?_) (fun h30p => ?_))))))))))))
   ·exact absurd rfl h30p
   ·refine wp_skip (wp_seq (aA ?_))
    have hb32 := hb23.up
    refine rn st9 3 h29_ [1] [(1, I ((K + 1) + 1))] [.ad (K + 1) 1 hb32.i64] aE fun f33 h33_ => (aB (wp_seq (wp_seq (aA (sg (aF (v := v) (h33_.at 0) (sg (aF (v := I (i : Int)) (h33_.at 5) (lw h33_.put.put [(0, v), (1, I ((K + 1) + 1)), (5, I (i : Int)), (30, v), (31, I (i : Int))] aE fun h39_ => (rn st9 5 h39_ [] [(36, .bool (!decide (((K + 1) + 1) = ((K + 1) + 1))))] [qx hp16, qr hr16 2, .o] aE fun f38 h38_ => (aB (cC (h38_.at 36) (fun h40p => ?_) (fun h40p => ?_)))))))))))))
    ·exact absurd rfl h40p
    ·refine wp_skip (wp_seq (aA ?_))
     have hb42 := hb32.up
     refine rn st9 3 h38_ [1] [(1, I (((K + 1) + 1) + 1))] [.ad ((K + 1) + 1) 1 hb42.i64] aE fun f43 h43_ => (aB (wp_seq (wp_seq (aA (sg (aF (v := v) (h43_.at 0) (sg (aF (v := I (i : Int)) (h43_.at 5) (rn st9 5 h43_.put.put [] [(45, .bool (!decide ((((K + 1) + 1) + 1) = (((K + 1) + 1) + 1))))] [qx hp16, qr hr16 3, .o] aE fun f48 h48_ => (aB (cC (h48_.at 45) (fun h49p => ?_) (fun h49p => ?_))))))))))))
     ·exact absurd rfl h49p
     ·refine wp_skip (aA ?_)
      have hb51 := hb42.up
      refine rn st9 3 h48_ [1] [(1, I ((((K + 1) + 1) + 1) + 1))] [.ad (((K + 1) + 1) + 1) 1 hb51.i64] aE fun f52 h52_ => (aB (aA (rn st9 3 h52_ [5] [(5, I ((i : Int) + 1))] [qad (i : Int) 1] aE fun f54 h54_ => (aB ?_))))
      exact ⟨_, x.length - (i + 1), aD, rfl, i + 1, (((K + 1) + 1) + 1) + 1, aD, aD, rfl, (h54_.to aE), st9⟩
 ·refine wp_exit (wp_seq (aA (sg (aF (v := I K) (h12_.at 1) (sg (aC (v := I K) rfl (aB (wr (aL Tryz.results183 rfl ?_)))))))))
  obtain rfl : i = x.length := by omega
  have hca := jX cK x _ rfl
  exact ⟨fI aD, st9.bare⟩
theorem markRunS_n {w W0 : World} {rs : List Res} {v : Value} {xs : List Run} {fp : List Nat} (hst : St w W0 (Res.own v xs fp :: rs)) (k : Int) (h0 : 0 ≤ k) (hk : k + (cL cV xs : Nat) ≤ 4611686018427387904) :
  Calls Tryz.prog 58 #[v, I k] W0 fun e w' => ∃ fp', e = .returned (I (k + (cL cV xs : Nat))) ∧ St w w' (Res.own v (mkL jK cV xs k) fp' :: rs) := by
 have hcap := (aJ (hst.get 0 rfl)).len_le
 refine bR Tryz.func58 rfl Tryz.ntmps58 aX (wp_seq (aA (sg (aC (v := I 0) rfl (aB (wp_seq (wp_seq (aA (sg (aC (v := I 0) rfl (aB (wp_block (aY (fun (m : Nat) (f : Nat → Value) (W : World) => ∃ (i : Nat) (K : Int) (fo5 : List Nat), i ≤ xs.length ∧ K = k + (cL cV (xs.take i) : Nat) ∧ m = xs.length - i ∧ Ag [(0, v), (1, I K), (5, I (i : Int))] f ∧ St w W (Res.own (α := List Run) v (mkL jK cV (xs.take i) k ++ xs.drop i) fo5 :: rs)) (xs.length - 0) ?_ ?_)))))))))))))
 ·exact ⟨0, k, fp, Nat.zero_le _, (by simp [cL]), rfl, (Ag.nil.put.put.put.put.to aE), (by simpa [mkL] using hst)⟩
 intro m6 f7 W8 hJ9
 obtain ⟨i, K, fo5, hi, hK, rfl, hA11, st10⟩ := hJ9
 have hlx : (mkL jK cV (xs.take i) k ++ xs.drop i).length = xs.length := by rw [List.length_append, eT, List.length_take, List.length_drop]; omega
 refine wp_seq (wp_seq (aA (rn st10 4 hA11 [] [(9, .bool (decide ((i : Int) < ((mkL jK cV (xs.take i) k ++ xs.drop i).length : Int))))] [ql (aJ (st10.get 0 rfl)), .o] aE fun f13 h13_ => (aB (aK (h13_.at 9) (fun h14p => ?_) (fun h14p => ?_))))))
 ·refine wp_skip (wp_seq (wp_block (wp_seq (aA (rn st10 3 h13_ [] [(12, v), (13, I (i : Int)), (14, I K)] [] aE fun f16 h16_ => ?_)))))
  have hq_ := eR (xs := xs) (i := i) aD
  obtain ⟨y, hy⟩ := hq_
  have hcs := gP cV hy
  have hcl := fF cV xs (i + 1)
  have hne : cV y = 6 + cL bL y.plan.edges + cL cK y.tasks := rfl
  have hb17 : Bd K (1 + (1 + (1 + (1 + (1 + ((cL bL y.plan.edges) + (1 + ((cL cK y.tasks) + (0))))))))) := ⟨by omega, by omega⟩
  have hq_ := St.lendx (α := Run) aX st10 (x := y) (oA hy)
  obtain ⟨b18, e18, pre18, cs18, post18, fi18, fr18, hPA18, hC18, st19⟩ := hq_
  have st24 := st19.f1.uncs rfl
  have hq_ := lS st24
  obtain ⟨v25_0, v25_1, g25_0, g25_1, he25, hok25, st26⟩ := hq_
  subst he25
  refine sg (aN iW (h16_.at 12) hPA18 (h16_.at 13) rfl (sg (aH qP rfl (sgn (bC (i := 0) (v := I K) (C' := [I K, I y.plan.prio, I y.plan.most, I y.plan.wait, I y.plan.tasks, v25_0, I y.state, v25_1]) aE rfl (h16_.at 14) rfl rfl st26.f2 rfl bP rfl ?_))))); intro W32 st33
  refine aB (wp_seq (aA ?_))
  have hb35 := hb17.up
  refine rn st33 3 h16_.put.put [1] [(1, I (K + 1))] [.ad K 1 hb35.i64] aE fun f36 h36_ => (aB (wp_seq (aA (rn st33 6 h36_ [] [(21, I (K + 1)), (24, .pointer (some ⟨b18, pre18.length + 1, none⟩))] [qx hPA18] aE fun f38 h38_ => (sgn (bC (i := 1) (v := I (K + 1)) (C' := [I K, I (K + 1), I y.plan.most, I y.plan.wait, I y.plan.tasks, v25_0, I y.state, v25_1]) aE (h38_.at 24) (h38_.at 21) rfl rfl st33 rfl bP rfl ?_)))))); intro W39 st40
  refine aB (wp_seq (aA ?_))
  have hb42 := hb35.up
  refine rn st40 3 h38_ [1] [(1, I ((K + 1) + 1))] [.ad (K + 1) 1 hb42.i64] aE fun f43 h43_ => (aB (wp_seq (aA (rn st40 6 h43_ [] [(29, I ((K + 1) + 1)), (32, .pointer (some ⟨b18, pre18.length + 2, none⟩))] [qx hPA18] aE fun f45 h45_ => (sgn (bC (i := 2) (v := I ((K + 1) + 1)) (C' := [I K, I (K + 1), I ((K + 1) + 1), I y.plan.wait, I y.plan.tasks, v25_0, I y.state, v25_1]) aE (h45_.at 32) (h45_.at 29) rfl rfl st40 rfl bP rfl ?_)))))); intro W46 st47
  refine aB (wp_seq (aA ?_))
  have hb49 := hb42.up
  refine rn st47 3 h45_ [1] [(1, I (((K + 1) + 1) + 1))] [.ad ((K + 1) + 1) 1 hb49.i64] aE fun f50 h50_ => (aB (wp_seq (aA (lw h50_ [(0, v), (1, I (((K + 1) + 1) + 1)), (5, I (i : Int))] aE fun h53_ => (rn st47 6 h53_ [] [(37, I (((K + 1) + 1) + 1)), (40, .pointer (some ⟨b18, pre18.length + 3, none⟩))] [qx hPA18] aE fun f52 h52_ => (sgn (bC (i := 3) (v := I (((K + 1) + 1) + 1)) (C' := [I K, I (K + 1), I ((K + 1) + 1), I (((K + 1) + 1) + 1), I y.plan.tasks, v25_0, I y.state, v25_1]) aE (h52_.at 40) (h52_.at 37) rfl rfl st47 rfl bP rfl ?_))))))); intro W54 st55
  refine aB (wp_seq (aA ?_))
  have hb57 := hb49.up
  refine rn st55 3 h52_ [1] [(1, I ((((K + 1) + 1) + 1) + 1))] [.ad (((K + 1) + 1) + 1) 1 hb57.i64] aE fun f58 h58_ => (aB (wp_seq (aA (rn st55 6 h58_ [] [(45, I ((((K + 1) + 1) + 1) + 1)), (48, .pointer (some ⟨b18, pre18.length + 4, none⟩))] [qx hPA18] aE fun f60 h60_ => (sgn (bC (i := 4) (v := I ((((K + 1) + 1) + 1) + 1)) (C' := [I K, I (K + 1), I ((K + 1) + 1), I (((K + 1) + 1) + 1), I ((((K + 1) + 1) + 1) + 1), v25_0, I y.state, v25_1]) aE (h60_.at 48) (h60_.at 45) rfl rfl st55 rfl bP rfl ?_)))))); intro W61 st62
  refine aB (wp_seq (aA ?_))
  have hb64 := hb57.up
  refine rn st62 3 h60_ [1] [(1, I (((((K + 1) + 1) + 1) + 1) + 1))] [.ad ((((K + 1) + 1) + 1) + 1) 1 hb64.i64] aE fun f65 h65_ => (aB (wp_seq (aA (rn st62 7 h65_ [] [(56, v25_0), (57, I (((((K + 1) + 1) + 1) + 1) + 1))] [qx hPA18, qp 0 rfl 5] aE fun f67 h67_ => ?_))))
  have hb73 := hb64.upc
  refine sg (bJ Tryz.func87 rfl (h67_.at 56) (h67_.at 57) ((markEdgeS_n st62.f1 (((((K + 1) + 1) + 1) + 1) + 1) hb64.lo hb64.hi).mono ?_)); rintro _ W68 ⟨fp71, rfl, st70⟩; refine ⟨_, rfl, ?_⟩
  refine sg (aC (v := I ((((((K + 1) + 1) + 1) + 1) + 1) + (cL bL y.plan.edges : Nat))) rfl (aB (wp_seq (aA (rn st70 5 h67_.put.put [] [(61, I ((((((K + 1) + 1) + 1) + 1) + 1) + (cL bL y.plan.edges : Nat))), (63, .pointer (some ⟨b18, pre18.length + 6, none⟩))] [qx hPA18] aE fun f77 h77_ => (sgn (bC (i := 6) (v := I ((((((K + 1) + 1) + 1) + 1) + 1) + (cL bL y.plan.edges : Nat))) (C' := [I K, I (K + 1), I ((K + 1) + 1), I (((K + 1) + 1) + 1), I ((((K + 1) + 1) + 1) + 1), v25_0, I ((((((K + 1) + 1) + 1) + 1) + 1) + (cL bL y.plan.edges : Nat)), v25_1]) aE (h77_.at 63) (h77_.at 61) rfl rfl st70.f1 rfl bP rfl ?_))))))); intro W79 st80
  refine aB (wp_seq (aA ?_))
  have hb82 := hb73.up
  refine rn st80 3 h77_ [1] [(1, I (((((((K + 1) + 1) + 1) + 1) + 1) + (cL bL y.plan.edges : Nat)) + 1))] [.ad ((((((K + 1) + 1) + 1) + 1) + 1) + (cL bL y.plan.edges : Nat)) 1 hb82.i64] aE fun f83 h83_ => (aB (aA (lw h83_ [(0, v), (1, I (((((((K + 1) + 1) + 1) + 1) + 1) + (cL bL y.plan.edges : Nat)) + 1)), (5, I (i : Int))] aE fun h86_ => (rn st80 6 h86_ [] [(70, v25_1), (71, I (((((((K + 1) + 1) + 1) + 1) + 1) + (cL bL y.plan.edges : Nat)) + 1))] [qx hPA18, qp 0 rfl 7] aE fun f85 h85_ => ?_))))
  have hb92 := hb82.upc
  refine sg (bJ Tryz.func116 rfl (h85_.at 70) (h85_.at 71) ((markTaskS_n st80.f2 (((((((K + 1) + 1) + 1) + 1) + 1) + (cL bL y.plan.edges : Nat)) + 1) hb82.lo hb82.hi).mono ?_)); rintro _ W87 ⟨fp90, rfl, st89⟩; refine ⟨_, rfl, ?_⟩
  refine sg (aC (v := I ((((((((K + 1) + 1) + 1) + 1) + 1) + (cL bL y.plan.edges : Nat)) + 1) + (cL cK y.tasks : Nat))) rfl (aB (aA (rn st89 3 h85_.put.put [5] [(5, I ((i : Int) + 1))] [qad (i : Int) 1] aE fun f96 h96_ => (aB ?_)))))
  have st98 := iE (x := (⟨K, ⟨K + 1, (K + 1) + 1, ((K + 1) + 1) + 1, (((K + 1) + 1) + 1) + 1, mkL iG bL y.plan.edges (((((K + 1) + 1) + 1) + 1) + 1)⟩, (((((K + 1) + 1) + 1) + 1) + 1) + (cL bL y.plan.edges : Nat), mkL iF cK y.tasks (((((((K + 1) + 1) + 1) + 1) + 1) + (cL bL y.plan.edges : Nat)) + 1)⟩ : Run)) st89.f2 eP
  try dsimp only at st98
  have st100 := st98.cs rfl
  have hq_ := St.give (α := Run) st100.f2.f1.f2
  obtain ⟨fp104, st105⟩ := hq_
  exact ⟨_, xs.length - (i + 1), aD, rfl, i + 1, (((((((K + 1) + 1) + 1) + 1) + 1) + (cL bL y.plan.edges : Nat)) + 1) + (cL cK y.tasks : Nat), fp104, aD, aD, rfl, (h96_.to aE), (by rw [← lV hy hK]; exact st105)⟩
 ·refine wp_exit (wp_seq (aA (sg (aF (v := I K) (h13_.at 1) (sg (aC (v := I K) rfl (aB (wr (aL Tryz.results58 rfl ?_)))))))))
  obtain rfl : i = xs.length := by omega
  have hca := jX cV xs _ rfl
  rw [rO rfl] at st10
  exact ⟨_, fI aD, st10⟩
theorem heldRunS_n (w : World) {v : Value} {x : List Run} {fp : List Nat} {k : Int} (h : Sl w v (mkL jK cV x k) fp) (h0 : 0 ≤ k) (hk : k + (cL cV x : Nat) ≤ 4611686018427387904) :
  Calls Tryz.prog 118 #[v, I k] w fun e w' => e = .returned (I (k + (cL cV x : Nat))) ∧ St w w' [] := by
 have hcap := h.len_le
 rw [eT] at hcap
 have hml : (mkL jK cV x k).length = x.length := eT _ _
 refine bR Tryz.func118 rfl Tryz.ntmps118 aX (wp_seq (aA (sg (aC (v := I 0) rfl (aB (wp_seq (wp_seq (aA (sg (aC (v := I 0) rfl (aB (wp_block (aY (fun (m : Nat) (f : Nat → Value) (W : World) => ∃ (i : Nat) (K : Int), i ≤ x.length ∧ K = k + (cL cV (x.take i) : Nat) ∧ m = x.length - i ∧ Ag [(0, v), (1, I K), (5, I (i : Int))] f ∧ St w W ([])) (x.length - 0) ?_ ?_)))))))))))))
 ·exact ⟨0, k, Nat.zero_le _, (by simp [cL]), rfl, (Ag.nil.put.put.put.put.to aE), (St.start w)⟩
 intro m5 f6 W7 hJ8
 obtain ⟨i, K, hi, hK, rfl, hA10, st9⟩ := hJ8
 refine wp_seq (wp_seq (aA (rn st9 4 hA10 [] [(9, .bool (decide ((i : Int) < ((mkL jK cV x k).length : Int))))] [ql h, .o] aE fun f12 h12_ => (aB (aK (h12_.at 9) (fun h13p => ?_) (fun h13p => ?_))))))
 ·refine wp_skip (wp_seq (wp_block (wp_seq (wp_seq (aA (sg (aF (v := v) (h12_.at 0) (sg (aF (v := I (i : Int)) (h12_.at 5) ?_)))))))))
  have hq_ := eR (xs := x) (i := i) aD
  obtain ⟨y, hy⟩ := hq_
  have hcs := gP cV hy
  have hcl := fF cV x (i + 1)
  have hne : cV y = 6 + cL bL y.plan.edges + cL cK y.tasks := rfl
  have hb17 : Bd K (1 + (1 + (1 + (1 + (1 + ((cL bL y.plan.edges) + (1 + ((cL cK y.tasks) + (0))))))))) := ⟨by omega, by omega⟩
  have hq_ := vU h hy hK
  obtain ⟨b16, o16, cs16, f16, hp16, hr16, hc16, hm16⟩ := hq_
  have hk18 := hc16
  obtain ⟨v18_0, v18_1, g18_0, g18_1, he18, hok18, h18_0, h18_1, rfl⟩ := hk18
  have he18 : _ = [I K, I (K + 1), I ((K + 1) + 1), I (((K + 1) + 1) + 1), I ((((K + 1) + 1) + 1) + 1), v18_0, I ((((((K + 1) + 1) + 1) + 1) + 1) + (cL bL y.plan.edges : Nat)), v18_1] := he18; subst he18
  have h18_0 : Sl _ v18_0 (mkL iG bL y.plan.edges (((((K + 1) + 1) + 1) + 1) + 1)) _ := h18_0
  have h18_1 : Sl _ v18_1 (mkL iF cK y.tasks (((((((K + 1) + 1) + 1) + 1) + 1) + (cL bL y.plan.edges : Nat)) + 1)) _ := h18_1
  refine rn st9 5 h12_.put.put [] [(18, .bool (!decide (K = K)))] [qx hp16, qr hr16 0, .o] aE fun f20 h20_ => (aB (cC (h20_.at 18) (fun h21p => ?_) (fun h21p => ?_)))
  ·exact absurd rfl h21p
  ·refine wp_skip (wp_seq (aA ?_))
   have hb23 := hb17.up
   refine rn st9 3 h20_ [1] [(1, I (K + 1))] [.ad K 1 hb23.i64] aE fun f24 h24_ => (aB (wp_seq (wp_seq (aA (sg (aF (v := v) (h24_.at 0) (sg (aF (v := I (i : Int)) (h24_.at 5) (rn st9 6 h24_.put.put [] [(28, .bool (!decide ((K + 1) = (K + 1))))] [qx hp16, qr hr16 1, .o] aE fun f29 h29_ => (aB (cC (h29_.at 28) (fun h30p => ?_) (fun h30p => ?_))))))))))))
   ·exact absurd rfl h30p
   ·refine wp_skip (wp_seq (aA ?_))
    have hb32 := hb23.up
    refine rn st9 3 h29_ [1] [(1, I ((K + 1) + 1))] [.ad (K + 1) 1 hb32.i64] aE fun f33 h33_ => (aB (wp_seq (wp_seq (aA (sg (aF (v := v) (h33_.at 0) (sg (aF (v := I (i : Int)) (h33_.at 5) (lw h33_.put.put [(0, v), (1, I ((K + 1) + 1)), (5, I (i : Int)), (31, v), (32, I (i : Int))] aE fun h39_ => (rn st9 6 h39_ [] [(38, .bool (!decide (((K + 1) + 1) = ((K + 1) + 1))))] [qx hp16, qr hr16 2, .o] aE fun f38 h38_ => (aB (cC (h38_.at 38) (fun h40p => ?_) (fun h40p => ?_)))))))))))))
    ·exact absurd rfl h40p
    ·refine wp_skip (wp_seq (aA ?_))
     have hb42 := hb32.up
     refine rn st9 3 h38_ [1] [(1, I (((K + 1) + 1) + 1))] [.ad ((K + 1) + 1) 1 hb42.i64] aE fun f43 h43_ => (aB (wp_seq (wp_seq (aA (sg (aF (v := v) (h43_.at 0) (sg (aF (v := I (i : Int)) (h43_.at 5) (rn st9 6 h43_.put.put [] [(48, .bool (!decide ((((K + 1) + 1) + 1) = (((K + 1) + 1) + 1))))] [qx hp16, qr hr16 3, .o] aE fun f48 h48_ => (aB (cC (h48_.at 48) (fun h49p => ?_) (fun h49p => ?_))))))))))))
     ·exact absurd rfl h49p
     ·refine wp_skip (wp_seq (aA ?_))
      have hb51 := hb42.up
      refine rn st9 3 h48_ [1] [(1, I ((((K + 1) + 1) + 1) + 1))] [.ad (((K + 1) + 1) + 1) 1 hb51.i64] aE fun f52 h52_ => (aB (wp_seq (wp_seq (aA (sg (aF (v := v) (h52_.at 0) (sg (aF (v := I (i : Int)) (h52_.at 5) (rn st9 6 h52_.put.put [] [(58, .bool (!decide (((((K + 1) + 1) + 1) + 1) = ((((K + 1) + 1) + 1) + 1))))] [qx hp16, qr hr16 4, .o] aE fun f57 h57_ => (aB (cC (h57_.at 58) (fun h58p => ?_) (fun h58p => ?_))))))))))))
      ·exact absurd rfl h58p
      ·refine wp_skip (wp_seq (aA ?_))
       have hb60 := hb51.up
       refine rn st9 3 h57_ [1] [(1, I (((((K + 1) + 1) + 1) + 1) + 1))] [.ad ((((K + 1) + 1) + 1) + 1) 1 hb60.i64] aE fun f61 h61_ => (aB (wp_seq (aA (sg (aF (v := v) (h61_.at 0) (sg (aF (v := I (i : Int)) (h61_.at 5) (lw h61_.put.put [(0, v), (1, I (((((K + 1) + 1) + 1) + 1) + 1)), (5, I (i : Int)), (61, v), (62, I (i : Int))] aE fun h67_ => (rn st9 5 h67_ [] [(66, v18_0), (67, I (((((K + 1) + 1) + 1) + 1) + 1))] [qx hp16, qr hr16 5] aE fun f66 h66_ => ?_)))))))))
       have hb72 := hb60.upc
       refine sg (bJ Tryz.func182 rfl (h66_.at 66) (h66_.at 67) ((heldEdgeS_n W7 (x := y.plan.edges) (h18_0.below st9.below) hb60.lo hb60.hi).mono ?_)); rintro _ W68 ⟨rfl, hk69⟩; refine ⟨_, rfl, ?_⟩
       have st70 := St.call st9 hk69
       refine sg (aC (v := I ((((((K + 1) + 1) + 1) + 1) + 1) + (cL bL y.plan.edges : Nat))) rfl (aB (wp_seq (wp_seq (aA (sg (aF (v := I ((((((K + 1) + 1) + 1) + 1) + 1) + (cL bL y.plan.edges : Nat))) rfl (sg (bQ rfl rfl (aB (aK rfl (fun h77p => ?_) (fun h77p => ?_))))))))))))
       ·exact absurd h77p (Int.not_lt.2 hb72.1)
       ·refine wp_skip (wp_seq (wp_seq (aA (sg (aF (v := v) (h66_.at 0) (sg (aF (v := I (i : Int)) (h66_.at 5) (rn st70 5 h66_.put.put.put.put.put.put [] [(77, .bool (!decide ((((((((K + 1) + 1) + 1) + 1) + 1) + (cL bL y.plan.edges : Nat)) : Int) = ((((((K + 1) + 1) + 1) + 1) + 1) + (cL bL y.plan.edges : Nat)))))] [qx hp16, qr hr16 6, .o] aE fun f82 h82_ => (aB (cC (h82_.at 77) (fun h83p => ?_) (fun h83p => ?_)))))))))))
        ·exact absurd rfl h83p
        ·refine wp_skip (wp_seq (aA ?_))
         have hb85 := hb72.up
         refine rn st70 3 h82_ [1] [(1, I (((((((K + 1) + 1) + 1) + 1) + 1) + (cL bL y.plan.edges : Nat)) + 1))] [.ad ((((((K + 1) + 1) + 1) + 1) + 1) + (cL bL y.plan.edges : Nat)) 1 hb85.i64] aE fun f86 h86_ => (aB (wp_seq (aA (sg (aF (v := v) (h86_.at 0) (sg (aF (v := I (i : Int)) (h86_.at 5) (rn st70 4 h86_.put.put [] [(84, v18_1), (85, I (((((((K + 1) + 1) + 1) + 1) + 1) + (cL bL y.plan.edges : Nat)) + 1))] [qx hp16, qr hr16 7] aE fun f91 h91_ => ?_))))))))
         have hb96 := hb85.upc
         refine sg (bJ Tryz.func183 rfl (h91_.at 84) (h91_.at 85) ((heldTaskS_n W68 (x := y.tasks) (h18_1.below st70.below) hb85.lo hb85.hi).mono ?_)); rintro _ W92 ⟨rfl, hk93⟩; refine ⟨_, rfl, ?_⟩
         have st94 := St.call st70 hk93
         refine sg (aC (v := I ((((((((K + 1) + 1) + 1) + 1) + 1) + (cL bL y.plan.edges : Nat)) + 1) + (cL cK y.tasks : Nat))) rfl (aB (wp_seq (aA (sg (aF (v := I ((((((((K + 1) + 1) + 1) + 1) + 1) + (cL bL y.plan.edges : Nat)) + 1) + (cL cK y.tasks : Nat))) rfl (sg (bQ rfl rfl (aB (aK rfl (fun h101p => ?_) (fun h101p => ?_)))))))))))
         ·exact absurd h101p (Int.not_lt.2 hb96.1)
         ·refine wp_skip (aA (lw h91_.put.put.put.put [(0, v), (1, I ((((((((K + 1) + 1) + 1) + 1) + 1) + (cL bL y.plan.edges : Nat)) + 1) + (cL cK y.tasks : Nat))), (5, I (i : Int))] aE fun h104_ => (rn st94 3 h104_ [5] [(5, I ((i : Int) + 1))] [qad (i : Int) 1] aE fun f103 h103_ => (aB ?_))))
          exact ⟨_, x.length - (i + 1), aD, rfl, i + 1, (((((((K + 1) + 1) + 1) + 1) + 1) + (cL bL y.plan.edges : Nat)) + 1) + (cL cK y.tasks : Nat), aD, aD, rfl, (h103_.to aE), st94⟩
 ·refine wp_exit (wp_seq (aA (sg (aF (v := I K) (h12_.at 1) (sg (aC (v := I K) rfl (aB (wr (aL Tryz.results118 rfl ?_)))))))))
  obtain rfl : i = x.length := by omega
  have hca := jX cV x _ rfl
  exact ⟨fI aD, st9.bare⟩
theorem markEntrySS_n {w W0 : World} {rs : List Res} {v : Value} {xs : List (List Entry)} {fp : List Nat} (hst : St w W0 (Res.own v xs fp :: rs)) (k : Int) (h0 : 0 ≤ k) (hk : k + (cL (cL aQ) xs : Nat) ≤ 4611686018427387904) :
  Calls Tryz.prog 57 #[v, I k] W0 fun e w' => ∃ fp', e = .returned (I (k + (cL (cL aQ) xs : Nat))) ∧ St w w' (Res.own v (mkL (mkL eJ aQ) (cL aQ) xs k) fp' :: rs) := by
 have hcap := (aJ (hst.get 0 rfl)).len_le
 refine bR Tryz.func57 rfl Tryz.ntmps57 aX (wp_seq (aA (sg (aC (v := I 0) rfl (aB (wp_seq (wp_seq (aA (sg (aC (v := I 0) rfl (aB (wp_block (aY (fun (m : Nat) (f : Nat → Value) (W : World) => ∃ (i : Nat) (K : Int) (fo5 : List Nat), i ≤ xs.length ∧ K = k + (cL (cL aQ) (xs.take i) : Nat) ∧ m = xs.length - i ∧ Ag [(0, v), (1, I K), (5, I (i : Int))] f ∧ St w W (Res.own (α := List (List Entry)) v (mkL (mkL eJ aQ) (cL aQ) (xs.take i) k ++ xs.drop i) fo5 :: rs)) (xs.length - 0) ?_ ?_)))))))))))))
 ·exact ⟨0, k, fp, Nat.zero_le _, (by simp [cL]), rfl, (Ag.nil.put.put.put.put.to aE), (by simpa [mkL] using hst)⟩
 intro m6 f7 W8 hJ9
 obtain ⟨i, K, fo5, hi, hK, rfl, hA11, st10⟩ := hJ9
 have hlx : (mkL (mkL eJ aQ) (cL aQ) (xs.take i) k ++ xs.drop i).length = xs.length := by rw [List.length_append, eT, List.length_take, List.length_drop]; omega
 refine wp_seq (wp_seq (aA (rn st10 4 hA11 [] [(9, .bool (decide ((i : Int) < ((mkL (mkL eJ aQ) (cL aQ) (xs.take i) k ++ xs.drop i).length : Int))))] [ql (aJ (st10.get 0 rfl)), .o] aE fun f13 h13_ => (aB (aK (h13_.at 9) (fun h14p => ?_) (fun h14p => ?_))))))
 ·refine wp_skip (wp_seq (wp_block (aA (sg (aF (v := v) (h13_.at 0) (sg (aF (v := I (i : Int)) (h13_.at 5) ?_)))))))
  have hq_ := eR (xs := xs) (i := i) aD
  obtain ⟨y, hy⟩ := hq_
  have hcs := gP (cL aQ) hy
  have hcl := fF (cL aQ) xs (i + 1)
  have hne : cL aQ y = cL aQ y := rfl
  have hb17 : Bd K ((cL aQ y) + (0)) := ⟨by omega, by omega⟩
  have hq_ := St.lendx (α := List Entry) aX st10 (x := y) (oA hy)
  obtain ⟨b18, e18, pre18, cs18, post18, fi18, fr18, hPA18, hC18, st19⟩ := hq_
  have hq_ := st19.f1.uncs1
  obtain ⟨v18, he18, st24⟩ := hq_; subst he18
  refine rn st24 3 h13_.put.put [] [(15, v18), (16, I K)] [qx hPA18, qp 1 rfl 0] aE fun f26 h26_ => ?_
  have hb31 := hb17.upc
  refine sg (bJ Tryz.func115 rfl (h26_.at 15) (h26_.at 16) ((markEntryS_n st24 K hb17.lo hb17.hi).mono ?_)); rintro _ W27 ⟨fp30, rfl, st29⟩; refine ⟨_, rfl, ?_⟩
  refine sg (aC (v := I (K + (cL aQ y : Nat))) rfl (aB (aA (rn st29 3 h26_.put.put [5] [(5, I ((i : Int) + 1))] [qad (i : Int) 1] aE fun f35 h35_ => (aB ?_)))))
  have st36 := st29.cs1
  have hq_ := St.give (α := List Entry) st36.f2.f1.f2
  obtain ⟨fp40, st41⟩ := hq_
  exact ⟨_, xs.length - (i + 1), aD, rfl, i + 1, K + (cL aQ y : Nat), fp40, aD, aD, rfl, (h35_.to aE), (by rw [← lV hy hK]; exact st41)⟩
 ·refine wp_exit (wp_seq (aA (sg (aF (v := I K) (h13_.at 1) (sg (aC (v := I K) rfl (aB (wr (aL Tryz.results57 rfl ?_)))))))))
  obtain rfl : i = xs.length := by omega
  have hca := jX (cL aQ) xs _ rfl
  rw [rO rfl] at st10
  exact ⟨_, fI aD, st10⟩
theorem heldEntrySS_n (w : World) {v : Value} {x : List (List Entry)} {fp : List Nat} {k : Int} (h : Sl w v (mkL (mkL eJ aQ) (cL aQ) x k) fp) (h0 : 0 ≤ k) (hk : k + (cL (cL aQ) x : Nat) ≤ 4611686018427387904) :
  Calls Tryz.prog 117 #[v, I k] w fun e w' => e = .returned (I (k + (cL (cL aQ) x : Nat))) ∧ St w w' [] := by
 have hcap := h.len_le
 rw [eT] at hcap
 have hml : (mkL (mkL eJ aQ) (cL aQ) x k).length = x.length := eT _ _
 refine bR Tryz.func117 rfl Tryz.ntmps117 aX (wp_seq (aA (sg (aC (v := I 0) rfl (aB (wp_seq (wp_seq (aA (sg (aC (v := I 0) rfl (aB (wp_block (aY (fun (m : Nat) (f : Nat → Value) (W : World) => ∃ (i : Nat) (K : Int), i ≤ x.length ∧ K = k + (cL (cL aQ) (x.take i) : Nat) ∧ m = x.length - i ∧ Ag [(0, v), (1, I K), (5, I (i : Int))] f ∧ St w W ([])) (x.length - 0) ?_ ?_)))))))))))))
 ·exact ⟨0, k, Nat.zero_le _, (by simp [cL]), rfl, (Ag.nil.put.put.put.put.to aE), (St.start w)⟩
 intro m5 f6 W7 hJ8
 obtain ⟨i, K, hi, hK, rfl, hA10, st9⟩ := hJ8
 refine wp_seq (wp_seq (aA (rn st9 4 hA10 [] [(9, .bool (decide ((i : Int) < ((mkL (mkL eJ aQ) (cL aQ) x k).length : Int))))] [ql h, .o] aE fun f12 h12_ => (aB (aK (h12_.at 9) (fun h13p => ?_) (fun h13p => ?_))))))
 ·refine wp_skip (wp_seq (wp_block (wp_seq (aA (sg (aF (v := v) (h12_.at 0) (sg (aF (v := I (i : Int)) (h12_.at 5) ?_))))))))
  have hq_ := eR (xs := x) (i := i) aD
  obtain ⟨y, hy⟩ := hq_
  have hcs := gP (cL aQ) hy
  have hcl := fF (cL aQ) x (i + 1)
  have hne : cL aQ y = cL aQ y := rfl
  have hb17 : Bd K ((cL aQ y) + (0)) := ⟨by omega, by omega⟩
  have hq_ := vU h hy hK
  obtain ⟨b16, o16, cs16, f16, hp16, hr16, hc16, hm16⟩ := hq_
  obtain ⟨v18, rfl, h19⟩ := hc16
  have h19 : Sl _ v18 (mkL eJ aQ y K) f16 := h19
  refine rn st9 3 h12_.put.put [] [(15, v18), (16, I K)] [qx hp16, qr hr16 0] aE fun f21 h21_ => ?_
  have hb26 := hb17.upc
  refine sg (bJ Tryz.func181 rfl (h21_.at 15) (h21_.at 16) ((heldEntryS_n W7 (x := y) (h19.below st9.below) hb17.lo hb17.hi).mono ?_)); rintro _ W22 ⟨rfl, hk23⟩; refine ⟨_, rfl, ?_⟩
  have st24 := St.call st9 hk23
  refine sg (aC (v := I (K + (cL aQ y : Nat))) rfl (aB (wp_seq (aA (sg (aF (v := I (K + (cL aQ y : Nat))) rfl (sg (bQ rfl rfl (aB (aK rfl (fun h31p => ?_) (fun h31p => ?_)))))))))))
  ·exact absurd h31p (Int.not_lt.2 hb26.1)
  ·refine wp_skip (aA (rn st24 3 h21_.put.put.put.put [5] [(5, I ((i : Int) + 1))] [qad (i : Int) 1] aE fun f33 h33_ => (aB ?_)))
   exact ⟨_, x.length - (i + 1), aD, rfl, i + 1, K + (cL aQ y : Nat), aD, aD, rfl, (h33_.to aE), st24⟩
 ·refine wp_exit (wp_seq (aA (sg (aF (v := I K) (h12_.at 1) (sg (aC (v := I K) rfl (aB (wr (aL Tryz.results117 rfl ?_)))))))))
  obtain rfl : i = x.length := by omega
  have hca := jX (cL aQ) x _ rfl
  exact ⟨fI aD, st9.bare⟩
theorem markYard_n {w W0 : World} {rs : List Res} {x : Yard} {cs : List Value} {fp : List Nat} (hst : St w W0 (Res.own (.agg cs.toArray) x fp :: rs)) (k : Int) (h0 : 0 ≤ k) (hk : k + (dC x : Nat) ≤ 4611686018427387904) :
  Calls Tryz.prog 20 #[.agg cs.toArray, I k] W0 fun e w' => ∃ fp', e = .returned (I (k + (dC x : Nat))) ∧ St w w' (Res.own (.agg cs.toArray) (qD x k) fp' :: rs) := by
 have hk2 := hk
 unfold dC at hk2
 refine bR Tryz.func20 rfl Tryz.ntmps20 aX ?_
 have hb1 : Bd k ((cL (cL aQ) x.shelf) + ((cL cV x.runs) + (0))) := ⟨by omega, by omega⟩
 refine wp_seq (aA (sg (aI (cs := cs) rfl hst ?_))); intro b2 W3 hb4 st5
 refine sg (aC (v := I 0) rfl (aB (wp_seq (aA ?_))))
 have hq_ := dY st5.f1
 obtain ⟨v11_0, v11_1, g11_0, g11_1, he11, hok11, st12⟩ := hq_
 subst he11
 refine rn st12 3 Ag.nil.put.put.put.put [] [(6, v11_0), (7, I k)] [qb 2 rfl 2] aE fun f15 h15_ => ?_
 have hb20 := hb1.upc
 refine sg (bJ Tryz.func57 rfl (h15_.at 6) (h15_.at 7) ((markEntrySS_n st12 k hb1.lo hb1.hi).mono ?_)); rintro _ W16 ⟨fp19, rfl, st18⟩; refine ⟨_, rfl, ?_⟩
 refine sg (aC (v := I (k + (cL (cL aQ) x.shelf : Nat))) rfl (aB (wp_seq (aA (rn st18 3 h15_.put.put [] [(10, v11_1), (11, I (k + (cL (cL aQ) x.shelf : Nat)))] [qb 2 rfl 3] aE fun f24 h24_ => ?_)))))
 have hb30 := hb20.upc
 refine sg (bJ Tryz.func58 rfl (h24_.at 10) (h24_.at 11) ((markRunS_n st18.f1 (k + (cL (cL aQ) x.shelf : Nat)) hb20.lo hb20.hi).mono ?_)); rintro _ W25 ⟨fp28, rfl, st27⟩; refine ⟨_, rfl, ?_⟩
 refine sg (aC (v := I ((k + (cL (cL aQ) x.shelf : Nat)) + (cL cV x.runs : Nat))) rfl (aB (wp_seq (aA (sg (aF (v := I ((k + (cL (cL aQ) x.shelf : Nat)) + (cL cV x.runs : Nat))) rfl (sg (aC (v := I ((k + (cL (cL aQ) x.shelf : Nat)) + (cL cV x.runs : Nat))) rfl (aB (wr (aL Tryz.results20 rfl ?_)))))))))))
 have st36 := eN (x := (qD x k)) st27.f1 hok11
 exact ⟨_, fI (by unfold dC; push_cast; omega), st36.d1⟩
theorem heldYard_n (w : World) {x : Yard} {cs : List Value} {fp : List Nat} {k : Int} (hc : Shape.C w cs (qD x k) fp) (h0 : 0 ≤ k) (hk : k + (dC x : Nat) ≤ 4611686018427387904) :
  Calls Tryz.prog 60 #[.agg cs.toArray, I k] w fun e w' => e = .returned (I (k + (dC x : Nat))) ∧ St w w' [] := by
 have hk2 := hk
 have hnt : dC x = cL (cL aQ) x.shelf + cL cV x.runs := rfl
 refine bR Tryz.func60 rfl Tryz.ntmps60 aX ?_
 have hb1 : Bd k ((cL (cL aQ) x.shelf) + ((cL cV x.runs) + (0))) := ⟨by omega, by omega⟩
 refine wp_seq (aA (sg (aI (cs := cs) rfl (St.start w) ?_))); intro b2 W3 hb4 st5
 refine sg (aC (v := I 0) rfl (aB (wp_seq (aA ?_))))
 have hk10 := hc
 obtain ⟨v10_0, v10_1, g10_0, g10_1, he10, hok10, h10_0, h10_1, rfl⟩ := hk10
 have he10 : _ = [I x.now, I x.seq, v10_0, v10_1] := he10; subst he10
 have h10_0 : Sl _ v10_0 (mkL (mkL eJ aQ) (cL aQ) x.shelf k) _ := h10_0
 have h10_1 : Sl _ v10_1 (mkL jK cV x.runs (k + (cL (cL aQ) x.shelf : Nat))) _ := h10_1
 refine rn st5 3 Ag.nil.put.put.put.put [] [(6, v10_0), (7, I k)] [qb 0 rfl 2] aE fun f11 h11_ => ?_
 have hb16 := hb1.upc
 refine sg (bJ Tryz.func117 rfl (h11_.at 6) (h11_.at 7) ((heldEntrySS_n W3 (x := x.shelf) (h10_0.below st5.below) hb1.lo hb1.hi).mono ?_)); rintro _ W12 ⟨rfl, hk13⟩; refine ⟨_, rfl, ?_⟩
 have st14 := St.call st5 hk13
 refine sg (aC (v := I (k + (cL (cL aQ) x.shelf : Nat))) rfl (aB (wp_seq (wp_seq (aA (sg (aF (v := I (k + (cL (cL aQ) x.shelf : Nat))) rfl (sg (bQ rfl rfl (aB (aK rfl (fun h21p => ?_) (fun h21p => ?_))))))))))))
 ·exact absurd h21p (Int.not_lt.2 hb16.1)
 ·refine wp_skip (wp_seq (aA (rn st14 3 h11_.put.put.put.put [] [(12, v10_1), (13, I (k + (cL (cL aQ) x.shelf : Nat)))] [qb 0 rfl 3] aE fun f23 h23_ => ?_)))
  have hb28 := hb16.upc
  refine sg (bJ Tryz.func118 rfl (h23_.at 12) (h23_.at 13) ((heldRunS_n W12 (x := x.runs) (h10_1.below st14.below) hb16.lo hb16.hi).mono ?_)); rintro _ W24 ⟨rfl, hk25⟩; refine ⟨_, rfl, ?_⟩
  have st26 := St.call st14 hk25
  refine sg (aC (v := I ((k + (cL (cL aQ) x.shelf : Nat)) + (cL cV x.runs : Nat))) rfl (aB (wp_seq (wp_seq (aA (sg (aF (v := I ((k + (cL (cL aQ) x.shelf : Nat)) + (cL cV x.runs : Nat))) rfl (sg (bQ rfl rfl (aB (aK rfl (fun h33p => ?_) (fun h33p => ?_))))))))))))
  ·exact absurd h33p (Int.not_lt.2 hb28.1)
  ·refine wp_skip (wp_seq (aA (sg (aF (v := I ((k + (cL (cL aQ) x.shelf : Nat)) + (cL cV x.runs : Nat))) rfl (sg (aC (v := I ((k + (cL (cL aQ) x.shelf : Nat)) + (cL cV x.runs : Nat))) rfl (aB (wr (aL Tryz.results60 rfl ?_)))))))))
   exact ⟨fI aD, st26.bare⟩
theorem markReplyS_n {w W0 : World} {rs : List Res} {v : Value} {xs : List Reply} {fp : List Nat} (hst : St w W0 (Res.own v xs fp :: rs)) (k : Int) (h0 : 0 ≤ k) (hk : k + (cL cB xs : Nat) ≤ 4611686018427387904) :
  Calls Tryz.prog 59 #[v, I k] W0 fun e w' => ∃ fp', e = .returned (I (k + (cL cB xs : Nat))) ∧ St w w' (Res.own v (mkL hQ cB xs k) fp' :: rs) := by
 have hcap := (aJ (hst.get 0 rfl)).len_le
 refine bR Tryz.func59 rfl Tryz.ntmps59 aX (wp_seq (aA (sg (aC (v := I 0) rfl (aB (wp_seq (wp_seq (aA (sg (aC (v := I 0) rfl (aB (wp_block (aY (fun (m : Nat) (f : Nat → Value) (W : World) => ∃ (i : Nat) (K : Int) (fo5 : List Nat), i ≤ xs.length ∧ K = k + (cL cB (xs.take i) : Nat) ∧ m = xs.length - i ∧ Ag [(0, v), (1, I K), (5, I (i : Int))] f ∧ St w W (Res.own (α := List Reply) v (mkL hQ cB (xs.take i) k ++ xs.drop i) fo5 :: rs)) (xs.length - 0) ?_ ?_)))))))))))))
 ·exact ⟨0, k, fp, Nat.zero_le _, (by simp [cL]), rfl, (Ag.nil.put.put.put.put.to aE), (by simpa [mkL] using hst)⟩
 intro m6 f7 W8 hJ9
 obtain ⟨i, K, fo5, hi, hK, rfl, hA11, st10⟩ := hJ9
 have hlx : (mkL hQ cB (xs.take i) k ++ xs.drop i).length = xs.length := by rw [List.length_append, eT, List.length_take, List.length_drop]; omega
 refine wp_seq (wp_seq (aA (rn st10 4 hA11 [] [(9, .bool (decide ((i : Int) < ((mkL hQ cB (xs.take i) k ++ xs.drop i).length : Int))))] [ql (aJ (st10.get 0 rfl)), .o] aE fun f13 h13_ => (aB (aK (h13_.at 9) (fun h14p => ?_) (fun h14p => ?_))))))
 ·refine wp_skip (wp_seq (wp_block (wp_seq (aA (rn st10 3 h13_ [] [(12, v), (13, I (i : Int)), (14, I K)] [] aE fun f16 h16_ => ?_)))))
  have hq_ := eR (xs := xs) (i := i) aD
  obtain ⟨y, hy⟩ := hq_
  have hcs := gP cB hy
  have hcl := fF cB xs (i + 1)
  have hne : cB y = 4 := rfl
  have hb17 : Bd K (1 + (1 + (1 + (1 + (0))))) := ⟨by omega, by omega⟩
  have hq_ := St.lendx (α := Reply) aX st10 (x := y) (oA hy)
  obtain ⟨b18, e18, pre18, cs18, post18, fi18, fr18, hPA18, hC18, st19⟩ := hq_
  obtain ⟨he18, hf18, hok18⟩ := hC18; have he18 : _ = [I y.code, I y.run, I y.task, I y.try_] := he18; subst he18
  refine sg (aN lQ (h16_.at 12) hPA18 (h16_.at 13) rfl (sg (aH uE rfl (sgn (bC (i := 0) (v := I K) (C' := [I K, I y.run, I y.task, I y.try_]) aE rfl (h16_.at 14) rfl rfl st19.d1 rfl bP rfl ?_))))); intro W26 st27
  refine aB (wp_seq (aA ?_))
  have hb29 := hb17.up
  refine rn st27 3 h16_.put.put [1] [(1, I (K + 1))] [.ad K 1 hb29.i64] aE fun f30 h30_ => (aB (wp_seq (aA (rn st27 5 h30_ [] [(21, I (K + 1)), (23, .pointer (some ⟨b18, pre18.length + 1, none⟩))] [qx hPA18] aE fun f32 h32_ => (sgn (bC (i := 1) (v := I (K + 1)) (C' := [I K, I (K + 1), I y.task, I y.try_]) aE (h32_.at 23) (h32_.at 21) rfl rfl st27 rfl bP rfl ?_)))))); intro W33 st34
  refine aB (wp_seq (aA ?_))
  have hb36 := hb29.up
  refine rn st34 3 h32_ [1] [(1, I ((K + 1) + 1))] [.ad (K + 1) 1 hb36.i64] aE fun f37 h37_ => (aB (wp_seq (aA (rn st34 5 h37_ [] [(28, I ((K + 1) + 1)), (30, .pointer (some ⟨b18, pre18.length + 2, none⟩))] [qx hPA18] aE fun f39 h39_ => (sgn (bC (i := 2) (v := I ((K + 1) + 1)) (C' := [I K, I (K + 1), I ((K + 1) + 1), I y.try_]) aE (h39_.at 30) (h39_.at 28) rfl rfl st34 rfl bP rfl ?_)))))); intro W40 st41
  refine aB (wp_seq (aA ?_))
  have hb43 := hb36.up
  refine rn st41 3 h39_ [1] [(1, I (((K + 1) + 1) + 1))] [.ad ((K + 1) + 1) 1 hb43.i64] aE fun f44 h44_ => (aB (wp_seq (aA (lw h44_ [(0, v), (1, I (((K + 1) + 1) + 1)), (5, I (i : Int))] aE fun h47_ => (rn st41 5 h47_ [] [(35, I (((K + 1) + 1) + 1)), (37, .pointer (some ⟨b18, pre18.length + 3, none⟩))] [qx hPA18] aE fun f46 h46_ => (sgn (bC (i := 3) (v := I (((K + 1) + 1) + 1)) (C' := [I K, I (K + 1), I ((K + 1) + 1), I (((K + 1) + 1) + 1)]) aE (h46_.at 37) (h46_.at 35) rfl rfl st41 rfl bP rfl ?_))))))); intro W48 st49
  refine aB (aA ?_)
  have hb51 := hb43.up
  refine rn st49 3 h46_ [1] [(1, I ((((K + 1) + 1) + 1) + 1))] [.ad (((K + 1) + 1) + 1) 1 hb51.i64] aE fun f52 h52_ => (aB (aA (rn st49 3 h52_ [5] [(5, I ((i : Int) + 1))] [qad (i : Int) 1] aE fun f54 h54_ => (aB ?_))))
  have st55 := st49.cs0 (cs := [I K, I (K + 1), I ((K + 1) + 1), I (((K + 1) + 1) + 1)]) (x := (⟨K, K + 1, (K + 1) + 1, ((K + 1) + 1) + 1⟩ : Reply)) ⟨rfl, rfl, eP⟩
  have hq_ := St.give (α := Reply) st55.f2.f1.f2
  obtain ⟨fp60, st61⟩ := hq_
  exact ⟨_, xs.length - (i + 1), aD, rfl, i + 1, (((K + 1) + 1) + 1) + 1, fp60, aD, aD, rfl, (h54_.to aE), (by rw [← lV hy hK]; exact st61)⟩
 ·refine wp_exit (wp_seq (aA (sg (aF (v := I K) (h13_.at 1) (sg (aC (v := I K) rfl (aB (wr (aL Tryz.results59 rfl ?_)))))))))
  obtain rfl : i = xs.length := by omega
  have hca := jX cB xs _ rfl
  rw [rO rfl] at st10
  exact ⟨_, fI aD, st10⟩
theorem heldReplyS_n (w : World) {v : Value} {x : List Reply} {fp : List Nat} {k : Int} (h : Sl w v (mkL hQ cB x k) fp) (h0 : 0 ≤ k) (hk : k + (cL cB x : Nat) ≤ 4611686018427387904) :
  Calls Tryz.prog 61 #[v, I k] w fun e w' => e = .returned (I (k + (cL cB x : Nat))) ∧ St w w' [] := by
 have hcap := h.len_le
 rw [eT] at hcap
 have hml : (mkL hQ cB x k).length = x.length := eT _ _
 refine bR Tryz.func61 rfl Tryz.ntmps61 aX (wp_seq (aA (sg (aC (v := I 0) rfl (aB (wp_seq (wp_seq (aA (sg (aC (v := I 0) rfl (aB (wp_block (aY (fun (m : Nat) (f : Nat → Value) (W : World) => ∃ (i : Nat) (K : Int), i ≤ x.length ∧ K = k + (cL cB (x.take i) : Nat) ∧ m = x.length - i ∧ Ag [(0, v), (1, I K), (5, I (i : Int))] f ∧ St w W ([])) (x.length - 0) ?_ ?_)))))))))))))
 ·exact ⟨0, k, Nat.zero_le _, (by simp [cL]), rfl, (Ag.nil.put.put.put.put.to aE), (St.start w)⟩
 intro m5 f6 W7 hJ8
 obtain ⟨i, K, hi, hK, rfl, hA10, st9⟩ := hJ8
 refine wp_seq (wp_seq (aA (rn st9 4 hA10 [] [(9, .bool (decide ((i : Int) < ((mkL hQ cB x k).length : Int))))] [ql h, .o] aE fun f12 h12_ => (aB (aK (h12_.at 9) (fun h13p => ?_) (fun h13p => ?_))))))
 ·refine wp_skip (wp_seq (wp_block (wp_seq (wp_seq (aA (sg (aF (v := v) (h12_.at 0) (sg (aF (v := I (i : Int)) (h12_.at 5) ?_)))))))))
  have hq_ := eR (xs := x) (i := i) aD
  obtain ⟨y, hy⟩ := hq_
  have hcs := gP cB hy
  have hcl := fF cB x (i + 1)
  have hne : cB y = 4 := rfl
  have hb17 : Bd K (1 + (1 + (1 + (1 + (0))))) := ⟨by omega, by omega⟩
  have hq_ := vU h hy hK
  obtain ⟨b16, o16, cs16, f16, hp16, hr16, hc16, hm16⟩ := hq_
  have hk18 := hc16
  obtain ⟨he18, rfl, hok18⟩ := hk18
  have he18 : _ = [I K, I (K + 1), I ((K + 1) + 1), I (((K + 1) + 1) + 1)] := he18; subst he18
  refine rn st9 5 h12_.put.put [] [(18, .bool (!decide (K = K)))] [qx hp16, qr hr16 0, .o] aE fun f20 h20_ => (aB (cC (h20_.at 18) (fun h21p => ?_) (fun h21p => ?_)))
  ·exact absurd rfl h21p
  ·refine wp_skip (wp_seq (aA ?_))
   have hb23 := hb17.up
   refine rn st9 3 h20_ [1] [(1, I (K + 1))] [.ad K 1 hb23.i64] aE fun f24 h24_ => (aB (wp_seq (wp_seq (aA (sg (aF (v := v) (h24_.at 0) (sg (aF (v := I (i : Int)) (h24_.at 5) (rn st9 5 h24_.put.put [] [(27, .bool (!decide ((K + 1) = (K + 1))))] [qx hp16, qr hr16 1, .o] aE fun f29 h29_ => (aB (cC (h29_.at 27) (fun h30p => ?_) (fun h30p => ?_))))))))))))
   ·exact absurd rfl h30p
   ·refine wp_skip (wp_seq (aA ?_))
    have hb32 := hb23.up
    refine rn st9 3 h29_ [1] [(1, I ((K + 1) + 1))] [.ad (K + 1) 1 hb32.i64] aE fun f33 h33_ => (aB (wp_seq (wp_seq (aA (sg (aF (v := v) (h33_.at 0) (sg (aF (v := I (i : Int)) (h33_.at 5) (lw h33_.put.put [(0, v), (1, I ((K + 1) + 1)), (5, I (i : Int)), (30, v), (31, I (i : Int))] aE fun h39_ => (rn st9 5 h39_ [] [(36, .bool (!decide (((K + 1) + 1) = ((K + 1) + 1))))] [qx hp16, qr hr16 2, .o] aE fun f38 h38_ => (aB (cC (h38_.at 36) (fun h40p => ?_) (fun h40p => ?_)))))))))))))
    ·exact absurd rfl h40p
    ·refine wp_skip (wp_seq (aA ?_))
     have hb42 := hb32.up
     refine rn st9 3 h38_ [1] [(1, I (((K + 1) + 1) + 1))] [.ad ((K + 1) + 1) 1 hb42.i64] aE fun f43 h43_ => (aB (wp_seq (wp_seq (aA (sg (aF (v := v) (h43_.at 0) (sg (aF (v := I (i : Int)) (h43_.at 5) (rn st9 5 h43_.put.put [] [(45, .bool (!decide ((((K + 1) + 1) + 1) = (((K + 1) + 1) + 1))))] [qx hp16, qr hr16 3, .o] aE fun f48 h48_ => (aB (cC (h48_.at 45) (fun h49p => ?_) (fun h49p => ?_))))))))))))
     ·exact absurd rfl h49p
     ·refine wp_skip (aA ?_)
      have hb51 := hb42.up
      refine rn st9 3 h48_ [1] [(1, I ((((K + 1) + 1) + 1) + 1))] [.ad (((K + 1) + 1) + 1) 1 hb51.i64] aE fun f52 h52_ => (aB (aA (rn st9 3 h52_ [5] [(5, I ((i : Int) + 1))] [qad (i : Int) 1] aE fun f54 h54_ => (aB ?_))))
      exact ⟨_, x.length - (i + 1), aD, rfl, i + 1, (((K + 1) + 1) + 1) + 1, aD, aD, rfl, (h54_.to aE), st9⟩
 ·refine wp_exit (wp_seq (aA (sg (aF (v := I K) (h12_.at 1) (sg (aC (v := I K) rfl (aB (wr (aL Tryz.results61 rfl ?_)))))))))
  obtain rfl : i = x.length := by omega
  have hca := jX cB x _ rfl
  exact ⟨fI aD, st9.bare⟩
theorem tW {w W0 : World} {rs : List Res} {x : Crew} {cs : List Value} {fp : List Nat} (hst : St w W0 (Res.own (.agg cs.toArray) x fp :: rs)) (k : Int) (h0 : 0 ≤ k) (hk : k + (eB x : Nat) ≤ 4611686018427387904) :
  Calls Tryz.prog 21 #[.agg cs.toArray, I k] W0 fun e w' => ∃ fp', e = .returned (I (k + (eB x : Nat))) ∧ St w w' (Res.own (.agg cs.toArray) (qF x k) fp' :: rs) := by
 have hk2 := hk
 unfold eB at hk2
 refine bR Tryz.func21 rfl Tryz.ntmps21 aX ?_
 have hb1 : Bd k ((dC x.yard) + ((cL cB x.holds) + (0))) := ⟨by omega, by omega⟩
 refine wp_seq (aA (sg (aI (cs := cs) rfl hst ?_))); intro b2 W3 hb4 st5
 refine sg (aC (v := I 0) rfl (aB (wp_seq (aA ?_))))
 have hq_ := nZ st5.f1
 obtain ⟨v11_0, v11_1, v11_2, g11_0, g11_1, g11_2, he11, hok11, st12⟩ := hq_
 subst he11
 refine rn st12 3 Ag.nil.put.put.put.put [] [(6, .agg #[I x.yard.now, I x.yard.seq, v11_0, v11_1]), (7, I k)] [qb 3 rfl 0] aE fun f16 h16_ => ?_
 have st23 := eN (x := x.yard) st12.f1.f1 eP
 have hb25 := hb1.upc
 refine sg (bJ Tryz.func20 rfl (h16_.at 6) (h16_.at 7) ((markYard_n st23 k hb1.lo hb1.hi).mono ?_)); rintro _ W17 ⟨fp20, rfl, st19⟩; refine ⟨_, rfl, ?_⟩
 have hq_ := dY st19
 obtain ⟨vq26_0, vq26_1, fq26_0, fq26_1, heq26, hokq26, st27⟩ := hq_
 have ev26_0 := Option.some.inj (congrArg (fun l : List Value => l[2]?) heq26); subst ev26_0
 have ev26_1 := Option.some.inj (congrArg (fun l : List Value => l[3]?) heq26); subst ev26_1
 refine sg (aC (v := I (k + (dC x.yard : Nat))) rfl (aB (wp_seq (aA (rn st27 3 h16_.put.put [] [(10, v11_2), (11, I (k + (dC x.yard : Nat)))] [qb 3 rfl 4] aE fun f31 h31_ => ?_)))))
 have hb37 := hb25.upc
 refine sg (bJ Tryz.func59 rfl (h31_.at 10) (h31_.at 11) ((markReplyS_n st27.f2 (k + (dC x.yard : Nat)) hb25.lo hb25.hi).mono ?_)); rintro _ W32 ⟨fp35, rfl, st34⟩; refine ⟨_, rfl, ?_⟩
 refine sg (aC (v := I ((k + (dC x.yard : Nat)) + (cL cB x.holds : Nat))) rfl (aB (wp_seq (aA (sg (aF (v := I ((k + (dC x.yard : Nat)) + (cL cB x.holds : Nat))) rfl (sg (aC (v := I ((k + (dC x.yard : Nat)) + (cL cB x.holds : Nat))) rfl (aB (wr (aL Tryz.results21 rfl ?_)))))))))))
 have st44 := fT (x := (qF x k)) st34.f2.f2 hok11
 exact ⟨_, fI (by unfold eB; push_cast; omega), st44.d1⟩
theorem tZ (w : World) {x : Crew} {cs : List Value} {fp : List Nat} {k : Int} (hc : Shape.C w cs (qF x k) fp) (h0 : 0 ≤ k) (hk : k + (eB x : Nat) ≤ 4611686018427387904) :
  Calls Tryz.prog 22 #[.agg cs.toArray, I k] w fun e w' => e = .returned (I (k + (eB x : Nat))) ∧ St w w' [] := by
 have hk2 := hk
 have hnt : eB x = dC x.yard + cL cB x.holds := rfl
 refine bR Tryz.func22 rfl Tryz.ntmps22 aX ?_
 have hb1 : Bd k ((dC x.yard) + ((cL cB x.holds) + (0))) := ⟨by omega, by omega⟩
 refine wp_seq (aA (sg (aI (cs := cs) rfl (St.start w) ?_))); intro b2 W3 hb4 st5
 refine sg (aC (v := I 0) rfl (aB (wp_seq (aA ?_))))
 have hk10 := hc
 obtain ⟨v10_0, v10_1, v10_2, g10_0, g10_1, g10_2, he10, hok10, h10_0, h10_1, h10_2, rfl⟩ := hk10
 have he10 : _ = [I x.yard.now, I x.yard.seq, v10_0, v10_1, v10_2, I x.turns, I x.did] := he10; subst he10
 have h10_0 : Sl _ v10_0 (mkL (mkL eJ aQ) (cL aQ) x.yard.shelf k) _ := h10_0
 have h10_1 : Sl _ v10_1 (mkL jK cV x.yard.runs (k + (cL (cL aQ) x.yard.shelf : Nat))) _ := h10_1
 have h10_2 : Sl _ v10_2 (mkL hQ cB x.holds (k + (dC x.yard : Nat))) _ := h10_2
 refine rn st5 3 Ag.nil.put.put.put.put [] [(6, .agg #[I x.yard.now, I x.yard.seq, v10_0, v10_1]), (7, I k)] [qb 0 rfl 0] aE fun f11 h11_ => ?_
 have hb16 := hb1.upc
 refine sg (bJ Tryz.func60 rfl (h11_.at 6) (h11_.at 7) ((heldYard_n W3 (x := x.yard) (show Shape.C _ [I x.yard.now, I x.yard.seq, v10_0, v10_1] (qF x k).yard _ from ⟨_, _, _, _, rfl, eP, (h10_0.below st5.below), (h10_1.below st5.below), rfl⟩) hb1.lo hb1.hi).mono ?_)); rintro _ W12 ⟨rfl, hk13⟩; refine ⟨_, rfl, ?_⟩
 have st14 := St.call st5 hk13
 refine sg (aC (v := I (k + (dC x.yard : Nat))) rfl (aB (wp_seq (wp_seq (aA (sg (aF (v := I (k + (dC x.yard : Nat))) rfl (sg (bQ rfl rfl (aB (aK rfl (fun h21p => ?_) (fun h21p => ?_))))))))))))
 ·exact absurd h21p (Int.not_lt.2 hb16.1)
 ·refine wp_skip (wp_seq (aA (rn st14 3 h11_.put.put.put.put [] [(12, v10_2), (13, I (k + (dC x.yard : Nat)))] [qb 0 rfl 4] aE fun f23 h23_ => ?_)))
  have hb28 := hb16.upc
  refine sg (bJ Tryz.func61 rfl (h23_.at 12) (h23_.at 13) ((heldReplyS_n W12 (x := x.holds) (h10_2.below st14.below) hb16.lo hb16.hi).mono ?_)); rintro _ W24 ⟨rfl, hk25⟩; refine ⟨_, rfl, ?_⟩
  have st26 := St.call st14 hk25
  refine sg (aC (v := I ((k + (dC x.yard : Nat)) + (cL cB x.holds : Nat))) rfl (aB (wp_seq (wp_seq (aA (sg (aF (v := I ((k + (dC x.yard : Nat)) + (cL cB x.holds : Nat))) rfl (sg (bQ rfl rfl (aB (aK rfl (fun h33p => ?_) (fun h33p => ?_))))))))))))
  ·exact absurd h33p (Int.not_lt.2 hb28.1)
  ·refine wp_skip (wp_seq (aA (sg (aF (v := I ((k + (dC x.yard : Nat)) + (cL cB x.holds : Nat))) rfl (sg (aC (v := I ((k + (dC x.yard : Nat)) + (cL cB x.holds : Nat))) rfl (aB (wr (aL Tryz.results22 rfl ?_)))))))))
   exact ⟨fI aD, st26.bare⟩
theorem turn_law (w : World) (cs0 : List Value) (x0 : Crew) (fp0 : List Nat) (hc0 : Shape.C w cs0 x0 fp0) (n1 : Int) (hn1 : I64 n1) :
  Calls Tryz.prog 6 #[.agg cs0.toArray, I n1] w fun e w' => e = .returned (.bool true) ∧ Below w.heap.size w w' := by
 have hwx0 : x0.wt ≤ 1048576 → (eL x0 n1).wt ≤ 1048576 := fun h => turnC_wt n1 h
 refine bR Tryz.func6 rfl Tryz.ntmps6 aX (wp_seq (aA (sg (aI (cs := cs0) rfl (St.start w) ?_)))); intro b1 W2 hb3 st4
 refine sg (aC (v := .bool false) rfl (aB (wp_seq (aA (sg (aC (v := I 1048576) rfl (aB (wp_seq (aA (rc st4 4 Ag.nil.put.put.put.put.put [5] [(5, I (szL 1048576 x0.wt))] [qw 0 rfl (Shape.len hc0), qc Tryz.func10 rfl (fun W s b => szCrew_n W (bA hc0 s.below) 1048576 aD aD)] aE fun f11 W12 h11_ st13 hb14 => (aB (wp_seq (wp_seq ?_)))))))))))))
 refine aA (sg (aF (v := I (szL 1048576 x0.wt)) (h11_.at 5) (sg (bQ rfl rfl (aB (aK rfl (fun h17p => ?_) (fun h17p => ?_)))))))
 ·have h17q := lH h17p aD
  refine wp_seq (aA (sg (aC (v := .bool true) rfl (aB (wr (aL Tryz.results6 rfl ?_))))))
  exact ⟨rfl, st13.below⟩
 ·have h17q := lI h17p aD
  refine wp_skip (wp_seq (aA (sg (bH qJ rfl (h11_.at 2) (st13.get 0 rfl) (Shape.len hc0) (sg (bI Tryz.func12 rfl rfl ((pL W12 (bA hc0 st13.below) (by first | exact hw | omega | (simp only [Plan.wt, Run.wt, Yard.wt, Deed.wt, Note.wt, File.wt, Disk.wt, Engine.wt, WorldD.wt, ActD.wt, Span.wt, Crew.wt] at *; omega))).mono ?_))))))); rintro _ W24 ⟨cs22, fp22, rfl, hk25⟩; refine ⟨_, rfl, ?_⟩
  have st26 := St.call st13 hk25
  refine sg (aF (v := I n1) (h11_.at 1) (sg (bJ Tryz.func27 rfl rfl rfl ((TurnS_ W24 (bW (st26.get 0 rfl) rfl) n1 hn1 (by simp only [Crew.wt] at *; omega)).mono ?_)))); rintro _ W32 ⟨cs30, fp30, rfl, hk33⟩; refine ⟨_, rfl, ?_⟩
  have st34 := St.call st26 hk33
  refine sg (aT iH st34 ?_); intro b36 W37 hb38 st39
  refine sgn (aR (cs := cs30) cA (bW (st39.get 1 rfl) rfl) rfl rfl st39 rfl ?_); intro W41 st42
  refine aB (wp_seq (aA (sg (bH qJ rfl (h11_.at 2) (st42.get 3 rfl) (Shape.len hc0) (sg (bI Tryz.func12 rfl rfl ((pL W41 (bA hc0 st42.below) (by first | exact hw | omega | (simp only [Plan.wt, Run.wt, Yard.wt, Deed.wt, Note.wt, File.wt, Disk.wt, Engine.wt, WorldD.wt, ActD.wt, Span.wt, Crew.wt] at *; omega))).mono ?_))))))); rintro _ W47 ⟨cs45, fp45, rfl, hk48⟩; refine ⟨_, rfl, ?_⟩
  have st49 := St.call st42 hk48
  refine sg (aT iH st49 ?_); intro b51 W52 hb53 st54
  refine sgn (aR (cs := cs45) cA (bW (st54.get 1 rfl) rfl) rfl rfl st54 rfl ?_); intro W56 st57
  refine aB (wp_seq (aA (sg (bH cA rfl rfl (st57.get 0 rfl) (Shape.len (bW (st57.get 1 rfl) rfl)) (sg (aF (v := I n1) (h11_.at 1) (sg (bJ Tryz.func28 rfl rfl rfl ((aB1 W56 (bW (st57.get 1 rfl) rfl) n1 hn1 (by simp only [Crew.wt] at *; omega)).mono ?_))))))))); rintro _ W62 ⟨cs60, fp60, rfl, hk63⟩; refine ⟨_, rfl, ?_⟩
  have st64 := St.call st57 hk63
  refine sg (aT iH st64 ?_); intro b66 W67 hb68 st69
  refine sgn (aR (cs := cs60) cA (bW (st69.get 1 rfl) rfl) rfl rfl st69 rfl ?_); intro W71 st72
  refine aB (wp_seq (wp_seq (aA (lw h11_.put.put.put.put.put.put.put.put.put.put.put.put.put.put [(1, I n1), (2, .pointer (some ⟨b1, 0, none⟩)), (6, .pointer (some ⟨b36, 0, none⟩)), (7, .pointer (some ⟨b51, 0, none⟩)), (8, .pointer (some ⟨b66, 0, none⟩))] aE fun h75_ => (rc st72 4 h75_ [] [(30, .bool (!(eqB (eL x0 n1) (eL x0 n1))))] [qw 0 rfl (Shape.len (bW (st72.get 1 rfl) rfl)), qw 4 rfl (Shape.len (bW (st72.get 5 rfl) rfl)), qc Tryz.func14 rfl (fun W s b => qS W (bW (s.get 1 rfl) rfl) (bW (s.get 5 rfl) rfl)), .o] aE fun f74 W76 h74_ st77 hb78 => (aB (cT (h74_.at 30) (fun h79 => ?_) (fun h79 => ?_))))))))
  ·exact absurd (aW h79) (by rw [dE rfl]; decide)
  ·refine wp_skip (wp_seq (wp_seq (oX [Pl.is (.agg cs45.toArray), Pl.is (.agg cs0.toArray), Pl.sval (α := Crew) x0, Pl.bool (eqB x0 x0), Pl.bool (!(eqB x0 x0))] mix (by rfl) st77 ⟨(fun f W hst hbl hd hf => bH cA rfl ((hf 7 rfl).trans (h74_.at 7)) (hst.get 2 rfl) (Shape.len (bW (hst.get 3 rfl) rfl)) brq), (fun f W hst hbl hd hf => bH qJ rfl ((hf 2 rfl).trans (h74_.at 2)) (hst.get 7 rfl) (Shape.len hc0) brq), (fun f W hst hbl hd hf => bI Tryz.func12 rfl (hd 1 32 rfl rfl) ((pL W (bA hc0 hst.below) (by first | exact hw | omega | (simp only [Plan.wt, Run.wt, Yard.wt, Deed.wt, Note.wt, File.wt, Disk.wt, Engine.wt, WorldD.wt, ActD.wt, Span.wt, Crew.wt] at *; omega))).mono (by rintro e W2 ⟨cs, fp, rfl, hk⟩; exact ⟨_, rfl, hk.below, fp, own_V (hk.get 0 rfl)⟩))), (fun f W hst hbl hd hf => by obtain ⟨fp82, cs82, e82, hc82⟩ := hd 2 33 rfl rfl; exact bJ Tryz.func14 rfl (hd 0 31 rfl rfl) e82 ((qS W (bW (hst.get 3 rfl) rfl) hc82).mono (by rintro e W2 ⟨rfl, hk⟩; exact ⟨_, rfl, hk.below, rfl⟩))), (fun f W hst hbl hd hf => nS (hd 3 34 rfl rfl) brq), trivial⟩ ?_)))
   intro f83 W84 st85 hb86 hv87 hf88
   refine cT (hv87 4 35 aX rfl) (fun h90 => ?_) (fun h90 => ?_)
   ·exact absurd (aW h90) (by rw [dE rfl]; decide)
   ·refine wp_skip (wp_seq (aA (sg (aC (v := I 1) rfl (aB (wp_seq (aA (sg (bH cA rfl ((hf88 7 rfl).trans (h74_.at 7)) (st85.get 2 rfl) (Shape.len (bW (st85.get 3 rfl) rfl)) (sg (aF (v := I 1) rfl (sg (bJ Tryz.func21 rfl rfl rfl ((tW st85.f3 1 aD (by have := sQ x0; omega)).mono ?_)))))))))))))); rintro _ W95 ⟨fp98, rfl, st97⟩; refine ⟨_, rfl, ?_⟩
    refine sg (aC (v := I (1 + (eB x0 : Nat))) rfl (aB (wp_seq (wp_seq (aA ?_)))))
    rcases nem ((1 + (eB x0 : Nat)) < 0) with h103p | h103p
    ·have h103 := decide_eq_false h103p
     refine rc st97 8 (Ag.cons (show f83 1 = I n1 from ((hf88 1 rfl).trans (h74_.at 1))) (Ag.cons (show f83 2 = .pointer (some ⟨b1, 0, none⟩) from ((hf88 2 rfl).trans (h74_.at 2))) (Ag.cons (show f83 6 = .pointer (some ⟨b36, 0, none⟩) from ((hf88 6 rfl).trans (h74_.at 6))) (Ag.cons (show f83 8 = .pointer (some ⟨b66, 0, none⟩) from ((hf88 8 rfl).trans (h74_.at 8))) Ag.nil)))).put.put.put.put.put [] [(46, .bool false)] [qk h103, qw 1 rfl (Shape.len (bW (st97.get 2 rfl) rfl)), qw 4 rfl (Shape.len (bW (st97.get 5 rfl) rfl)), qc Tryz.func14 rfl (fun W s b => qS W (bW (s.get 2 rfl) rfl) (bW (s.get 5 rfl) rfl)), qk h79] aE fun f104 W105 h104_ st106 hb107 => (aB (gK (h104_.at 46) rfl (wp_skip (wp_seq (aA (sg (aC (v := I 1) rfl (aB (wp_seq (aA (sg (bH cA rfl (h104_.at 8) (st106.get 1 rfl) (Shape.len (bW (st106.get 2 rfl) rfl)) (sg (aF (v := I 1) rfl ?_))))))))))))))
     refine sg (bJ Tryz.func21 rfl rfl rfl ((tW st106.f2 1 aD (by have := sQ (eL x0 n1); omega)).mono ?_)); rintro _ W112 ⟨fp115, rfl, st114⟩; refine ⟨_, rfl, ?_⟩
     refine sg (aC (v := I (1 + (eB (eL x0 n1) : Nat))) rfl (aB (wp_seq (aA (sg (aC (v := I 1) rfl (aB (wp_seq (aA (sg (bH cA rfl (h104_.at 8) (st114.get 2 rfl) (Shape.len (bW (st114.get 0 rfl) rfl)) (sg (aF (v := I 1) rfl (sg (bJ Tryz.func22 rfl rfl rfl ((tZ W112 (x := (eL x0 n1)) (bW (st114.get 0 rfl) rfl) aD (by have := sQ (eL x0 n1); omega)).mono ?_)))))))))))))))); rintro _ W123 ⟨rfl, hk124⟩; refine ⟨_, rfl, ?_⟩
     have st125 := St.call st114 hk124
     refine sg (aC (v := I (1 + (eB (eL x0 n1) : Nat))) rfl (aB (wp_seq (wp_seq (aA (sg (aF (v := I (1 + (eB (eL x0 n1) : Nat))) rfl (sg (bQ rfl rfl (aB (aK rfl (fun h131p => ?_) (fun h131p => ?_))))))))))))
     ·have h131 := decide_eq_true h131p
      omega
     ·have h131 := decide_eq_false h131p
      refine wp_skip (wp_seq (wp_seq (aA (lw h104_.put.put.put.put.put.put.put.put.put.put.put.put [(1, I n1), (2, .pointer (some ⟨b1, 0, none⟩)), (6, .pointer (some ⟨b36, 0, none⟩)), (8, .pointer (some ⟨b66, 0, none⟩)), (10, I (1 + (eB (eL x0 n1) : Nat))), (11, I (1 + (eB (eL x0 n1) : Nat)))] aE fun h134_ => (rn st125 3 h134_ [] [(57, .bool (!decide (((1 + (eB (eL x0 n1) : Nat)) : Int) = (1 + (eB (eL x0 n1) : Nat)))))] [.o] aE fun f133 h133_ => (aB (cC (h133_.at 57) (fun h135p => ?_) (fun h135p => ?_))))))))
      ·have h135 := gN h135p
       exact absurd rfl h135p
      ·have h135 := gO h135p
       refine wp_skip (wp_seq (aA (sg (bH qJ rfl (h133_.at 2) (st125.get 7 rfl) (Shape.len hc0) (sg (bI Tryz.func12 rfl rfl ((pL W123 (bA hc0 st125.below) (by first | exact hw | omega | (simp only [Plan.wt, Run.wt, Yard.wt, Deed.wt, Note.wt, File.wt, Disk.wt, Engine.wt, WorldD.wt, ActD.wt, Span.wt, Crew.wt] at *; omega))).mono ?_))))))); rintro _ W140 ⟨cs138, fp138, rfl, hk141⟩; refine ⟨_, rfl, ?_⟩
       have st142 := St.call st125 hk141
       refine sg (aF (v := I n1) (h133_.at 1) (sg (bJ Tryz.func28 rfl rfl rfl ((aB1 W140 (bW (st142.get 0 rfl) rfl) n1 hn1 (by simp only [Crew.wt] at *; omega)).mono ?_)))); rintro _ W148 ⟨cs146, fp146, rfl, hk149⟩; refine ⟨_, rfl, ?_⟩
       have st150 := St.call st142 hk149
       refine sg (aT iH st150 ?_); intro b152 W153 hb154 st155
       refine sgn (aR (cs := cs146) cA (bW (st155.get 1 rfl) rfl) rfl rfl st155 rfl ?_); intro W157 st158
       refine aB (wp_seq (wp_seq (aA (rc st158 4 h133_.put.put.put.put.put [] [(65, .bool false)] [qw 0 rfl (Shape.len (bW (st158.get 1 rfl) rfl)), qw 7 rfl (Shape.len (bW (st158.get 8 rfl) rfl)), qc Tryz.func14 rfl (fun W s b => qS W (bW (s.get 1 rfl) rfl) (bW (s.get 8 rfl) rfl)), qk h79] aE fun f160 W161 h160_ st162 hb163 => (aB (gK (h160_.at 65) rfl (wp_skip (wp_seq (aA (sg (aC (v := I 1) rfl (aB ?_))))))))))))
       refine wp_seq (aA (sg (bH cA rfl (h160_.at 8) (st162.get 5 rfl) (Shape.len (bW (st162.get 3 rfl) rfl)) (sg (aF (v := I 1) rfl (sg (bJ Tryz.func22 rfl rfl rfl ((tZ W161 (x := (eL x0 n1)) (bW (st162.get 3 rfl) rfl) aD (by have := sQ (eL x0 n1); omega)).mono ?_)))))))); rintro _ W168 ⟨rfl, hk169⟩; refine ⟨_, rfl, ?_⟩
       have st170 := St.call st162 hk169
       refine sg (aC (v := I (1 + (eB (eL x0 n1) : Nat))) rfl (aB (wp_seq (wp_seq (aA (sg (aF (v := I (1 + (eB (eL x0 n1) : Nat))) rfl (sg (bQ rfl rfl (aB (gK rfl h131 (wp_skip (wp_seq (wp_seq ?_))))))))))))))
       refine aA (lw h160_.put.put.put.put.put.put.put [(10, I (1 + (eB (eL x0 n1) : Nat))), (11, I (1 + (eB (eL x0 n1) : Nat)))] aE fun h178_ => (rn st170 3 h178_ [] [(73, .bool false)] [qk h135] aE fun f177 h177_ => (aB (gK (h177_.at 73) rfl (wp_skip (wp_seq (aA (sg (aC (v := .bool true) rfl (aB (wr (aL Tryz.results6 rfl ?_))))))))))))
       exact ⟨rfl, st170.below⟩
    ·have h103 := decide_eq_true h103p
     omega
end Go.Proofs.YtchnllpegfbleaaGreat
namespace Go.Proofs.YtchnllpegfbleaaGreat
set_option linter.unusedSimpArgs false
set_option linter.unusedVariables false
set_option maxRecDepth 100000
set_option maxHeartbeats 2000000
open Go.ChangeShapes Go.WideShapes Go.ChangeAt Go.RowKit Go.Deep
def jS (t : TypeId) (α : Type) [Shape α] : Prop := ∀ {H : Type} (enc : TypeId × Value → H) (w : World) (fuel : Nat) (cs : List Value) (x : DataW H × List MemPlace),
 DataW.trod enc Tryz.prog w 0 (fun _ => true) true fuel t cs = some x → ∃ (a : α) (fp : List Nat), Shape.C w cs a fp

theorem fE {n : Int} (h : (Lit.int .i64 n).wf = true) : I64 n := by
 have := bounds_i64 h
 exact this

theorem iP {t e : TypeId} {α : Type} [Shape α] (ht : Tryz.prog.underlying t = some (.slice e)) (hC : Tryz.prog.cellsOf e = Shape.size α) (hp : 0 < Shape.size α) (he : jS e α) : jS t (List α) := by
 intro H enc w fuel cs x h
 rcases open_slice ht h with ⟨rfl, _⟩ | ⟨a, len, cap, m, n, D, Pl, rfl, _, hl, hm, hmm, _, hi⟩
 ·exact ⟨[], [], _, rfl, none, 0, rfl, Nat.le_refl _, by omega, .inl ⟨rfl, rfl⟩⟩
 ·simp only [if_true] at hmm
  subst hmm
  unfold maxLen at hm
  have key : ∀ k, k ≤ len → 0 < len → ∃ (xs : List α) (fp : List Nat), xs.length = k ∧ a.spot = none ∧ SlAt w a.block a.off xs fp := by
   intro k
   induction k with
   | zero =>
    intro _ hlp
    obtain ⟨cs', hc, _⟩ := hi 0 aD
    obtain ⟨_, hcl, hat⟩ := World.cells?_some hc
    rw [hC] at hcl hat
    have h0 := hat 0 hp
    have : a.spot = none := by
     have hlt : 0 < cs'.length := by omega
     rw [List.getElem?_eq_getElem hlt] at h0
     simpa [Addr.add] using World.cell?_spot h0
    exact ⟨[], [], rfl, this, rfl⟩
   | succ k ih =>
    intro hk hlp
    obtain ⟨xs, fp, hxl, hsp, hS⟩ := ih aD hlp
    obtain ⟨cs', hc, ht'⟩ := hi k aD
    obtain ⟨_, hcl, hat⟩ := World.cells?_some hc
    rw [hC] at hcl hat
    obtain ⟨x, f, hx⟩ := he enc w n cs' _ ht'
    refine ⟨xs ++ [x], fp ++ f, by simp [hxl], hsp, SlAt.snoc hS ?_ hx⟩
    intro j v hj
    have hjl : j < cs'.length := (List.getElem?_eq_some_iff.1 hj).1
    have := hat j aD
    rw [hj] at this
    rw [← this, hxl]
    obtain ⟨ab, ao, asp⟩ := a
    simp only at hsp
    subst hsp
    rw [Addr.add_mid, Addr.add_mid]
  by_cases hlp : 0 < len
  ·obtain ⟨xs, fp, hxl, hsp, hS⟩ := key len (Nat.le_refl _) hlp
   obtain ⟨ab, ao, asp⟩ := a
   simp only at hsp
   subst hsp
   subst hxl
   have hne : xs ≠ [] := by rintro rfl; simp at hlp
   refine ⟨xs, ab :: fp, _, rfl, _, m, rfl, hl, hm, .inr ⟨ab, ao, fp, hne, rfl, rfl, ?_, hS⟩⟩
   cases xs with
   | nil => exact absurd rfl hne
   | cons x xs =>
    obtain ⟨cs', f1, f2, hr, hc, _, _⟩ := hS
    have hl' := Shape.len hc
    have h0 := hr 0 _ (List.getElem?_eq_getElem aD)
    exact World.block_lt_of_cell? w _ h0
  ·obtain rfl : len = 0 := by omega
   exact ⟨[], [], _, rfl, _, m, rfl, by simp, hm, .inl ⟨rfl, rfl⟩⟩

theorem oM {H : Type} {enc : TypeId × Value → H} {W W' : World} (hl : laidOutB Tryz.prog = true) (hb : Below W.heap.size W W') : ∀ {ts : List TypeId} {vs : List Value} {ds : List (DataW H)} {p : List MemPlace},
  (∀ t ∈ ts, Tryz.prog.readableRec t = true ∧ t < Tryz.prog.types.size) → DataW.TrodAll enc Tryz.prog W 0 (fun _ => true) true ts vs ds p → (∀ x ∈ p, x.block < W.heap.size) →
  DataW.TrodAll enc Tryz.prog W' 0 (fun b => decide (b < W.heap.size)) true ts vs ds p
 | [], _, _, _, _, h, _ => by
  obtain ⟨rfl, rfl, rfl⟩ := trodAll_nil h
  exact trodAll_mk0
 | t :: ts, _, _, _, ht, h, hp => by
  obtain ⟨v1, vs1, d1, ds1, p1, q1, rfl, rfl, rfl, h1, r1⟩ := trodAll_cons h
  exact trodAll_cons_mk (Below.trod hl (ht t (by simp)).1 (ht t (by simp)).2 h1 hb (fun x hx => hp x (by simp [hx]))) (oM hl hb (fun t' h' => ht t' (by simp [h'])) r1 (fun x hx => hp x (by simp [hx])))

theorem open_param_struct {H : Type} {enc : TypeId × Value → H} {W : World} {base : Nat} {t : TypeId} {fs : Array Field} {α : Type} [Shape α] (ht : Tryz.prog.underlying t = some (.struct fs)) (ho : jS t α) {v : Value} {d : DataW H} {p : List MemPlace}
  (hv : Value.okWide Tryz.prog W .any base t v) (h : DataW.Trod enc Tryz.prog W 0 (fun _ => true) true t v d p) : ∃ (cs : List Value) (x : α) (fp : List Nat), v = .agg cs.toArray ∧ Shape.C W cs x fp := by
 obtain ⟨cs, rfl, hsz⟩ := okWide_struct ht hv
 obtain ⟨fuel, hf⟩ := h
 obtain ⟨x, fp, hc⟩ := ho enc W fuel _ _ hf
 exact ⟨cs.toList, x, fp, rfl, hc⟩
theorem open_param_int {H : Type} {enc : TypeId × Value → H} {W : World} {base : Nat} {v : Value} {d : DataW H} {p : List MemPlace}
  (hv : Value.okWide Tryz.prog W .any base 3 v) (h : DataW.Trod enc Tryz.prog W 0 (fun _ => true) true 3 v d p) : ∃ n : Int, v = .int .i64 n ∧ I64 n := by
 obtain ⟨n, rfl, _, _, wn⟩ := open_int Tryz.underlying3 hv h
 exact ⟨n, rfl, fE wn⟩
theorem ownKnobTry : ownKnob Tryz.prog.godebug = none := by kernel_rfl
theorem laidOutTry : laidOutB Tryz.prog = true := by kernel_rfl
end Go.Proofs.YtchnllpegfbleaaGreat
namespace Go.Proofs.YtchnllpegfbleaaGreat
set_option linter.unusedSimpArgs false
set_option linter.unusedVariables false
set_option maxRecDepth 100000
set_option maxHeartbeats 2000000
open Go.ChangeShapes Go.WideShapes Go.ChangeAt Go.RowKit Go.Deep
theorem opens_Edge : jS 228 Edge := by
 intro H enc w fuel cs x h
 obtain ⟨xs, n, _, hx, hl, hlen, hf⟩ := DataW.trod_struct Tryz.underlying228 h
 have hl' : cs.length = 2 := hl
 have hlen' : xs.length = 2 := hlen
 match cs, hl', xs, hlen' with
 | [c0, c1], _, [y0, y1], _ =>
  obtain ⟨n0, e0, _, w0⟩ := DataW.trod_int Tryz.underlying3 (hf 0 _ rfl)
  have e0' : [c0] = [I n0] := e0
  obtain rfl := List.singleton_inj.1 e0'
  obtain ⟨n1, e1, _, w1⟩ := DataW.trod_int Tryz.underlying3 (hf 1 _ rfl)
  have e1' : [c1] = [I n1] := e1
  obtain rfl := List.singleton_inj.1 e1'
  exact ⟨⟨n0, n1⟩, [], rfl, rfl, ⟨fE w0, fE w1⟩⟩
theorem opens_EdgeS : jS 94 (List Edge) := iP Tryz.underlying94 aE aX opens_Edge
theorem opens_Plan : jS 96 Plan := by
 intro H enc w fuel cs x h
 obtain ⟨xs, n, _, hx, hl, hlen, hf⟩ := DataW.trod_struct Tryz.underlying96 h
 have hl' : cs.length = 5 := hl
 have hlen' : xs.length = 5 := hlen
 match cs, hl', xs, hlen' with
 | [c0, c1, c2, c3, c4], _, [y0, y1, y2, y3, y4], _ =>
  obtain ⟨n0, e0, _, w0⟩ := DataW.trod_int Tryz.underlying3 (hf 0 _ rfl)
  have e0' : [c0] = [I n0] := e0
  obtain rfl := List.singleton_inj.1 e0'
  obtain ⟨n1, e1, _, w1⟩ := DataW.trod_int Tryz.underlying3 (hf 1 _ rfl)
  have e1' : [c1] = [I n1] := e1
  obtain rfl := List.singleton_inj.1 e1'
  obtain ⟨n2, e2, _, w2⟩ := DataW.trod_int Tryz.underlying3 (hf 2 _ rfl)
  have e2' : [c2] = [I n2] := e2
  obtain rfl := List.singleton_inj.1 e2'
  obtain ⟨n3, e3, _, w3⟩ := DataW.trod_int Tryz.underlying3 (hf 3 _ rfl)
  have e3' : [c3] = [I n3] := e3
  obtain rfl := List.singleton_inj.1 e3'
  obtain ⟨l4, g4, u4, e4, s4⟩ := opens_EdgeS enc w n _ _ (hf 4 _ rfl)
  have e4' : [c4] = [u4] := e4
  obtain rfl := List.singleton_inj.1 e4'
  exact ⟨⟨n0, n1, n2, n3, l4⟩, _, _, g4, rfl, ⟨fE w0, fE w1, fE w2, fE w3⟩, s4, rfl⟩
theorem opens_Entry : jS 188 Entry := by
 intro H enc w fuel cs x h
 obtain ⟨xs, n, _, hx, hl, hlen, hf⟩ := DataW.trod_struct Tryz.underlying188 h
 have hl' : cs.length = 4 := hl
 have hlen' : xs.length = 4 := hlen
 match cs, hl', xs, hlen' with
 | [c0, c1, c2, c3], _, [y0, y1, y2, y3], _ =>
  obtain ⟨n0, e0, _, w0⟩ := DataW.trod_int Tryz.underlying3 (hf 0 _ rfl)
  have e0' : [c0] = [I n0] := e0
  obtain rfl := List.singleton_inj.1 e0'
  obtain ⟨n1, e1, _, w1⟩ := DataW.trod_int Tryz.underlying3 (hf 1 _ rfl)
  have e1' : [c1] = [I n1] := e1
  obtain rfl := List.singleton_inj.1 e1'
  obtain ⟨n2, e2, _, w2⟩ := DataW.trod_int Tryz.underlying3 (hf 2 _ rfl)
  have e2' : [c2] = [I n2] := e2
  obtain rfl := List.singleton_inj.1 e2'
  obtain ⟨n3, e3, _, w3⟩ := DataW.trod_int Tryz.underlying3 (hf 3 _ rfl)
  have e3' : [c3] = [I n3] := e3
  obtain rfl := List.singleton_inj.1 e3'
  exact ⟨⟨n0, n1, n2, n3⟩, [], rfl, rfl, ⟨fE w0, fE w1, fE w2, fE w3⟩⟩
theorem opens_EntryS : jS 134 (List Entry) := iP Tryz.underlying134 aE aX opens_Entry
theorem opens_Task : jS 218 Task := by
 intro H enc w fuel cs x h
 obtain ⟨xs, n, _, hx, hl, hlen, hf⟩ := DataW.trod_struct Tryz.underlying218 h
 have hl' : cs.length = 4 := hl
 have hlen' : xs.length = 4 := hlen
 match cs, hl', xs, hlen' with
 | [c0, c1, c2, c3], _, [y0, y1, y2, y3], _ =>
  obtain ⟨n0, e0, _, w0⟩ := DataW.trod_int Tryz.underlying3 (hf 0 _ rfl)
  have e0' : [c0] = [I n0] := e0
  obtain rfl := List.singleton_inj.1 e0'
  obtain ⟨n1, e1, _, w1⟩ := DataW.trod_int Tryz.underlying3 (hf 1 _ rfl)
  have e1' : [c1] = [I n1] := e1
  obtain rfl := List.singleton_inj.1 e1'
  obtain ⟨n2, e2, _, w2⟩ := DataW.trod_int Tryz.underlying3 (hf 2 _ rfl)
  have e2' : [c2] = [I n2] := e2
  obtain rfl := List.singleton_inj.1 e2'
  obtain ⟨n3, e3, _, w3⟩ := DataW.trod_int Tryz.underlying3 (hf 3 _ rfl)
  have e3' : [c3] = [I n3] := e3
  obtain rfl := List.singleton_inj.1 e3'
  exact ⟨⟨n0, n1, n2, n3⟩, [], rfl, rfl, ⟨fE w0, fE w1, fE w2, fE w3⟩⟩
theorem opens_TaskS : jS 136 (List Task) := iP Tryz.underlying136 aE aX opens_Task
theorem opens_Run : jS 138 Run := by
 intro H enc w fuel cs x h
 obtain ⟨xs, n, _, hx, hl, hlen, hf⟩ := DataW.trod_struct Tryz.underlying138 h
 have hl' : cs.length = 8 := hl
 have hlen' : xs.length = 4 := hlen
 match cs, hl', xs, hlen' with
 | [c0, c1, c2, c3, c4, c5, c6, c7], _, [y0, y1, y2, y3], _ =>
  obtain ⟨n0, e0, _, w0⟩ := DataW.trod_int Tryz.underlying3 (hf 0 _ rfl)
  have e0' : [c0] = [I n0] := e0
  obtain rfl := List.singleton_inj.1 e0'
  obtain ⟨z1, gz1, u1_0, g1_0, e1, ok1, s1_0, _⟩ := opens_Plan enc w n _ _ (hf 1 _ rfl)
  have e1' : [c1, c2, c3, c4, c5] = [I z1.prio, I z1.most, I z1.wait, I z1.tasks, u1_0] := e1
  simp only [List.cons.injEq, and_true] at e1'
  obtain ⟨rfl, rfl, rfl, rfl, rfl⟩ := e1'
  obtain ⟨n2, e2, _, w2⟩ := DataW.trod_int Tryz.underlying3 (hf 2 _ rfl)
  have e2' : [c6] = [I n2] := e2
  obtain rfl := List.singleton_inj.1 e2'
  obtain ⟨l3, g3, u3, e3, s3⟩ := opens_TaskS enc w n _ _ (hf 3 _ rfl)
  have e3' : [c7] = [u3] := e3
  obtain rfl := List.singleton_inj.1 e3'
  exact ⟨⟨n0, z1, n2, l3⟩, _, _, _, g1_0, g3, rfl, ⟨fE w0, ok1, fE w2⟩, s1_0, s3, rfl⟩
theorem opens_RunS : jS 23 (List Run) := iP Tryz.underlying23 aE aX opens_Run
theorem opens_EntrySS : jS 22 (List (List Entry)) := iP Tryz.underlying22 aE aX opens_EntryS
theorem opens_Yard : jS 25 Yard := by
 intro H enc w fuel cs x h
 obtain ⟨xs, n, _, hx, hl, hlen, hf⟩ := DataW.trod_struct Tryz.underlying25 h
 have hl' : cs.length = 4 := hl
 have hlen' : xs.length = 4 := hlen
 match cs, hl', xs, hlen' with
 | [c0, c1, c2, c3], _, [y0, y1, y2, y3], _ =>
  obtain ⟨n0, e0, _, w0⟩ := DataW.trod_int Tryz.underlying3 (hf 0 _ rfl)
  have e0' : [c0] = [I n0] := e0
  obtain rfl := List.singleton_inj.1 e0'
  obtain ⟨n1, e1, _, w1⟩ := DataW.trod_int Tryz.underlying3 (hf 1 _ rfl)
  have e1' : [c1] = [I n1] := e1
  obtain rfl := List.singleton_inj.1 e1'
  obtain ⟨l2, g2, u2, e2, s2⟩ := opens_EntrySS enc w n _ _ (hf 2 _ rfl)
  have e2' : [c2] = [u2] := e2
  obtain rfl := List.singleton_inj.1 e2'
  obtain ⟨l3, g3, u3, e3, s3⟩ := opens_RunS enc w n _ _ (hf 3 _ rfl)
  have e3' : [c3] = [u3] := e3
  obtain rfl := List.singleton_inj.1 e3'
  exact ⟨⟨n0, n1, l2, l3⟩, _, _, _, g2, g3, rfl, ⟨fE w0, fE w1⟩, s2, s3, rfl⟩
theorem opens_Reply : jS 99 Reply := by
 intro H enc w fuel cs x h
 obtain ⟨xs, n, _, hx, hl, hlen, hf⟩ := DataW.trod_struct Tryz.underlying99 h
 have hl' : cs.length = 4 := hl
 have hlen' : xs.length = 4 := hlen
 match cs, hl', xs, hlen' with
 | [c0, c1, c2, c3], _, [y0, y1, y2, y3], _ =>
  obtain ⟨n0, e0, _, w0⟩ := DataW.trod_int Tryz.underlying3 (hf 0 _ rfl)
  have e0' : [c0] = [I n0] := e0
  obtain rfl := List.singleton_inj.1 e0'
  obtain ⟨n1, e1, _, w1⟩ := DataW.trod_int Tryz.underlying3 (hf 1 _ rfl)
  have e1' : [c1] = [I n1] := e1
  obtain rfl := List.singleton_inj.1 e1'
  obtain ⟨n2, e2, _, w2⟩ := DataW.trod_int Tryz.underlying3 (hf 2 _ rfl)
  have e2' : [c2] = [I n2] := e2
  obtain rfl := List.singleton_inj.1 e2'
  obtain ⟨n3, e3, _, w3⟩ := DataW.trod_int Tryz.underlying3 (hf 3 _ rfl)
  have e3' : [c3] = [I n3] := e3
  obtain rfl := List.singleton_inj.1 e3'
  exact ⟨⟨n0, n1, n2, n3⟩, [], rfl, rfl, ⟨fE w0, fE w1, fE w2, fE w3⟩⟩
theorem opens_ReplyS : jS 26 (List Reply) := iP Tryz.underlying26 aE aX opens_Reply
theorem opens_Crew : jS 28 Crew := by
 intro H enc w fuel cs x h
 obtain ⟨xs, n, _, hx, hl, hlen, hf⟩ := DataW.trod_struct Tryz.underlying28 h
 have hl' : cs.length = 7 := hl
 have hlen' : xs.length = 4 := hlen
 match cs, hl', xs, hlen' with
 | [c0, c1, c2, c3, c4, c5, c6], _, [y0, y1, y2, y3], _ =>
  obtain ⟨z0, gz0, u0_0, u0_1, g0_0, g0_1, e0, ok0, s0_0, s0_1, _⟩ := opens_Yard enc w n _ _ (hf 0 _ rfl)
  have e0' : [c0, c1, c2, c3] = [I z0.now, I z0.seq, u0_0, u0_1] := e0
  simp only [List.cons.injEq, and_true] at e0'
  obtain ⟨rfl, rfl, rfl, rfl⟩ := e0'
  obtain ⟨l1, g1, u1, e1, s1⟩ := opens_ReplyS enc w n _ _ (hf 1 _ rfl)
  have e1' : [c4] = [u1] := e1
  obtain rfl := List.singleton_inj.1 e1'
  obtain ⟨n2, e2, _, w2⟩ := DataW.trod_int Tryz.underlying3 (hf 2 _ rfl)
  have e2' : [c5] = [I n2] := e2
  obtain rfl := List.singleton_inj.1 e2'
  obtain ⟨n3, e3, _, w3⟩ := DataW.trod_int Tryz.underlying3 (hf 3 _ rfl)
  have e3' : [c6] = [I n3] := e3
  obtain rfl := List.singleton_inj.1 e3'
  exact ⟨⟨z0, l1, n2, n3⟩, _, _, _, _, g0_0, g0_1, g1, rfl, ⟨ok0, fE w2, fE w3⟩, s0_0, s0_1, s1, rfl⟩
end Go.Proofs.YtchnllpegfbleaaGreat
