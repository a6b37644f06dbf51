/-
  When a run is right: of the program and of the reference.
  A region that draws its order, some operations of which, one behind the other, make memory or write to what is the call's own; the others only look.
  Appending an element with memory of its own, all of which the call owns.
  Pointers that are not nil; functions without results.
  The laws' marks: what is written.
  Runs that are changed in place, of the program.
  A task that fails: what becomes of a right run. Theory alone.
-/
import Derived.Test.YtchnllpegfbleaaGreatQ01
import Derived.Test.YtchnllpegfbleaaGreatQ02
import Derived.Test.YtchnllpegfbleaaGreatQ03
namespace Go.Proofs.YtchnllpegfbleaaGreat
set_option linter.unusedSimpArgs false
set_option linter.unusedVariables false
set_option maxRecDepth 100000
open Go.RowKit


theorem vG {p : Prop} (h : pB p = false) : ¬ p := fun hp => by rw [gU hp] at h; cases h
theorem nH (ts : List Task) : (dA ts 4 = ts.length → fL ts = 2) ∧ (¬ dA ts 4 = ts.length → (dA ts 5 = 1 ∧ dA ts 1 + dA ts 2 + dA ts 3 = 0) → fL ts = 3) ∧
    (¬ dA ts 4 = ts.length → ¬ (dA ts 5 = 1 ∧ dA ts 1 + dA ts 2 + dA ts 3 = 0) → (dA ts 5 = 0 ∧ 0 < dA ts 6 ∧ dA ts 1 + dA ts 2 + dA ts 3 = 0) → fL ts = 4) ∧
    (¬ dA ts 4 = ts.length → ¬ (dA ts 5 = 1 ∧ dA ts 1 + dA ts 2 + dA ts 3 = 0) → ¬ (dA ts 5 = 0 ∧ 0 < dA ts 6 ∧ dA ts 1 + dA ts 2 + dA ts 3 = 0) → (dA ts 5 = 0 ∧ dA ts 6 = 0) → fL ts = 1) ∧
    (¬ dA ts 4 = ts.length → ¬ (dA ts 5 = 1 ∧ dA ts 1 + dA ts 2 + dA ts 3 = 0) → ¬ (dA ts 5 = 0 ∧ 0 < dA ts 6 ∧ dA ts 1 + dA ts 2 + dA ts 3 = 0) → ¬ (dA ts 5 = 0 ∧ dA ts 6 = 0) → fL ts = 0) := by
  unfold fL
  refine ⟨fun h => by rw [if_pos h], fun h h2 => by rw [if_neg h, if_pos h2], fun h h2 h3 => by rw [if_neg h, if_neg h2, if_pos h3], fun h h2 h3 h4 => by rw [if_neg h, if_neg h2, if_neg h3, if_pos h4], fun h h2 h3 h4 => by rw [if_neg h, if_neg h2, if_neg h3, if_neg h4]⟩
theorem states_of {r : Run} (h : ∀ j, j < r.tasks.length → kA r j) : ∀ t ∈ r.tasks, 1 ≤ t.state ∧ t.state ≤ 6 := by
  intro t ht
  obtain ⟨k, hk, rfl⟩ := List.getElem_of_mem ht
  exact (h k hk hk).1
theorem pU (ts : List Task) (i : Nat) (h : i < (cR ts).length) : (cR ts)[i] = dA ts (i : Int) := by
  rw [oV] at h
  rcases i with _ | _ | _ | _ | _ | _ | _ | i
  · rfl
  · rfl
  · rfl
  · rfl
  · rfl
  · rfl
  · rfl
  · omega

set_option maxHeartbeats 2000000 in
theorem wD (w : World) {r : Run} {cs : List Value} {fp : List Nat} (hc : Shape.C w cs r fp) (task : Int) (hlen : (r.tasks.length : Int) = r.plan.tasks) :
    Calls Tryz.prog 217 #[.agg cs.toArray, I task] w fun e w' => e = .returned (I (jJ r task)) ∧ St w w' [] := by
  refine cF Tryz.func217 rfl Tryz.ntmps217 (by decide) (wp_seq (aA (sg (aQ (cs := cs) rfl (St.start w) ?_)))); intro b1 W2 hb3 st4
  refine sg (aD (v := I 0) rfl (aE (wp_seq (aA (sg (aD (v := I 0) rfl (aE (wp_seq (wp_seq (aA (sg (aC cQ rfl ?_))))))))))))
  have hk6 := hc
  obtain ⟨v6_0, v6_1, g6_0, g6_1, rfl, hok6, h6_0, h6_1, rfl⟩ := hk6
  refine sg (aU (cs := [I r.plan.prio, I r.plan.most, I r.plan.wait, I r.plan.tasks, v6_0]) fY rfl rfl (st4.get 0 rfl) rfl rfl (sg (aB (v := I task) rfl (sg (aZ Tryz.func231 rfl rfl rfl ((BeforeOfI W2 (show Shape.C _ [I r.plan.prio, I r.plan.most, I r.plan.wait, I r.plan.tasks, v6_0] r.plan _ from ⟨_, _, rfl, (by first | exact True.intro | (simp only [Edge.ok, Plan.ok, Entry.ok, Task.ok, Run.ok, Yard.ok, Reply.ok, Deed.ok, Note.ok, Wait.ok, File.ok, Disk.ok, Engine.ok, WorldD.ok, ActD.ok, Hand.ok, Span.ok, Crew.ok, View.ok, I64] at *; omega)), (h6_0.below st4.below), rfl⟩) task).mono ?_)))))); rintro _ W9 ⟨v7, fp7, rfl, hk10⟩; refine ⟨_, rfl, ?_⟩
  have st11 := St.call st4 hk10
  refine sg (aV dF rfl (bC (st11.get 0 rfl)) ?_)
  have hbl := lP r.plan task
  refine sg (aB (v := I 0) rfl (aE (wp_block (bH (fun (m : Nat) (f : Nat → Value) (W : World) => ∃ (k : Nat), k ≤ (cT r.plan task).length ∧ m = (cT r.plan task).length - k ∧ f 2 = .pointer (some ⟨b1, 0, none⟩) ∧ f 5 = I (cP r ((cT r.plan task).take k)) ∧ f 11 = v7 ∧ f 12 = I ((cT r.plan task).length : Int) ∧ f 13 = I (k : Int) ∧ St w W ([Res.own (α := List Int) v7 (cT r.plan task) fp7, Res.bx b1 [I r.id, I r.plan.prio, I r.plan.most, I r.plan.wait, I r.plan.tasks, v6_0, I r.state, v6_1] 123])) ((cT r.plan task).length - 0) ?_ ?_))))
  · exact ⟨0, (by omega), rfl, rfl, rfl, rfl, rfl, rfl, st11⟩
  intro m13 f14 W15 hJ16
  obtain ⟨k, hk, rfl, hs18_2, hs18_5, hs18_11, hs18_12, hs18_13, st17⟩ := hJ16
  have hnr := rB r ((cT r.plan task).take k)
  have htl := List.length_take_le k (cT r.plan task)
  refine wp_seq (aA (sg (aY hs18_13 hs18_12 (aE (wp_seq (aR rfl (fun h19 => ?_) (fun h19 => ?_)))))))
  · have h19p := of_decide_eq_true h19
    refine wp_skip (wp_seq (wp_block (wp_seq (aA ?_))))
    have hi15359 : k < (cT r.plan task).length := (by omega)
    have hq_ := idx (bC (st17.get 0 rfl)) (i := k) hi15359
    obtain ⟨b20, o20, cs20, f20, hp20, hr20, hc20, hm20⟩ := hq_
    have hk20 := hc20
    obtain ⟨rfl, rfl, hok20⟩ := hk20
    refine sg (aG dF hs18_11 hp20 hs18_13 rfl (sg (aK aJ rfl rfl hr20 (Below.refl _ _) (i := 0) rfl rfl (sg (aD (v := I ((cT r.plan task)[k]'hi15359)) rfl (aE (wp_seq (aA (sg (aC bJ hs18_2 (sg (aF bM rfl rfl (st17.get 1 rfl) (i := 7) rfl rfl (sg (aB (v := I ((cT r.plan task)[k]'hi15359)) rfl ?_))))))))))))))
    have hbr := rV r.plan task _ (List.getElem_mem (l := (cT r.plan task)) (n := k) (by omega))
    have hi20db9 : (((cT r.plan task)[k]'hi15359)).toNat < r.tasks.length := (by omega)
    have hq_ := idx h6_1 (i := (((cT r.plan task)[k]'hi15359)).toNat) hi20db9
    obtain ⟨b21, o21, cs21, f21, hp21, hr21, hc21, hm21⟩ := hq_
    refine sg (aG bD rfl hp21 rfl (by omega) (sg (aC bP rfl ?_)))
    have hk22 := hc21
    obtain ⟨he22, rfl, hok22⟩ := hk22
    have he22 : _ = [I (r.tasks[(((cT r.plan task)[k]'hi15359)).toNat]'hi20db9).state, I (r.tasks[(((cT r.plan task)[k]'hi15359)).toNat]'hi20db9).need, I (r.tasks[(((cT r.plan task)[k]'hi15359)).toNat]'hi20db9).try_, I (r.tasks[(((cT r.plan task)[k]'hi15359)).toNat]'hi20db9).until_] := he22
    subst he22
    refine sg (aK aJ rfl rfl hr21 st17.below (i := 0) rfl rfl (sg (bL rfl rfl (aE (aR rfl (fun h23 => ?_) (fun h23 => ?_))))))
    · have h23p := of_decide_eq_false (aS h23)
      refine aA (sg (aB (v := I (cP r ((cT r.plan task).take k))) hs18_5 (sg (aP rfl rfl (by (simp only [I64] at *; omega)) (sg (aD (v := I ((cP r ((cT r.plan task).take k)) + 1)) rfl (aE (aA (sg (aP hs18_13 rfl (by (simp only [I64] at *; omega)) ?_))))))))))
      have hbl := lP r.plan task
      refine sg (aB (v := I ((k : Int) + 1)) rfl (aE ?_))
      exact ⟨_, (cT r.plan task).length - (k + 1), (by omega), rfl, k + 1, (by omega), rfl, hs18_2, (Eq.trans (show _ = I ((cP r ((cT r.plan task).take k)) + 1) from rfl) (congrArg I (by rw [kC (by omega), nB (by omega)]; simp only [h23p, decide_true, decide_false, Bool.false_eq_true, if_true, if_false]; try omega))), hs18_11, hs18_12, rfl, st17⟩
    · have h23p := of_decide_eq_true (aX h23)
      refine wp_skip (aA (sg (aP hs18_13 rfl (by (simp only [I64] at *; omega)) ?_)))
      have hbl := lP r.plan task
      refine sg (aB (v := I ((k : Int) + 1)) rfl (aE ?_))
      exact ⟨_, (cT r.plan task).length - (k + 1), (by omega), rfl, k + 1, (by omega), rfl, hs18_2, (Eq.trans (show _ = I (cP r ((cT r.plan task).take k)) from hs18_5) (congrArg I (by rw [kC (by omega), nB (by omega)]; simp only [h23p, decide_true, decide_false, Bool.false_eq_true, if_true, if_false]; try omega))), hs18_11, hs18_12, rfl, st17⟩
  · have h19p := of_decide_eq_false h19
    refine wp_exit (wp_seq (aA (sg (aB (v := I (cP r ((cT r.plan task).take k))) hs18_5 (sg (aD (v := I (cP r ((cT r.plan task).take k))) rfl (aE (wp_ret ?_)))))))); repeat first|refine aH ?_|refine aI ?_
    refine aW Tryz.results217 rfl ?_
    obtain rfl : k = (cT r.plan task).length := by omega
    exact ⟨(congrArg (fun z => Ending.returned (I z)) (by rw [List.take_length]; rfl)), st17.bare⟩
set_option maxHeartbeats 2000000 in
theorem TaskOkI (w : World) {r : Run} {cs : List Value} {fp : List Nat} (hc : Shape.C w cs r fp) {k : Nat} (hk : k < r.tasks.length) (hlen : (r.tasks.length : Int) = r.plan.tasks) :
    Calls Tryz.prog 161 #[.agg cs.toArray, I (k : Int)] w fun e w' => e = .returned (.bool (pB (cB r (jJ r (k : Int)) (r.tasks[k]'hk)))) ∧ St w w' [] := by
  have hcap : r.tasks.length ≤ 9223372036854775807 := by have h0 := hc; obtain ⟨v1, v2, f1, f2, h0, hok, h1, h2, hfp⟩ := h0; exact h2.len_le
  refine cF Tryz.func161 rfl Tryz.ntmps161 (by decide) (wp_seq (aA (sg (aQ (cs := cs) rfl (St.start w) ?_)))); intro b1 W2 hb3 st4
  refine sg (aD (v := .bool false) rfl (aE (wp_seq (aA (sg (aC bJ rfl ?_))))))
  have hk6 := hc
  obtain ⟨v6_0, v6_1, g6_0, g6_1, rfl, hok6, h6_0, h6_1, rfl⟩ := hk6
  refine sg (aF bM rfl rfl (st4.get 0 rfl) (i := 7) rfl rfl (sg (aB (v := I (k : Int)) rfl ?_)))
  have hif4d94 : k < r.tasks.length := (by omega)
  have hq_ := idx h6_1 (i := k) hif4d94
  obtain ⟨b7, o7, cs7, f7, hp7, hr7, hc7, hm7⟩ := hq_
  refine sg (aG bD rfl hp7 rfl rfl (sg (bY fJ rfl rfl hr7 st4.below (Shape.len hc7) (sg (bN jO st4 ?_))))); intro b8 W9 hb10 st11
  refine sg (bU (cs := cs7) fJ hc7 rfl rfl st11 rfl ?_); intro W13 st14
  refine aE (wp_seq (wp_seq ?_))
  have hk15 := hc7
  obtain ⟨he15, rfl, hok15⟩ := hk15
  have he15 : _ = [I (r.tasks[k]'hif4d94).state, I (r.tasks[k]'hif4d94).need, I (r.tasks[k]'hif4d94).try_, I (r.tasks[k]'hif4d94).until_] := he15
  subst he15
  rcases bd (!(inB (r.tasks[k]'hif4d94).state 1 6)) with h16 | h16
  · have h16p := inB_iff'.1 (aX h16)
    rcases bd (!decide ((r.tasks[k]'hif4d94).need = (jJ r (k : Int)))) with h17 | h17
    · have h17p := of_decide_eq_true (aX h17)
      refine dI [Pl.is (.pointer (some ⟨b8, 0 + 0, none⟩)), Pl.is (I (r.tasks[k]'hif4d94).state), Pl.bool (inB (r.tasks[k]'hif4d94).state 1 6), Pl.bool false, Pl.bool false, Pl.is (.pointer (some ⟨b8, 0 + 1, none⟩)), Pl.is (I (r.tasks[k]'hif4d94).need), Pl.is (.agg #[I r.id, I r.plan.prio, I r.plan.most, I r.plan.wait, I r.plan.tasks, v6_0, I r.state, v6_1]), Pl.is (I (k : Int)), Pl.is (I (jJ r (k : Int))), Pl.bool false, Pl.bool false, Pl.bool false, Pl.is (.pointer (some ⟨b8, 0 + 2, none⟩)), Pl.is (I (r.tasks[k]'hif4d94).try_), Pl.is (.pointer (some ⟨b1, 0 + 1, none⟩)), Pl.is (.pointer (some ⟨b1, 0 + 1 + 1, none⟩)), Pl.is (I r.plan.most), Pl.bool (inB (r.tasks[k]'hif4d94).try_ 0 r.plan.most), Pl.bool (!(inB (r.tasks[k]'hif4d94).try_ 0 r.plan.most)), Pl.bool (!(inB (r.tasks[k]'hif4d94).try_ 0 r.plan.most))] mix (by rfl) st14 ⟨(fun f W hst hbl hd hf => aC bP ((hf 5 rfl).trans (show _ = (.pointer (some ⟨b8, 0, none⟩) : Value) from rfl)) brq), (fun f W hst hbl hd hf => aF aJ rfl (hd 0 11 rfl rfl) (hst.get 0 rfl) (i := 0) rfl rfl brq), (fun f W hst hbl hd hf => bS Tryz.func47 rfl (hd 1 12 rfl rfl) rfl rfl ((eL W (r.tasks[k]'hif4d94).state 1 6).mono (by rintro e W2 ⟨rfl, hk⟩; exact ⟨_, rfl, hk.below, rfl⟩))), (fun f W hst hbl hd hf => bO (hd 2 13 rfl rfl) ⟨Below.refl _ _, congrArg Value.bool h16⟩), (fun f W hst hbl hd hf => aB (v := .bool false) (hd 3 14 rfl rfl) brq), (fun f W hst hbl hd hf => aC fF ((hf 5 rfl).trans (show _ = (.pointer (some ⟨b8, 0, none⟩) : Value) from rfl)) brq), (fun f W hst hbl hd hf => aF aJ rfl (hd 5 16 rfl rfl) (hst.get 0 rfl) (i := 1) rfl rfl brq), (fun f W hst hbl hd hf => aU (cs := [I r.id, I r.plan.prio, I r.plan.most, I r.plan.wait, I r.plan.tasks, v6_0, I r.state, v6_1]) cY rfl ((hf 2 rfl).trans (show _ = (.pointer (some ⟨b1, 0, none⟩) : Value) from rfl)) (hst.get 1 rfl) rfl rfl brq), (fun f W hst hbl hd hf => aB (v := I (k : Int)) ((hf 1 rfl).trans (show _ = I (k : Int) from rfl)) brq), (fun f W hst hbl hd hf => aZ Tryz.func217 rfl (hd 7 18 rfl rfl) (hd 8 19 rfl rfl) ((wD W (cA hc hst.below) (k : Int) (by omega)).mono (by rintro e W2 ⟨rfl, hk⟩; exact ⟨_, rfl, hk.below, rfl⟩))), (fun f W hst hbl hd hf => bL (hd 6 17 rfl rfl) (hd 9 20 rfl rfl) ⟨Below.refl _ _, congrArg Value.bool h17⟩), (fun f W hst hbl hd hf => aO (v := .bool false) (hd 4 15 rfl rfl) (hd 10 21 rfl rfl) brq), (fun f W hst hbl hd hf => aB (v := .bool false) (hd 11 22 rfl rfl) brq), (fun f W hst hbl hd hf => aC eD ((hf 5 rfl).trans (show _ = (.pointer (some ⟨b8, 0, none⟩) : Value) from rfl)) brq), (fun f W hst hbl hd hf => aF aJ rfl (hd 13 24 rfl rfl) (hst.get 0 rfl) (i := 2) rfl rfl brq), (fun f W hst hbl hd hf => aC cQ ((hf 2 rfl).trans (show _ = (.pointer (some ⟨b1, 0, none⟩) : Value) from rfl)) brq), (fun f W hst hbl hd hf => aC fG (hd 15 26 rfl rfl) brq), (fun f W hst hbl hd hf => aF aJ rfl (hd 16 27 rfl rfl) (hst.get 1 rfl) (i := 2) rfl rfl brq), (fun f W hst hbl hd hf => bS Tryz.func47 rfl (hd 14 25 rfl rfl) rfl (hd 17 28 rfl rfl) ((eL W (r.tasks[k]'hif4d94).try_ 0 r.plan.most).mono (by rintro e W2 ⟨rfl, hk⟩; exact ⟨_, rfl, hk.below, rfl⟩))), (fun f W hst hbl hd hf => bO (hd 18 29 rfl rfl) brq), (fun f W hst hbl hd hf => aO (v := .bool (!(inB (r.tasks[k]'hif4d94).try_ 0 r.plan.most))) (hd 12 23 rfl rfl) (hd 19 30 rfl rfl) brq), trivial⟩ ?_
      intro f18 W19 st20 hb21 hv22 hf23
      refine aR (hv22 20 31 (by decide) rfl) (fun h24 => ?_) (fun h24 => ?_)
      · have h24p := dN (aS h24)
        refine wp_seq (aA (sg (aD (v := .bool false) rfl (aE (wp_ret ?_))))); repeat first|refine aH ?_|refine aI ?_
        refine aW Tryz.results161 rfl ?_
        exact ⟨(congrArg (fun z => Ending.returned (.bool z)) (by rw [dO (by unfold cB; omega)])), st20.bare⟩
      · have h24p := inB_iff'.1 (aX h24)
        refine wp_skip (wp_seq (wp_seq (aA (sg (aC bP ((hf23 5 rfl).trans (show _ = (.pointer (some ⟨b8, 0, none⟩) : Value) from rfl)) (sg (aF aJ rfl rfl (st20.get 0 rfl) (i := 0) rfl rfl (sg (bA rfl rfl (sg (aB (v := .bool (decide ((r.tasks[k]'hif4d94).state = 3))) rfl ?_)))))))))))
        rcases bd (decide ((r.tasks[k]'hif4d94).state = 3)) with h25 | h25
        · have h25p := of_decide_eq_false h25
          iterate 4 refine sgf 35 rfl (by decide) (bF rfl h25) ?_
          refine sg (aO (v := .bool false) ((rfl : _ = (.bool (decide ((r.tasks[k]'hif4d94).state = 3)) : Value)).trans (congrArg Value.bool h25)) rfl (sg (aB (v := .bool false) rfl (sgo 41 rfl (by decide) (aL rfl rfl) (aC bP ((hf23 5 rfl).trans (show _ = (.pointer (some ⟨b8, 0, none⟩) : Value) from rfl)) (sgo 41 rfl (by decide) (aL rfl rfl) (aF aJ rfl rfl (st20.get 0 rfl) (i := 0) rfl rfl (sgo 41 rfl (by decide) (aL rfl rfl) (bL rfl rfl (sgo 41 rfl (by decide) (aL rfl rfl) (aB (v := .bool (!decide ((r.tasks[k]'hif4d94).state = 3))) rfl (sgo 45 rfl (by decide) (aL rfl (congrArg not h25)) (aC eT ((hf23 5 rfl).trans (show _ = (.pointer (some ⟨b8, 0, none⟩) : Value) from rfl)) (sgo 45 rfl (by decide) (aL rfl (congrArg not h25)) (aF aJ rfl rfl (st20.get 0 rfl) (i := 3) rfl rfl (sgo 45 rfl (by decide) (aL rfl (congrArg not h25)) (bL rfl rfl (sgo 41 rfl (by decide) (aL rfl rfl) (aN (v := .bool (!decide ((r.tasks[k]'hif4d94).until_ = 0))) ((rfl : _ = (.bool (!decide ((r.tasks[k]'hif4d94).state = 3)) : Value)).trans (congrArg Value.bool (congrArg not h25))) rfl (sg (aO (v := .bool (!decide ((r.tasks[k]'hif4d94).until_ = 0))) rfl rfl (aE ?_))))))))))))))))))))))
          refine aR rfl (fun h26 => ?_) (fun h26 => ?_)
          · have h26p := of_decide_eq_false (aS h26)
            refine wp_seq (aA (sg (aD (v := .bool false) rfl (aE (wp_ret ?_))))); repeat first|refine aH ?_|refine aI ?_
            refine aW Tryz.results161 rfl ?_
            exact ⟨(congrArg (fun z => Ending.returned (.bool z)) (by rw [dO (by unfold cB; omega)])), st20.bare⟩
          · have h26p := of_decide_eq_true (aX h26)
            refine wp_skip (wp_seq (wp_seq (aA (sg (aC bP ((hf23 5 rfl).trans (show _ = (.pointer (some ⟨b8, 0, none⟩) : Value) from rfl)) (sg (aF aJ rfl rfl (st20.get 0 rfl) (i := 0) rfl rfl (aE (wp_block (wp_seq (aA (sg (bA rfl rfl (sg (aD (v := .bool (decide ((r.tasks[k]'hif4d94).state = 1))) rfl ?_)))))))))))))))
            refine aE (aR rfl (fun h27 => ?_) (fun h27 => ?_))
            · have h27p := of_decide_eq_true h27
              refine wp_seq (aA (sg (aC fF ((hf23 5 rfl).trans (show _ = (.pointer (some ⟨b8, 0, none⟩) : Value) from rfl)) (sg (aF aJ rfl rfl (st20.get 0 rfl) (i := 1) rfl rfl (sg (fV rfl rfl (sg (aD (v := .bool (decide (0 < (r.tasks[k]'hif4d94).need))) rfl (aE ?_))))))))))
              rcases bd (decide (0 < (r.tasks[k]'hif4d94).need)) with h28 | h28
              · have h28p := of_decide_eq_false h28
                refine wp_ret ?_; repeat first|refine aH ?_|refine aI ?_
                refine aW Tryz.results161 ((rfl : _ = (.bool (decide (0 < (r.tasks[k]'hif4d94).need)) : Value)).trans (congrArg Value.bool h28)) ?_
                exact ⟨(congrArg (fun z => Ending.returned (.bool z)) (by rw [dO (by unfold cB; omega)])), st20.bare⟩
              · have h28p := of_decide_eq_true h28
                refine wp_ret ?_; repeat first|refine aH ?_|refine aI ?_
                refine aW Tryz.results161 ((rfl : _ = (.bool (decide (0 < (r.tasks[k]'hif4d94).need)) : Value)).trans (congrArg Value.bool h28)) ?_
                exact ⟨(congrArg (fun z => Ending.returned (.bool z)) (by rw [gU (by unfold cB; omega)])), st20.bare⟩
            · have h27p := of_decide_eq_false h27
              refine wp_seq (aA (sg (bA rfl rfl (sg (aD (v := .bool (decide ((r.tasks[k]'hif4d94).state = 2))) rfl (aE (aR rfl (fun h29 => ?_) (fun h29 => ?_))))))))
              · have h29p := of_decide_eq_true h29
                refine wp_seq (aA (sg (aC fF ((hf23 5 rfl).trans (show _ = (.pointer (some ⟨b8, 0, none⟩) : Value) from rfl)) (sg (aF aJ rfl rfl (st20.get 0 rfl) (i := 1) rfl rfl (sg (bA rfl rfl (sg (aB (v := .bool (decide ((r.tasks[k]'hif4d94).need = 0))) rfl ?_)))))))))
                rcases bd (decide ((r.tasks[k]'hif4d94).need = 0)) with h30 | h30
                · have h30p := of_decide_eq_false h30
                  iterate 6 refine sgf 63 rfl (by decide) (bF rfl h30) ?_
                  refine sg (aO (v := .bool false) ((rfl : _ = (.bool (decide ((r.tasks[k]'hif4d94).need = 0)) : Value)).trans (congrArg Value.bool h30)) rfl (sg (aD (v := .bool false) rfl (aE (wp_ret ?_))))); repeat first|refine aH ?_|refine aI ?_
                  refine aW Tryz.results161 rfl ?_
                  exact ⟨(congrArg (fun z => Ending.returned (.bool z)) (by rw [dO (by unfold cB; omega)])), st20.bare⟩
                · have h30p := of_decide_eq_true h30
                  refine sgo 63 rfl (by decide) (aL rfl h30) (aC eD ((hf23 5 rfl).trans (show _ = (.pointer (some ⟨b8, 0, none⟩) : Value) from rfl)) (sgo 63 rfl (by decide) (aL rfl h30) (aF aJ rfl rfl (st20.get 0 rfl) (i := 2) rfl rfl (sgo 63 rfl (by decide) (aL rfl h30) (aC cQ ((hf23 2 rfl).trans (show _ = (.pointer (some ⟨b1, 0, none⟩) : Value) from rfl)) (sgo 63 rfl (by decide) (aL rfl h30) (aC fG rfl (sgo 63 rfl (by decide) (aL rfl h30) (aF aJ rfl rfl (st20.get 1 rfl) (i := 2) rfl rfl (sgo 63 rfl (by decide) (aL rfl h30) (aY rfl rfl (sg (aN (v := .bool (decide ((r.tasks[k]'hif4d94).try_ < r.plan.most))) ((rfl : _ = (.bool (decide ((r.tasks[k]'hif4d94).need = 0)) : Value)).trans (congrArg Value.bool h30)) rfl (sg (aD (v := .bool (decide ((r.tasks[k]'hif4d94).try_ < r.plan.most))) rfl (aE ?_))))))))))))))))
                  rcases bd (decide ((r.tasks[k]'hif4d94).try_ < r.plan.most)) with h31 | h31
                  · have h31p := of_decide_eq_false h31
                    refine wp_ret ?_; repeat first|refine aH ?_|refine aI ?_
                    refine aW Tryz.results161 ((rfl : _ = (.bool (decide ((r.tasks[k]'hif4d94).try_ < r.plan.most)) : Value)).trans (congrArg Value.bool h31)) ?_
                    exact ⟨(congrArg (fun z => Ending.returned (.bool z)) (by rw [dO (by unfold cB; omega)])), st20.bare⟩
                  · have h31p := of_decide_eq_true h31
                    refine wp_ret ?_; repeat first|refine aH ?_|refine aI ?_
                    refine aW Tryz.results161 ((rfl : _ = (.bool (decide ((r.tasks[k]'hif4d94).try_ < r.plan.most)) : Value)).trans (congrArg Value.bool h31)) ?_
                    exact ⟨(congrArg (fun z => Ending.returned (.bool z)) (by rw [gU (by unfold cB; omega)])), st20.bare⟩
              · have h29p := of_decide_eq_false h29
                refine wp_seq (wp_seq (aA (sg (bA rfl rfl (sg (aD (v := .bool (decide ((r.tasks[k]'hif4d94).state = 3))) rfl (aE (gX rfl h25 (wp_seq (aA (sg (bA rfl rfl (sg (aD (v := .bool (decide ((r.tasks[k]'hif4d94).state = 4))) rfl (aE ?_)))))))))))))))
                refine aR rfl (fun h32 => ?_) (fun h32 => ?_)
                · have h32p := of_decide_eq_true h32
                  refine wp_skip (gV rfl h32 (wp_seq (aA (sg (aC fF ((hf23 5 rfl).trans (show _ = (.pointer (some ⟨b8, 0, none⟩) : Value) from rfl)) (sg (aF aJ rfl rfl (st20.get 0 rfl) (i := 1) rfl rfl (sg (bA rfl rfl (sg (aB (v := .bool (decide ((r.tasks[k]'hif4d94).need = 0))) rfl ?_)))))))))))
                  rcases bd (decide ((r.tasks[k]'hif4d94).need = 0)) with h33 | h33
                  · have h33p := of_decide_eq_false h33
                    iterate 3 refine sgf 78 rfl (by decide) (bF rfl h33) ?_
                    refine sg (aO (v := .bool false) ((rfl : _ = (.bool (decide ((r.tasks[k]'hif4d94).need = 0)) : Value)).trans (congrArg Value.bool h33)) rfl (sg (aD (v := .bool false) rfl (aE (wp_ret ?_))))); repeat first|refine aH ?_|refine aI ?_
                    refine aW Tryz.results161 rfl ?_
                    exact ⟨(congrArg (fun z => Ending.returned (.bool z)) (by rw [dO (by unfold cB; omega)])), st20.bare⟩
                  · have h33p := of_decide_eq_true h33
                    refine sgo 78 rfl (by decide) (aL rfl h33) (aC eD ((hf23 5 rfl).trans (show _ = (.pointer (some ⟨b8, 0, none⟩) : Value) from rfl)) (sgo 78 rfl (by decide) (aL rfl h33) (aF aJ rfl rfl (st20.get 0 rfl) (i := 2) rfl rfl (sgo 78 rfl (by decide) (aL rfl h33) (gT rfl rfl (sg (aN (v := .bool (decide (1 ≤ (r.tasks[k]'hif4d94).try_))) ((rfl : _ = (.bool (decide ((r.tasks[k]'hif4d94).need = 0)) : Value)).trans (congrArg Value.bool h33)) rfl (sg (aD (v := .bool (decide (1 ≤ (r.tasks[k]'hif4d94).try_))) rfl (aE ?_))))))))))
                    rcases bd (decide (1 ≤ (r.tasks[k]'hif4d94).try_)) with h34 | h34
                    · have h34p := of_decide_eq_false h34
                      refine wp_ret ?_; repeat first|refine aH ?_|refine aI ?_
                      refine aW Tryz.results161 ((rfl : _ = (.bool (decide (1 ≤ (r.tasks[k]'hif4d94).try_)) : Value)).trans (congrArg Value.bool h34)) ?_
                      exact ⟨(congrArg (fun z => Ending.returned (.bool z)) (by rw [dO (by unfold cB; omega)])), st20.bare⟩
                    · have h34p := of_decide_eq_true h34
                      refine wp_ret ?_; repeat first|refine aH ?_|refine aI ?_
                      refine aW Tryz.results161 ((rfl : _ = (.bool (decide (1 ≤ (r.tasks[k]'hif4d94).try_)) : Value)).trans (congrArg Value.bool h34)) ?_
                      exact ⟨(congrArg (fun z => Ending.returned (.bool z)) (by rw [gU (by unfold cB; omega)])), st20.bare⟩
                · have h32p := of_decide_eq_false h32
                  refine aA (sg (bA rfl rfl (sg (aD (v := .bool (decide ((r.tasks[k]'hif4d94).state = 5))) rfl (aE (aR rfl (fun h35 => ?_) (fun h35 => ?_)))))))
                  · have h35p := of_decide_eq_true h35
                    refine wp_seq (aA (sg (aC fF ((hf23 5 rfl).trans (show _ = (.pointer (some ⟨b8, 0, none⟩) : Value) from rfl)) (sg (aF aJ rfl rfl (st20.get 0 rfl) (i := 1) rfl rfl (sg (bA rfl rfl (sg (aB (v := .bool (decide ((r.tasks[k]'hif4d94).need = 0))) rfl ?_)))))))))
                    rcases bd (decide ((r.tasks[k]'hif4d94).need = 0)) with h36 | h36
                    · have h36p := of_decide_eq_false h36
                      iterate 3 refine sgf 78 rfl (by decide) (bF rfl h36) ?_
                      refine sg (aO (v := .bool false) ((rfl : _ = (.bool (decide ((r.tasks[k]'hif4d94).need = 0)) : Value)).trans (congrArg Value.bool h36)) rfl (sg (aD (v := .bool false) rfl (aE (wp_ret ?_))))); repeat first|refine aH ?_|refine aI ?_
                      refine aW Tryz.results161 rfl ?_
                      exact ⟨(congrArg (fun z => Ending.returned (.bool z)) (by rw [dO (by unfold cB; omega)])), st20.bare⟩
                    · have h36p := of_decide_eq_true h36
                      refine sgo 78 rfl (by decide) (aL rfl h36) (aC eD ((hf23 5 rfl).trans (show _ = (.pointer (some ⟨b8, 0, none⟩) : Value) from rfl)) (sgo 78 rfl (by decide) (aL rfl h36) (aF aJ rfl rfl (st20.get 0 rfl) (i := 2) rfl rfl (sgo 78 rfl (by decide) (aL rfl h36) (gT rfl rfl (sg (aN (v := .bool (decide (1 ≤ (r.tasks[k]'hif4d94).try_))) ((rfl : _ = (.bool (decide ((r.tasks[k]'hif4d94).need = 0)) : Value)).trans (congrArg Value.bool h36)) rfl (sg (aD (v := .bool (decide (1 ≤ (r.tasks[k]'hif4d94).try_))) rfl (aE ?_))))))))))
                      rcases bd (decide (1 ≤ (r.tasks[k]'hif4d94).try_)) with h37 | h37
                      · have h37p := of_decide_eq_false h37
                        refine wp_ret ?_; repeat first|refine aH ?_|refine aI ?_
                        refine aW Tryz.results161 ((rfl : _ = (.bool (decide (1 ≤ (r.tasks[k]'hif4d94).try_)) : Value)).trans (congrArg Value.bool h37)) ?_
                        exact ⟨(congrArg (fun z => Ending.returned (.bool z)) (by rw [dO (by unfold cB; omega)])), st20.bare⟩
                      · have h37p := of_decide_eq_true h37
                        refine wp_ret ?_; repeat first|refine aH ?_|refine aI ?_
                        refine aW Tryz.results161 ((rfl : _ = (.bool (decide (1 ≤ (r.tasks[k]'hif4d94).try_)) : Value)).trans (congrArg Value.bool h37)) ?_
                        exact ⟨(congrArg (fun z => Ending.returned (.bool z)) (by rw [gU (by unfold cB; omega)])), st20.bare⟩
                  · have h35p := of_decide_eq_false h35
                    refine wp_skip (wp_seq (aA (sg (aD (v := .bool true) rfl (aE (wp_ret ?_)))))); repeat first|refine aH ?_|refine aI ?_
                    refine aW Tryz.results161 rfl ?_
                    exact ⟨(congrArg (fun z => Ending.returned (.bool z)) (by rw [gU (by unfold cB; omega)])), st20.bare⟩
        · have h25p := of_decide_eq_true h25
          refine sgo 35 rfl (by decide) (aL rfl h25) (aC eT ((hf23 5 rfl).trans (show _ = (.pointer (some ⟨b8, 0, none⟩) : Value) from rfl)) (sgo 35 rfl (by decide) (aL rfl h25) (aF aJ rfl rfl (st20.get 0 rfl) (i := 3) rfl rfl (sgo 35 rfl (by decide) (aL rfl h25) (bS Tryz.func47 rfl rfl rfl rfl ((eL W19 (r.tasks[k]'hif4d94).until_ 1 1000000000).mono ?_)))))); rintro _ W38 ⟨rfl, hk39⟩; refine ⟨_, rfl, ?_⟩
          have st40 := St.call st20 hk39
          refine sgo 35 rfl (by decide) (aL rfl h25) (bO rfl (sg (aN (v := .bool (!(inB (r.tasks[k]'hif4d94).until_ 1 1000000000))) ((rfl : _ = (.bool (decide ((r.tasks[k]'hif4d94).state = 3)) : Value)).trans (congrArg Value.bool h25)) rfl (sg (aB (v := .bool (!(inB (r.tasks[k]'hif4d94).until_ 1 1000000000))) rfl ?_)))))
          rcases bd (!(inB (r.tasks[k]'hif4d94).until_ 1 1000000000)) with h42 | h42
          · have h42p := inB_iff'.1 (aX h42)
            refine sgo 41 rfl (by decide) (aL rfl h42) (aC bP ((hf23 5 rfl).trans (show _ = (.pointer (some ⟨b8, 0, none⟩) : Value) from rfl)) (sgo 41 rfl (by decide) (aL rfl h42) (aF aJ rfl rfl (st40.get 0 rfl) (i := 0) rfl rfl (sgo 41 rfl (by decide) (aL rfl h42) (bL rfl rfl (sgo 41 rfl (by decide) (aL rfl h42) (aB (v := .bool (!decide ((r.tasks[k]'hif4d94).state = 3))) rfl ?_)))))))
            iterate 3 refine sgf 45 rfl (by decide) (bF rfl (congrArg not h25)) ?_
            refine sgo 41 rfl (by decide) (aL rfl h42) (aO (v := .bool false) ((rfl : _ = (.bool (!decide ((r.tasks[k]'hif4d94).state = 3)) : Value)).trans (congrArg Value.bool (congrArg not h25))) rfl (sg (aO (v := .bool false) ((rfl : _ = (.bool (!(inB (r.tasks[k]'hif4d94).until_ 1 1000000000)) : Value)).trans (congrArg Value.bool h42)) rfl (aE (gX rfl rfl (wp_skip (wp_seq (wp_seq (aA (sg (aC bP ((hf23 5 rfl).trans (show _ = (.pointer (some ⟨b8, 0, none⟩) : Value) from rfl)) (sg (aF aJ rfl rfl (st40.get 0 rfl) (i := 0) rfl rfl (aE (wp_block ?_)))))))))))))))
            refine wp_seq (aA (sg (bA rfl rfl (sg (aD (v := .bool (decide ((r.tasks[k]'hif4d94).state = 1))) rfl (aE (aR rfl (fun h43 => ?_) (fun h43 => ?_))))))))
            · have h43p := of_decide_eq_true h43
              refine wp_seq (aA (sg (aC fF ((hf23 5 rfl).trans (show _ = (.pointer (some ⟨b8, 0, none⟩) : Value) from rfl)) (sg (aF aJ rfl rfl (st40.get 0 rfl) (i := 1) rfl rfl (sg (fV rfl rfl (sg (aD (v := .bool (decide (0 < (r.tasks[k]'hif4d94).need))) rfl (aE ?_))))))))))
              rcases bd (decide (0 < (r.tasks[k]'hif4d94).need)) with h44 | h44
              · have h44p := of_decide_eq_false h44
                refine wp_ret ?_; repeat first|refine aH ?_|refine aI ?_
                refine aW Tryz.results161 ((rfl : _ = (.bool (decide (0 < (r.tasks[k]'hif4d94).need)) : Value)).trans (congrArg Value.bool h44)) ?_
                exact ⟨(congrArg (fun z => Ending.returned (.bool z)) (by rw [dO (by unfold cB; omega)])), st40.bare⟩
              · have h44p := of_decide_eq_true h44
                refine wp_ret ?_; repeat first|refine aH ?_|refine aI ?_
                refine aW Tryz.results161 ((rfl : _ = (.bool (decide (0 < (r.tasks[k]'hif4d94).need)) : Value)).trans (congrArg Value.bool h44)) ?_
                exact ⟨(congrArg (fun z => Ending.returned (.bool z)) (by rw [gU (by unfold cB; omega)])), st40.bare⟩
            · have h43p := of_decide_eq_false h43
              refine wp_seq (aA (sg (bA rfl rfl (sg (aD (v := .bool (decide ((r.tasks[k]'hif4d94).state = 2))) rfl (aE (aR rfl (fun h45 => ?_) (fun h45 => ?_))))))))
              · have h45p := of_decide_eq_true h45
                refine wp_seq (aA (sg (aC fF ((hf23 5 rfl).trans (show _ = (.pointer (some ⟨b8, 0, none⟩) : Value) from rfl)) (sg (aF aJ rfl rfl (st40.get 0 rfl) (i := 1) rfl rfl (sg (bA rfl rfl (sg (aB (v := .bool (decide ((r.tasks[k]'hif4d94).need = 0))) rfl ?_)))))))))
                rcases bd (decide ((r.tasks[k]'hif4d94).need = 0)) with h46 | h46
                · have h46p := of_decide_eq_false h46
                  iterate 6 refine sgf 63 rfl (by decide) (bF rfl h46) ?_
                  refine sg (aO (v := .bool false) ((rfl : _ = (.bool (decide ((r.tasks[k]'hif4d94).need = 0)) : Value)).trans (congrArg Value.bool h46)) rfl (sg (aD (v := .bool false) rfl (aE (wp_ret ?_))))); repeat first|refine aH ?_|refine aI ?_
                  refine aW Tryz.results161 rfl ?_
                  exact ⟨(congrArg (fun z => Ending.returned (.bool z)) (by rw [dO (by unfold cB; omega)])), st40.bare⟩
                · have h46p := of_decide_eq_true h46
                  refine sgo 63 rfl (by decide) (aL rfl h46) (aC eD ((hf23 5 rfl).trans (show _ = (.pointer (some ⟨b8, 0, none⟩) : Value) from rfl)) (sgo 63 rfl (by decide) (aL rfl h46) (aF aJ rfl rfl (st40.get 0 rfl) (i := 2) rfl rfl (sgo 63 rfl (by decide) (aL rfl h46) (aC cQ ((hf23 2 rfl).trans (show _ = (.pointer (some ⟨b1, 0, none⟩) : Value) from rfl)) (sgo 63 rfl (by decide) (aL rfl h46) (aC fG rfl (sgo 63 rfl (by decide) (aL rfl h46) (aF aJ rfl rfl (st40.get 1 rfl) (i := 2) rfl rfl (sgo 63 rfl (by decide) (aL rfl h46) (aY rfl rfl (sg (aN (v := .bool (decide ((r.tasks[k]'hif4d94).try_ < r.plan.most))) ((rfl : _ = (.bool (decide ((r.tasks[k]'hif4d94).need = 0)) : Value)).trans (congrArg Value.bool h46)) rfl (sg (aD (v := .bool (decide ((r.tasks[k]'hif4d94).try_ < r.plan.most))) rfl (aE ?_))))))))))))))))
                  rcases bd (decide ((r.tasks[k]'hif4d94).try_ < r.plan.most)) with h47 | h47
                  · have h47p := of_decide_eq_false h47
                    refine wp_ret ?_; repeat first|refine aH ?_|refine aI ?_
                    refine aW Tryz.results161 ((rfl : _ = (.bool (decide ((r.tasks[k]'hif4d94).try_ < r.plan.most)) : Value)).trans (congrArg Value.bool h47)) ?_
                    exact ⟨(congrArg (fun z => Ending.returned (.bool z)) (by rw [dO (by unfold cB; omega)])), st40.bare⟩
                  · have h47p := of_decide_eq_true h47
                    refine wp_ret ?_; repeat first|refine aH ?_|refine aI ?_
                    refine aW Tryz.results161 ((rfl : _ = (.bool (decide ((r.tasks[k]'hif4d94).try_ < r.plan.most)) : Value)).trans (congrArg Value.bool h47)) ?_
                    exact ⟨(congrArg (fun z => Ending.returned (.bool z)) (by rw [gU (by unfold cB; omega)])), st40.bare⟩
              · have h45p := of_decide_eq_false h45
                refine wp_seq (wp_seq (aA (sg (bA rfl rfl (sg (aD (v := .bool (decide ((r.tasks[k]'hif4d94).state = 3))) rfl (aE (gV rfl h25 (wp_skip (gV rfl h25 (wp_seq (aA (sg (aC fF ((hf23 5 rfl).trans (show _ = (.pointer (some ⟨b8, 0, none⟩) : Value) from rfl)) ?_))))))))))))))
                refine sg (aF aJ rfl rfl (st40.get 0 rfl) (i := 1) rfl rfl (sg (bA rfl rfl (sg (aB (v := .bool (decide ((r.tasks[k]'hif4d94).need = 0))) rfl ?_)))))
                rcases bd (decide ((r.tasks[k]'hif4d94).need = 0)) with h48 | h48
                · have h48p := of_decide_eq_false h48
                  iterate 3 refine sgf 78 rfl (by decide) (bF rfl h48) ?_
                  refine sg (aO (v := .bool false) ((rfl : _ = (.bool (decide ((r.tasks[k]'hif4d94).need = 0)) : Value)).trans (congrArg Value.bool h48)) rfl (sg (aD (v := .bool false) rfl (aE (wp_ret ?_))))); repeat first|refine aH ?_|refine aI ?_
                  refine aW Tryz.results161 rfl ?_
                  exact ⟨(congrArg (fun z => Ending.returned (.bool z)) (by rw [dO (by unfold cB; omega)])), st40.bare⟩
                · have h48p := of_decide_eq_true h48
                  refine sgo 78 rfl (by decide) (aL rfl h48) (aC eD ((hf23 5 rfl).trans (show _ = (.pointer (some ⟨b8, 0, none⟩) : Value) from rfl)) (sgo 78 rfl (by decide) (aL rfl h48) (aF aJ rfl rfl (st40.get 0 rfl) (i := 2) rfl rfl (sgo 78 rfl (by decide) (aL rfl h48) (gT rfl rfl (sg (aN (v := .bool (decide (1 ≤ (r.tasks[k]'hif4d94).try_))) ((rfl : _ = (.bool (decide ((r.tasks[k]'hif4d94).need = 0)) : Value)).trans (congrArg Value.bool h48)) rfl (sg (aD (v := .bool (decide (1 ≤ (r.tasks[k]'hif4d94).try_))) rfl (aE ?_))))))))))
                  rcases bd (decide (1 ≤ (r.tasks[k]'hif4d94).try_)) with h49 | h49
                  · have h49p := of_decide_eq_false h49
                    refine wp_ret ?_; repeat first|refine aH ?_|refine aI ?_
                    refine aW Tryz.results161 ((rfl : _ = (.bool (decide (1 ≤ (r.tasks[k]'hif4d94).try_)) : Value)).trans (congrArg Value.bool h49)) ?_
                    exact ⟨(congrArg (fun z => Ending.returned (.bool z)) (by rw [dO (by unfold cB; omega)])), st40.bare⟩
                  · have h49p := of_decide_eq_true h49
                    refine wp_ret ?_; repeat first|refine aH ?_|refine aI ?_
                    refine aW Tryz.results161 ((rfl : _ = (.bool (decide (1 ≤ (r.tasks[k]'hif4d94).try_)) : Value)).trans (congrArg Value.bool h49)) ?_
                    exact ⟨(congrArg (fun z => Ending.returned (.bool z)) (by rw [gU (by unfold cB; omega)])), st40.bare⟩
          · have h42p := dN (aS h42)
            iterate 4 refine sgf 41 rfl (by decide) (bF rfl h42) ?_
            iterate 3 refine nL rfl rfl (by decide) (pD rfl) ?_
            refine sgf 41 rfl (by decide) (bF rfl h42) (sg (aN (v := .bool true) ((rfl : _ = (.bool (!(inB (r.tasks[k]'hif4d94).until_ 1 1000000000)) : Value)).trans (congrArg Value.bool h42)) rfl (aE (gV rfl rfl (wp_seq (aA (sg (aD (v := .bool false) rfl (aE (wp_ret ?_)))))))))); repeat first|refine aH ?_|refine aI ?_
            refine aW Tryz.results161 rfl ?_
            exact ⟨(congrArg (fun z => Ending.returned (.bool z)) (by rw [dO (by unfold cB; omega)])), st40.bare⟩
    · have h17p := of_decide_eq_false (aS h17)
      refine dI [Pl.is (.pointer (some ⟨b8, 0 + 0, none⟩)), Pl.is (I (r.tasks[k]'hif4d94).state), Pl.bool (inB (r.tasks[k]'hif4d94).state 1 6), Pl.bool false, Pl.bool false, Pl.is (.pointer (some ⟨b8, 0 + 1, none⟩)), Pl.is (I (r.tasks[k]'hif4d94).need), Pl.is (.agg #[I r.id, I r.plan.prio, I r.plan.most, I r.plan.wait, I r.plan.tasks, v6_0, I r.state, v6_1]), Pl.is (I (k : Int)), Pl.is (I (jJ r (k : Int))), Pl.bool true, Pl.bool true, Pl.bool true, Pl.off, Pl.off, Pl.off, Pl.off, Pl.off, Pl.off, Pl.off, Pl.bool true] mix (by rfl) st14 ⟨(fun f W hst hbl hd hf => aC bP ((hf 5 rfl).trans (show _ = (.pointer (some ⟨b8, 0, none⟩) : Value) from rfl)) brq), (fun f W hst hbl hd hf => aF aJ rfl (hd 0 11 rfl rfl) (hst.get 0 rfl) (i := 0) rfl rfl brq), (fun f W hst hbl hd hf => bS Tryz.func47 rfl (hd 1 12 rfl rfl) rfl rfl ((eL W (r.tasks[k]'hif4d94).state 1 6).mono (by rintro e W2 ⟨rfl, hk⟩; exact ⟨_, rfl, hk.below, rfl⟩))), (fun f W hst hbl hd hf => bO (hd 2 13 rfl rfl) ⟨Below.refl _ _, congrArg Value.bool h16⟩), (fun f W hst hbl hd hf => aB (v := .bool false) (hd 3 14 rfl rfl) brq), (fun f W hst hbl hd hf => aC fF ((hf 5 rfl).trans (show _ = (.pointer (some ⟨b8, 0, none⟩) : Value) from rfl)) brq), (fun f W hst hbl hd hf => aF aJ rfl (hd 5 16 rfl rfl) (hst.get 0 rfl) (i := 1) rfl rfl brq), (fun f W hst hbl hd hf => aU (cs := [I r.id, I r.plan.prio, I r.plan.most, I r.plan.wait, I r.plan.tasks, v6_0, I r.state, v6_1]) cY rfl ((hf 2 rfl).trans (show _ = (.pointer (some ⟨b1, 0, none⟩) : Value) from rfl)) (hst.get 1 rfl) rfl rfl brq), (fun f W hst hbl hd hf => aB (v := I (k : Int)) ((hf 1 rfl).trans (show _ = I (k : Int) from rfl)) brq), (fun f W hst hbl hd hf => aZ Tryz.func217 rfl (hd 7 18 rfl rfl) (hd 8 19 rfl rfl) ((wD W (cA hc hst.below) (k : Int) (by omega)).mono (by rintro e W2 ⟨rfl, hk⟩; exact ⟨_, rfl, hk.below, rfl⟩))), (fun f W hst hbl hd hf => bL (hd 6 17 rfl rfl) (hd 9 20 rfl rfl) ⟨Below.refl _ _, congrArg Value.bool h17⟩), (fun f W hst hbl hd hf => aO (v := .bool true) (hd 4 15 rfl rfl) (hd 10 21 rfl rfl) brq), (fun f W hst hbl hd hf => aB (v := .bool true) (hd 11 22 rfl rfl) brq), (fun f W hst hbl hd hf => rfl), (fun f W hst hbl hd hf => rfl), (fun f W hst hbl hd hf => rfl), (fun f W hst hbl hd hf => rfl), (fun f W hst hbl hd hf => rfl), (fun f W hst hbl hd hf => rfl), (fun f W hst hbl hd hf => rfl), (fun f W hst hbl hd hf => aN (v := .bool true) (hd 12 23 rfl rfl) rfl brq), trivial⟩ ?_
      intro f50 W51 st52 hb53 hv54 hf55
      refine gV (hv54 20 31 (by decide) rfl) rfl (wp_seq (aA (sg (aD (v := .bool false) rfl (aE (wp_ret ?_)))))); repeat first|refine aH ?_|refine aI ?_
      refine aW Tryz.results161 rfl ?_
      exact ⟨(congrArg (fun z => Ending.returned (.bool z)) (by rw [dO (by unfold cB; omega)])), st52.bare⟩
  · have h16p := dN (aS h16)
    refine dI [Pl.is (.pointer (some ⟨b8, 0 + 0, none⟩)), Pl.is (I (r.tasks[k]'hif4d94).state), Pl.bool (inB (r.tasks[k]'hif4d94).state 1 6), Pl.bool true, Pl.bool true, Pl.off, Pl.off, Pl.off, Pl.off, Pl.off, Pl.off, Pl.bool true, Pl.bool true, Pl.off, Pl.off, Pl.off, Pl.off, Pl.off, Pl.off, Pl.off, Pl.bool true] mix (by rfl) st14 ⟨(fun f W hst hbl hd hf => aC bP ((hf 5 rfl).trans (show _ = (.pointer (some ⟨b8, 0, none⟩) : Value) from rfl)) brq), (fun f W hst hbl hd hf => aF aJ rfl (hd 0 11 rfl rfl) (hst.get 0 rfl) (i := 0) rfl rfl brq), (fun f W hst hbl hd hf => bS Tryz.func47 rfl (hd 1 12 rfl rfl) rfl rfl ((eL W (r.tasks[k]'hif4d94).state 1 6).mono (by rintro e W2 ⟨rfl, hk⟩; exact ⟨_, rfl, hk.below, rfl⟩))), (fun f W hst hbl hd hf => bO (hd 2 13 rfl rfl) ⟨Below.refl _ _, congrArg Value.bool h16⟩), (fun f W hst hbl hd hf => aB (v := .bool true) (hd 3 14 rfl rfl) brq), (fun f W hst hbl hd hf => rfl), (fun f W hst hbl hd hf => rfl), (fun f W hst hbl hd hf => rfl), (fun f W hst hbl hd hf => rfl), (fun f W hst hbl hd hf => rfl), (fun f W hst hbl hd hf => rfl), (fun f W hst hbl hd hf => aN (v := .bool true) (hd 4 15 rfl rfl) rfl brq), (fun f W hst hbl hd hf => aB (v := .bool true) (hd 11 22 rfl rfl) brq), (fun f W hst hbl hd hf => rfl), (fun f W hst hbl hd hf => rfl), (fun f W hst hbl hd hf => rfl), (fun f W hst hbl hd hf => rfl), (fun f W hst hbl hd hf => rfl), (fun f W hst hbl hd hf => rfl), (fun f W hst hbl hd hf => rfl), (fun f W hst hbl hd hf => aN (v := .bool true) (hd 12 23 rfl rfl) rfl brq), trivial⟩ ?_
    intro f56 W57 st58 hb59 hv60 hf61
    refine gV (hv60 20 31 (by decide) rfl) rfl (wp_seq (aA (sg (aD (v := .bool false) rfl (aE (wp_ret ?_)))))); repeat first|refine aH ?_|refine aI ?_
    refine aW Tryz.results161 rfl ?_
    exact ⟨(congrArg (fun z => Ending.returned (.bool z)) (by rw [dO (by unfold cB; omega)])), st58.bare⟩
set_option maxHeartbeats 2000000 in
theorem RunOkI (w : World) {r : Run} {cs : List Value} {fp : List Nat} (hc : Shape.C w cs r fp) :
    Calls Tryz.prog 97 #[.agg cs.toArray] w fun e w' => e = .returned (.bool (dY r)) ∧ St w w' [] := by
  have hcap : r.tasks.length ≤ 9223372036854775807 := by have h0 := hc; obtain ⟨v1, v2, f1, f2, h0, hok, h1, h2, hfp⟩ := h0; exact h2.len_le
  refine dU Tryz.func97 rfl Tryz.ntmps97 (by decide) (wp_seq (aA (sg (aQ (cs := cs) rfl (St.start w) ?_)))); intro b1 W2 hb3 st4
  refine sg (aD (v := .bool false) rfl (aE (wp_seq (wp_seq (aA (sg (aC eU rfl ?_)))))))
  have hk6 := hc
  obtain ⟨v6_0, v6_1, g6_0, g6_1, rfl, hok6, h6_0, h6_1, rfl⟩ := hk6
  refine sg (aF aJ rfl rfl (st4.get 0 rfl) (i := 0) rfl rfl (sg (bS Tryz.func47 rfl rfl rfl rfl ((eL W2 r.id 1 9999).mono ?_)))); rintro _ W7 ⟨rfl, hk8⟩; refine ⟨_, rfl, ?_⟩
  have st9 := St.call st4 hk8
  refine sg (bO rfl (sg (aB (v := .bool (!(inB r.id 1 9999))) rfl ?_)))
  rcases bd (!(inB r.id 1 9999)) with h11 | h11
  · have h11p := inB_iff'.1 (aX h11)
    refine sgo 12 rfl (by decide) (aL rfl h11) (aC cQ rfl (sgo 12 rfl (by decide) (aL rfl h11) (aU (cs := [I r.plan.prio, I r.plan.most, I r.plan.wait, I r.plan.tasks, v6_0]) fY rfl rfl (st9.get 0 rfl) rfl rfl (sgo 12 rfl (by decide) (aL rfl h11) (bI Tryz.func160 rfl rfl ((rX W7 (show Shape.C _ [I r.plan.prio, I r.plan.most, I r.plan.wait, I r.plan.tasks, v6_0] r.plan _ from ⟨_, _, rfl, (by first | exact True.intro | (simp only [Edge.ok, Plan.ok, Entry.ok, Task.ok, Run.ok, Yard.ok, Reply.ok, Deed.ok, Note.ok, Wait.ok, File.ok, Disk.ok, Engine.ok, WorldD.ok, ActD.ok, Hand.ok, Span.ok, Crew.ok, View.ok, I64] at *; omega)), (h6_0.below st9.below), rfl⟩)).mono ?_)))))); rintro _ W12 ⟨rfl, hk13⟩; refine ⟨_, rfl, ?_⟩
    have st14 := St.call st9 hk13
    refine sgo 12 rfl (by decide) (aL rfl h11) (bL rfl rfl (sg (aO (v := .bool (!decide ((dC r.plan) = 0))) ((rfl : _ = (.bool (!(inB r.id 1 9999)) : Value)).trans (congrArg Value.bool h11)) rfl (sg (aB (v := .bool (!decide ((dC r.plan) = 0))) rfl ?_)))))
    rcases bd (!decide ((dC r.plan) = 0)) with h16 | h16
    · have h16p := of_decide_eq_true (aX h16)
      refine sgo 18 rfl (by decide) (aL rfl h16) (aC bJ rfl (sgo 18 rfl (by decide) (aL rfl h16) (aF bM rfl rfl (st14.get 0 rfl) (i := 7) rfl rfl (sgo 18 rfl (by decide) (aL rfl h16) (aV bD rfl h6_1 (sgo 18 rfl (by decide) (aL rfl h16) (aC cQ rfl (sgo 18 rfl (by decide) (aL rfl h16) (aC eK rfl (sgo 18 rfl (by decide) (aL rfl h16) (aF aJ rfl rfl (st14.get 0 rfl) (i := 4) rfl rfl (sgo 18 rfl (by decide) (aL rfl h16) (bL rfl rfl (sg (aO (v := .bool (!decide ((r.tasks.length : Int) = r.plan.tasks))) ((rfl : _ = (.bool (!decide ((dC r.plan) = 0)) : Value)).trans (congrArg Value.bool h16)) rfl (aE (aR rfl (fun h17 => ?_) (fun h17 => ?_))))))))))))))))))
      · have h17p := of_decide_eq_false (aS h17)
        refine wp_seq (aA (sg (aD (v := .bool false) rfl (aE (wp_ret ?_))))); repeat first|refine aH ?_|refine aI ?_
        refine aW Tryz.results97 rfl ?_
        exact ⟨(congrArg (fun z => Ending.returned (.bool z)) (by unfold dY; rw [dO (by rintro ⟨hz1, hz2, hz3, hz4, hz5, hz6⟩; omega)])), st14.bare⟩
      · have h17p := of_decide_eq_true (aX h17)
        refine wp_skip (wp_seq (wp_seq (aA ?_)))
        have hMb := pM (qA (by omega : dC r.plan = 0)).1
        refine sg (aC bJ rfl (sg (aF bM rfl rfl (st14.get 0 rfl) (i := 7) rfl rfl (sg (aV bD rfl h6_1 (sg (aB (v := I 0) rfl (aE (wp_block (bH (fun (m : Nat) (f : Nat → Value) (W : World) => ∃ (k : Nat), k ≤ r.tasks.length ∧ (∀ j, j < k → kA r j) ∧ m = r.tasks.length - k ∧ f 1 = .pointer (some ⟨b1, 0, none⟩) ∧ f 29 = I (r.tasks.length : Int) ∧ f 30 = I (k : Int) ∧ St w W ([Res.bx b1 [I r.id, I r.plan.prio, I r.plan.most, I r.plan.wait, I r.plan.tasks, v6_0, I r.state, v6_1] 123])) (r.tasks.length - 0) ?_ ?_))))))))))
        · exact ⟨0, (by omega), (fun j hj => absurd hj (Nat.not_lt_zero j)), rfl, rfl, rfl, rfl, st14⟩
        intro m18 f19 W20 hJ21
        obtain ⟨k, hk, hT, rfl, hs23_1, hs23_29, hs23_30, st22⟩ := hJ21
        refine wp_seq (aA (sg (aY hs23_30 hs23_29 (aE (wp_seq (aR rfl (fun h24 => ?_) (fun h24 => ?_)))))))
        · have h24p := of_decide_eq_true h24
          refine wp_skip (wp_seq (wp_block (wp_seq (aA (sg (aB (v := I (k : Int)) hs23_30 (sg (aD (v := I (k : Int)) rfl (aE (wp_seq (aA (sg (aU (cs := [I r.id, I r.plan.prio, I r.plan.most, I r.plan.wait, I r.plan.tasks, v6_0, I r.state, v6_1]) cY rfl hs23_1 (st22.get 0 rfl) rfl rfl (sg (aB (v := I (k : Int)) rfl ?_)))))))))))))))
          refine sg (aZ Tryz.func161 rfl rfl rfl ((TaskOkI W20 (cA hc st22.below) (k := k) (by omega) (by omega)).mono ?_)); rintro _ W25 ⟨rfl, hk26⟩; refine ⟨_, rfl, ?_⟩
          have st27 := St.call st22 hk26
          refine sg (bO rfl (aE (aR rfl (fun h29 => ?_) (fun h29 => ?_))))
          · refine wp_seq (aA (sg (aD (v := .bool false) rfl (aE (wp_ret ?_))))); repeat first|refine aH ?_|refine aI ?_
            refine aW Tryz.results97 rfl ?_
            exact ⟨(congrArg (fun z => Ending.returned (.bool z)) (by unfold dY; rw [dO (fun hz => vG (aS h29) (hz.2.2.2.1 k (by omega) (by omega)))])), st27.bare⟩
          · refine wp_skip (aA (sg (aP hs23_30 rfl (by (simp only [I64] at *; omega)) (sg (aB (v := I ((k : Int) + 1)) rfl (aE ?_))))))
            exact ⟨_, r.tasks.length - (k + 1), (by omega), rfl, k + 1, (by omega), (fun j hj => by rcases Nat.lt_succ_iff_lt_or_eq.1 hj with h1 | rfl; exact hT j h1; exact fun _ => pB_iff.1 ((aX h29))), rfl, hs23_1, hs23_29, rfl, st27⟩
        · have h24p := of_decide_eq_false h24
          refine wp_exit (wp_seq ?_)
          have hTk : ∀ j, j < r.tasks.length → kA r j := by rw [show k = r.tasks.length by omega] at hT; exact hT
          have hc4 := lY r.tasks 4
          have hc5 := lY r.tasks 5
          have hc6 := lY r.tasks 6
          have hsum := wA (states_of hTk)
          have hso := nH r.tasks
          have hn1 := eI r.tasks 1
          have hn2 := eI r.tasks 2
          have hn3 := eI r.tasks 3
          have hn4 := eI r.tasks 4
          have hn5 := eI r.tasks 5
          have hn6 := eI r.tasks 6
          refine dI [Pl.is (.agg #[I r.id, I r.plan.prio, I r.plan.most, I r.plan.wait, I r.plan.tasks, v6_0, I r.state, v6_1]), Pl.ssl (α := Int) (aT r.tasks 4), Pl.is (I ((aT r.tasks 4).length : Int)), Pl.is (.agg #[I r.id, I r.plan.prio, I r.plan.most, I r.plan.wait, I r.plan.tasks, v6_0, I r.state, v6_1]), Pl.ssl (α := Int) (aT r.tasks 5), Pl.is (I ((aT r.tasks 5).length : Int)), Pl.is (.agg #[I r.id, I r.plan.prio, I r.plan.most, I r.plan.wait, I r.plan.tasks, v6_0, I r.state, v6_1]), Pl.ssl (α := Int) (aT r.tasks 6), Pl.is (I ((aT r.tasks 6).length : Int)), Pl.is (I ((aT r.tasks 4).length : Int)), Pl.is (I ((aT r.tasks 5).length : Int)), Pl.is (I ((aT r.tasks 6).length : Int))] mix (by rfl) st22 ⟨(fun f W hst hbl hd hf => aU (cs := [I r.id, I r.plan.prio, I r.plan.most, I r.plan.wait, I r.plan.tasks, v6_0, I r.state, v6_1]) cY rfl ((hf 1 rfl).trans hs23_1) (hst.get 0 rfl) rfl rfl brq), (fun f W hst hbl hd hf => aZ Tryz.func162 rfl (hd 0 38 rfl rfl) rfl ((mR W (cA hc hst.below) 4 (by omega)).mono (by rintro e W2 ⟨v, fp, rfl, hk⟩; exact ⟨_, rfl, hk.below, fp, bC (hk.get 0 rfl)⟩))), (fun f W hst hbl hd hf => by obtain ⟨fp32, h32⟩ := hd 1 39 rfl rfl; exact aV dF rfl h32 brq), (fun f W hst hbl hd hf => aU (cs := [I r.id, I r.plan.prio, I r.plan.most, I r.plan.wait, I r.plan.tasks, v6_0, I r.state, v6_1]) cY rfl ((hf 1 rfl).trans hs23_1) (hst.get 0 rfl) rfl rfl brq), (fun f W hst hbl hd hf => aZ Tryz.func162 rfl (hd 3 41 rfl rfl) rfl ((mR W (cA hc hst.below) 5 (by omega)).mono (by rintro e W2 ⟨v, fp, rfl, hk⟩; exact ⟨_, rfl, hk.below, fp, bC (hk.get 0 rfl)⟩))), (fun f W hst hbl hd hf => by obtain ⟨fp35, h35⟩ := hd 4 42 rfl rfl; exact aV dF rfl h35 brq), (fun f W hst hbl hd hf => aU (cs := [I r.id, I r.plan.prio, I r.plan.most, I r.plan.wait, I r.plan.tasks, v6_0, I r.state, v6_1]) cY rfl ((hf 1 rfl).trans hs23_1) (hst.get 0 rfl) rfl rfl brq), (fun f W hst hbl hd hf => aZ Tryz.func162 rfl (hd 6 44 rfl rfl) rfl ((mR W (cA hc hst.below) 6 (by omega)).mono (by rintro e W2 ⟨v, fp, rfl, hk⟩; exact ⟨_, rfl, hk.below, fp, bC (hk.get 0 rfl)⟩))), (fun f W hst hbl hd hf => by obtain ⟨fp38, h38⟩ := hd 7 45 rfl rfl; exact aV dF rfl h38 brq), (fun f W hst hbl hd hf => aD (v := I ((aT r.tasks 4).length : Int)) (hd 2 40 rfl rfl) brq), (fun f W hst hbl hd hf => aD (v := I ((aT r.tasks 5).length : Int)) (hd 5 43 rfl rfl) brq), (fun f W hst hbl hd hf => aD (v := I ((aT r.tasks 6).length : Int)) (hd 8 46 rfl rfl) brq), trivial⟩ ?_
          intro f39 W40 st41 hb42 hv43 hf44
          have hq_ := hv43 1 39 (by decide) rfl
          obtain ⟨fp45, h45⟩ := hq_
          have hq_ := hv43 4 42 (by decide) rfl
          obtain ⟨fp46, h46⟩ := hq_
          have hq_ := hv43 7 45 (by decide) rfl
          obtain ⟨fp47, h47⟩ := hq_
          refine wp_seq (aA (sg (aB (v := I ((aT r.tasks 4).length : Int)) (hv43 9 4 (by decide) rfl) (sg (aB (v := I ((aT r.tasks 5).length : Int)) (hv43 10 5 (by decide) rfl) (sg (aP rfl rfl (by (simp only [I64] at *; omega)) (sg (aB (v := I ((aT r.tasks 6).length : Int)) (hv43 11 6 (by decide) rfl) (sg (aP rfl rfl (by (simp only [I64] at *; omega)) (sg (aC bJ ((hf44 1 rfl).trans hs23_1) (sg (aK bM rfl rfl (cD (st41.get 0 rfl)) (Below.refl _ _) (i := 7) rfl rfl (sg (aV bD rfl h6_1 (sg (bA rfl rfl (sg (aD (v := .bool (decide (((((aT r.tasks 4).length : Int) + ((aT r.tasks 5).length : Int)) + ((aT r.tasks 6).length : Int)) = (r.tasks.length : Int)))) rfl ?_)))))))))))))))))))))
          refine aE (wp_seq (wp_block (wp_seq (aA (sg (aB (v := I ((aT r.tasks 4).length : Int)) (hv43 9 4 (by decide) rfl) (sg (aC bJ ((hf44 1 rfl).trans hs23_1) (sg (aK bM rfl rfl (cD (st41.get 0 rfl)) (Below.refl _ _) (i := 7) rfl rfl (sg (aV bD rfl h6_1 (sg (bA rfl rfl (sg (aD (v := .bool (decide (((aT r.tasks 4).length : Int) = (r.tasks.length : Int)))) rfl (aE ?_)))))))))))))))))
          refine aR rfl (fun h48 => ?_) (fun h48 => ?_)
          · have h48p := of_decide_eq_true h48
            refine wp_seq (aA (sg (aC eO ((hf44 1 rfl).trans hs23_1) (sg (aK aJ rfl rfl (cD (st41.get 0 rfl)) (Below.refl _ _) (i := 6) rfl rfl (sg (bA rfl rfl (sg (aD (v := .bool (decide (r.state = 2))) rfl (aE ?_))))))))))
            rcases bd (decide (r.state = 2)) with h49 | h49
            · have h49p := of_decide_eq_false h49
              refine wp_ret ?_; repeat first|refine aH ?_|refine aI ?_
              refine aW Tryz.results97 ((rfl : _ = (.bool (decide (r.state = 2)) : Value)).trans (congrArg Value.bool h49)) ?_
              have st50 := St.call st41 (St.start W40)
              exact ⟨(congrArg (fun z => Ending.returned (.bool z)) (by unfold dY; rw [dO (by rintro ⟨hz1, hz2, hz3, hz4, hz5, hz6⟩; omega)])), st50.bare⟩
            · have h49p := of_decide_eq_true h49
              refine wp_ret ?_; repeat first|refine aH ?_|refine aI ?_
              refine aW Tryz.results97 ((rfl : _ = (.bool (decide (r.state = 2)) : Value)).trans (congrArg Value.bool h49)) ?_
              have st51 := St.call st41 (St.start W40)
              exact ⟨(congrArg (fun z => Ending.returned (.bool z)) (by unfold dY; rw [gU ⟨by omega, by omega, by omega, hTk, by omega, by omega⟩])), st51.bare⟩
          · have h48p := of_decide_eq_false h48
            refine wp_seq (aA (sg (aB (v := I ((aT r.tasks 5).length : Int)) (hv43 10 5 (by decide) rfl) (sg (bA rfl rfl (sg (aB (v := .bool (decide (((aT r.tasks 5).length : Int) = 1))) rfl ?_)))))))
            rcases bd (decide (((aT r.tasks 5).length : Int) = 1)) with h52 | h52
            · have h52p := of_decide_eq_false h52
              refine sgf 68 rfl (by decide) (bF rfl h52) (sg (aO (v := .bool false) ((rfl : _ = (.bool (decide (((aT r.tasks 5).length : Int) = 1)) : Value)).trans (congrArg Value.bool h52)) rfl (sg (aD (v := .bool false) rfl (aE (gX rfl rfl (wp_seq (aA (sg (aB (v := I ((aT r.tasks 5).length : Int)) (hv43 10 5 (by decide) rfl) (sg (bA rfl rfl (sg (aB (v := .bool (decide (((aT r.tasks 5).length : Int) = 0))) rfl ?_))))))))))))))
              rcases bd (decide (((aT r.tasks 5).length : Int) = 0)) with h53 | h53
              · have h53p := of_decide_eq_false h53
                iterate 2 refine sgf 77 rfl (by decide) (bF rfl h53) ?_
                refine sg (aO (v := .bool false) ((rfl : _ = (.bool (decide (((aT r.tasks 5).length : Int) = 0)) : Value)).trans (congrArg Value.bool h53)) rfl (sg (aB (v := .bool false) rfl (sgf 81 rfl (by decide) (bF rfl rfl) (sg (aO (v := .bool false) rfl rfl (sg (aD (v := .bool false) rfl (aE (gX rfl rfl (wp_skip (wp_seq (aA (sg (aC eO ((hf44 1 rfl).trans hs23_1) (sg (aK aJ rfl rfl (cD (st41.get 0 rfl)) (Below.refl _ _) (i := 6) rfl rfl ?_)))))))))))))))))
                refine sg (bA rfl rfl (sg (aB (v := .bool (decide (r.state = 1))) rfl ?_)))
                rcases bd (decide (r.state = 1)) with h54 | h54
                · have h54p := of_decide_eq_false h54
                  iterate 2 refine sgf 90 rfl (by decide) (bF rfl h54) ?_
                  refine sg (aO (v := .bool false) ((rfl : _ = (.bool (decide (r.state = 1)) : Value)).trans (congrArg Value.bool h54)) rfl (sg (aB (v := .bool false) rfl ?_)))
                  iterate 2 refine sgf 94 rfl (by decide) (bF rfl rfl) ?_
                  refine sg (aO (v := .bool false) rfl rfl (sg (aD (v := .bool false) rfl (aE (wp_ret ?_))))); repeat first|refine aH ?_|refine aI ?_
                  refine aW Tryz.results97 rfl ?_
                  have st55 := St.call st41 (St.start W40)
                  exact ⟨(congrArg (fun z => Ending.returned (.bool z)) (by unfold dY; rw [dO (by rintro ⟨hz1, hz2, hz3, hz4, hz5, hz6⟩; omega)])), st55.bare⟩
                · have h54p := of_decide_eq_true h54
                  refine sgo 90 rfl (by decide) (aL rfl h54) (aB (v := I ((aT r.tasks 5).length : Int)) (hv43 10 5 (by decide) rfl) (sgo 90 rfl (by decide) (aL rfl h54) (bA rfl rfl (sg (aN (v := .bool (decide (((aT r.tasks 5).length : Int) = 0))) ((rfl : _ = (.bool (decide (r.state = 1)) : Value)).trans (congrArg Value.bool h54)) rfl (sg (aB (v := .bool (decide (((aT r.tasks 5).length : Int) = 0))) rfl ?_)))))))
                  iterate 2 refine sgf 94 rfl (by decide) (bF rfl h53) ?_
                  refine sg (aO (v := .bool false) ((rfl : _ = (.bool (decide (((aT r.tasks 5).length : Int) = 0)) : Value)).trans (congrArg Value.bool h53)) rfl (sg (aD (v := .bool false) rfl (aE (wp_ret ?_))))); repeat first|refine aH ?_|refine aI ?_
                  refine aW Tryz.results97 rfl ?_
                  have st56 := St.call st41 (St.start W40)
                  exact ⟨(congrArg (fun z => Ending.returned (.bool z)) (by unfold dY; rw [dO (by rintro ⟨hz1, hz2, hz3, hz4, hz5, hz6⟩; omega)])), st56.bare⟩
              · have h53p := of_decide_eq_true h53
                refine sgo 77 rfl (by decide) (aL rfl h53) (aB (v := I ((aT r.tasks 6).length : Int)) (hv43 11 6 (by decide) rfl) (sgo 77 rfl (by decide) (aL rfl h53) (fV rfl rfl (sg (aN (v := .bool (decide (0 < ((aT r.tasks 6).length : Int)))) ((rfl : _ = (.bool (decide (((aT r.tasks 5).length : Int) = 0)) : Value)).trans (congrArg Value.bool h53)) rfl (sg (aB (v := .bool (decide (0 < ((aT r.tasks 6).length : Int)))) rfl ?_)))))))
                rcases bd (decide (0 < ((aT r.tasks 6).length : Int))) with h57 | h57
                · have h57p := of_decide_eq_false h57
                  refine sgf 81 rfl (by decide) (bF rfl h57) (sg (aO (v := .bool false) ((rfl : _ = (.bool (decide (0 < ((aT r.tasks 6).length : Int))) : Value)).trans (congrArg Value.bool h57)) rfl (sg (aD (v := .bool false) rfl (aE (gX rfl rfl (wp_skip (wp_seq (aA (sg (aC eO ((hf44 1 rfl).trans hs23_1) (sg (aK aJ rfl rfl (cD (st41.get 0 rfl)) (Below.refl _ _) (i := 6) rfl rfl (sg (bA rfl rfl (sg (aB (v := .bool (decide (r.state = 1))) rfl ?_)))))))))))))))))
                  rcases bd (decide (r.state = 1)) with h58 | h58
                  · have h58p := of_decide_eq_false h58
                    iterate 2 refine sgf 90 rfl (by decide) (bF rfl h58) ?_
                    refine sg (aO (v := .bool false) ((rfl : _ = (.bool (decide (r.state = 1)) : Value)).trans (congrArg Value.bool h58)) rfl (sg (aB (v := .bool false) rfl ?_)))
                    iterate 2 refine sgf 94 rfl (by decide) (bF rfl rfl) ?_
                    refine sg (aO (v := .bool false) rfl rfl (sg (aD (v := .bool false) rfl (aE (wp_ret ?_))))); repeat first|refine aH ?_|refine aI ?_
                    refine aW Tryz.results97 rfl ?_
                    have st59 := St.call st41 (St.start W40)
                    exact ⟨(congrArg (fun z => Ending.returned (.bool z)) (by unfold dY; rw [dO (by rintro ⟨hz1, hz2, hz3, hz4, hz5, hz6⟩; omega)])), st59.bare⟩
                  · have h58p := of_decide_eq_true h58
                    refine sgo 90 rfl (by decide) (aL rfl h58) (aB (v := I ((aT r.tasks 5).length : Int)) (hv43 10 5 (by decide) rfl) (sgo 90 rfl (by decide) (aL rfl h58) (bA rfl rfl (sg (aN (v := .bool (decide (((aT r.tasks 5).length : Int) = 0))) ((rfl : _ = (.bool (decide (r.state = 1)) : Value)).trans (congrArg Value.bool h58)) rfl (sg (aB (v := .bool (decide (((aT r.tasks 5).length : Int) = 0))) rfl (sgo 94 rfl (by decide) (aL rfl h53) (aB (v := I ((aT r.tasks 6).length : Int)) (hv43 11 6 (by decide) rfl) (sgo 94 rfl (by decide) (aL rfl h53) (bA rfl rfl (sg (aN (v := .bool (decide (((aT r.tasks 6).length : Int) = 0))) ((rfl : _ = (.bool (decide (((aT r.tasks 5).length : Int) = 0)) : Value)).trans (congrArg Value.bool h53)) rfl (sg (aD (v := .bool (decide (((aT r.tasks 6).length : Int) = 0))) rfl (aE ?_))))))))))))))))
                    rcases bd (decide (((aT r.tasks 6).length : Int) = 0)) with h60 | h60
                    · have h60p := of_decide_eq_false h60
                      refine wp_ret ?_; repeat first|refine aH ?_|refine aI ?_
                      refine aW Tryz.results97 ((rfl : _ = (.bool (decide (((aT r.tasks 6).length : Int) = 0)) : Value)).trans (congrArg Value.bool h60)) ?_
                      have st61 := St.call st41 (St.start W40)
                      exact ⟨(congrArg (fun z => Ending.returned (.bool z)) (by unfold dY; rw [dO (by rintro ⟨hz1, hz2, hz3, hz4, hz5, hz6⟩; omega)])), st61.bare⟩
                    · have h60p := of_decide_eq_true h60
                      refine wp_ret ?_; repeat first|refine aH ?_|refine aI ?_
                      refine aW Tryz.results97 ((rfl : _ = (.bool (decide (((aT r.tasks 6).length : Int) = 0)) : Value)).trans (congrArg Value.bool h60)) ?_
                      have st62 := St.call st41 (St.start W40)
                      exact ⟨(congrArg (fun z => Ending.returned (.bool z)) (by unfold dY; rw [gU ⟨by omega, by omega, by omega, hTk, by omega, by omega⟩])), st62.bare⟩
                · have h57p := of_decide_eq_true h57
                  refine sgo 81 rfl (by decide) (aL rfl h57) (aB (v := .bool (decide (((((aT r.tasks 4).length : Int) + ((aT r.tasks 5).length : Int)) + ((aT r.tasks 6).length : Int)) = (r.tasks.length : Int)))) rfl (sg (aN (v := .bool (decide (((((aT r.tasks 4).length : Int) + ((aT r.tasks 5).length : Int)) + ((aT r.tasks 6).length : Int)) = (r.tasks.length : Int)))) ((rfl : _ = (.bool (decide (0 < ((aT r.tasks 6).length : Int))) : Value)).trans (congrArg Value.bool h57)) rfl (sg (aD (v := .bool (decide (((((aT r.tasks 4).length : Int) + ((aT r.tasks 5).length : Int)) + ((aT r.tasks 6).length : Int)) = (r.tasks.length : Int)))) rfl (aE (aR rfl (fun h63 => ?_) (fun h63 => ?_))))))))
                  · have h63p := of_decide_eq_true h63
                    refine wp_seq (aA (sg (aC eO ((hf44 1 rfl).trans hs23_1) (sg (aK aJ rfl rfl (cD (st41.get 0 rfl)) (Below.refl _ _) (i := 6) rfl rfl (sg (bA rfl rfl (sg (aD (v := .bool (decide (r.state = 4))) rfl (aE ?_))))))))))
                    rcases bd (decide (r.state = 4)) with h64 | h64
                    · have h64p := of_decide_eq_false h64
                      refine wp_ret ?_; repeat first|refine aH ?_|refine aI ?_
                      refine aW Tryz.results97 ((rfl : _ = (.bool (decide (r.state = 4)) : Value)).trans (congrArg Value.bool h64)) ?_
                      have st65 := St.call st41 (St.start W40)
                      exact ⟨(congrArg (fun z => Ending.returned (.bool z)) (by unfold dY; rw [dO (by rintro ⟨hz1, hz2, hz3, hz4, hz5, hz6⟩; omega)])), st65.bare⟩
                    · have h64p := of_decide_eq_true h64
                      refine wp_ret ?_; repeat first|refine aH ?_|refine aI ?_
                      refine aW Tryz.results97 ((rfl : _ = (.bool (decide (r.state = 4)) : Value)).trans (congrArg Value.bool h64)) ?_
                      have st66 := St.call st41 (St.start W40)
                      exact ⟨(congrArg (fun z => Ending.returned (.bool z)) (by unfold dY; rw [gU ⟨by omega, by omega, by omega, hTk, by omega, by omega⟩])), st66.bare⟩
                  · have h63p := of_decide_eq_false h63
                    refine wp_skip (wp_seq (aA (sg (aC eO ((hf44 1 rfl).trans hs23_1) (sg (aK aJ rfl rfl (cD (st41.get 0 rfl)) (Below.refl _ _) (i := 6) rfl rfl (sg (bA rfl rfl (sg (aB (v := .bool (decide (r.state = 1))) rfl ?_))))))))))
                    rcases bd (decide (r.state = 1)) with h67 | h67
                    · have h67p := of_decide_eq_false h67
                      iterate 2 refine sgf 90 rfl (by decide) (bF rfl h67) ?_
                      refine sg (aO (v := .bool false) ((rfl : _ = (.bool (decide (r.state = 1)) : Value)).trans (congrArg Value.bool h67)) rfl (sg (aB (v := .bool false) rfl ?_)))
                      iterate 2 refine sgf 94 rfl (by decide) (bF rfl rfl) ?_
                      refine sg (aO (v := .bool false) rfl rfl (sg (aD (v := .bool false) rfl (aE (wp_ret ?_))))); repeat first|refine aH ?_|refine aI ?_
                      refine aW Tryz.results97 rfl ?_
                      have st68 := St.call st41 (St.start W40)
                      exact ⟨(congrArg (fun z => Ending.returned (.bool z)) (by unfold dY; rw [dO (by rintro ⟨hz1, hz2, hz3, hz4, hz5, hz6⟩; omega)])), st68.bare⟩
                    · have h67p := of_decide_eq_true h67
                      refine sgo 90 rfl (by decide) (aL rfl h67) (aB (v := I ((aT r.tasks 5).length : Int)) (hv43 10 5 (by decide) rfl) (sgo 90 rfl (by decide) (aL rfl h67) (bA rfl rfl (sg (aN (v := .bool (decide (((aT r.tasks 5).length : Int) = 0))) ((rfl : _ = (.bool (decide (r.state = 1)) : Value)).trans (congrArg Value.bool h67)) rfl (sg (aB (v := .bool (decide (((aT r.tasks 5).length : Int) = 0))) rfl (sgo 94 rfl (by decide) (aL rfl h53) (aB (v := I ((aT r.tasks 6).length : Int)) (hv43 11 6 (by decide) rfl) (sgo 94 rfl (by decide) (aL rfl h53) (bA rfl rfl (sg (aN (v := .bool (decide (((aT r.tasks 6).length : Int) = 0))) ((rfl : _ = (.bool (decide (((aT r.tasks 5).length : Int) = 0)) : Value)).trans (congrArg Value.bool h53)) rfl (sg (aD (v := .bool (decide (((aT r.tasks 6).length : Int) = 0))) rfl (aE ?_))))))))))))))))
                      rcases bd (decide (((aT r.tasks 6).length : Int) = 0)) with h69 | h69
                      · have h69p := of_decide_eq_false h69
                        refine wp_ret ?_; repeat first|refine aH ?_|refine aI ?_
                        refine aW Tryz.results97 ((rfl : _ = (.bool (decide (((aT r.tasks 6).length : Int) = 0)) : Value)).trans (congrArg Value.bool h69)) ?_
                        have st70 := St.call st41 (St.start W40)
                        exact ⟨(congrArg (fun z => Ending.returned (.bool z)) (by unfold dY; rw [dO (by rintro ⟨hz1, hz2, hz3, hz4, hz5, hz6⟩; omega)])), st70.bare⟩
                      · have h69p := of_decide_eq_true h69
                        refine wp_ret ?_; repeat first|refine aH ?_|refine aI ?_
                        refine aW Tryz.results97 ((rfl : _ = (.bool (decide (((aT r.tasks 6).length : Int) = 0)) : Value)).trans (congrArg Value.bool h69)) ?_
                        have st71 := St.call st41 (St.start W40)
                        exact ⟨(congrArg (fun z => Ending.returned (.bool z)) (by unfold dY; rw [gU ⟨by omega, by omega, by omega, hTk, by omega, by omega⟩])), st71.bare⟩
            · have h52p := of_decide_eq_true h52
              refine sgo 68 rfl (by decide) (aL rfl h52) (aB (v := .bool (decide (((((aT r.tasks 4).length : Int) + ((aT r.tasks 5).length : Int)) + ((aT r.tasks 6).length : Int)) = (r.tasks.length : Int)))) rfl (sg (aN (v := .bool (decide (((((aT r.tasks 4).length : Int) + ((aT r.tasks 5).length : Int)) + ((aT r.tasks 6).length : Int)) = (r.tasks.length : Int)))) ((rfl : _ = (.bool (decide (((aT r.tasks 5).length : Int) = 1)) : Value)).trans (congrArg Value.bool h52)) rfl (sg (aD (v := .bool (decide (((((aT r.tasks 4).length : Int) + ((aT r.tasks 5).length : Int)) + ((aT r.tasks 6).length : Int)) = (r.tasks.length : Int)))) rfl (aE (aR rfl (fun h72 => ?_) (fun h72 => ?_))))))))
              · have h72p := of_decide_eq_true h72
                refine wp_seq (aA (sg (aC eO ((hf44 1 rfl).trans hs23_1) (sg (aK aJ rfl rfl (cD (st41.get 0 rfl)) (Below.refl _ _) (i := 6) rfl rfl (sg (bA rfl rfl (sg (aD (v := .bool (decide (r.state = 3))) rfl (aE ?_))))))))))
                rcases bd (decide (r.state = 3)) with h73 | h73
                · have h73p := of_decide_eq_false h73
                  refine wp_ret ?_; repeat first|refine aH ?_|refine aI ?_
                  refine aW Tryz.results97 ((rfl : _ = (.bool (decide (r.state = 3)) : Value)).trans (congrArg Value.bool h73)) ?_
                  have st74 := St.call st41 (St.start W40)
                  exact ⟨(congrArg (fun z => Ending.returned (.bool z)) (by unfold dY; rw [dO (by rintro ⟨hz1, hz2, hz3, hz4, hz5, hz6⟩; omega)])), st74.bare⟩
                · have h73p := of_decide_eq_true h73
                  refine wp_ret ?_; repeat first|refine aH ?_|refine aI ?_
                  refine aW Tryz.results97 ((rfl : _ = (.bool (decide (r.state = 3)) : Value)).trans (congrArg Value.bool h73)) ?_
                  have st75 := St.call st41 (St.start W40)
                  exact ⟨(congrArg (fun z => Ending.returned (.bool z)) (by unfold dY; rw [gU ⟨by omega, by omega, by omega, hTk, by omega, by omega⟩])), st75.bare⟩
              · have h72p := of_decide_eq_false h72
                refine wp_seq (aA (sg (aB (v := I ((aT r.tasks 5).length : Int)) (hv43 10 5 (by decide) rfl) (sg (bA rfl rfl (sg (aB (v := .bool (decide (((aT r.tasks 5).length : Int) = 0))) rfl ?_)))))))
                rcases bd (decide (((aT r.tasks 5).length : Int) = 0)) with h76 | h76
                · have h76p := of_decide_eq_false h76
                  iterate 2 refine sgf 77 rfl (by decide) (bF rfl h76) ?_
                  refine sg (aO (v := .bool false) ((rfl : _ = (.bool (decide (((aT r.tasks 5).length : Int) = 0)) : Value)).trans (congrArg Value.bool h76)) rfl (sg (aB (v := .bool false) rfl (sgf 81 rfl (by decide) (bF rfl rfl) (sg (aO (v := .bool false) rfl rfl (sg (aD (v := .bool false) rfl (aE (gX rfl rfl (wp_skip (wp_seq (aA (sg (aC eO ((hf44 1 rfl).trans hs23_1) (sg (aK aJ rfl rfl (cD (st41.get 0 rfl)) (Below.refl _ _) (i := 6) rfl rfl ?_)))))))))))))))))
                  refine sg (bA rfl rfl (sg (aB (v := .bool (decide (r.state = 1))) rfl ?_)))
                  rcases bd (decide (r.state = 1)) with h77 | h77
                  · have h77p := of_decide_eq_false h77
                    iterate 2 refine sgf 90 rfl (by decide) (bF rfl h77) ?_
                    refine sg (aO (v := .bool false) ((rfl : _ = (.bool (decide (r.state = 1)) : Value)).trans (congrArg Value.bool h77)) rfl (sg (aB (v := .bool false) rfl ?_)))
                    iterate 2 refine sgf 94 rfl (by decide) (bF rfl rfl) ?_
                    refine sg (aO (v := .bool false) rfl rfl (sg (aD (v := .bool false) rfl (aE (wp_ret ?_))))); repeat first|refine aH ?_|refine aI ?_
                    refine aW Tryz.results97 rfl ?_
                    have st78 := St.call st41 (St.start W40)
                    exact ⟨(congrArg (fun z => Ending.returned (.bool z)) (by unfold dY; rw [dO (by rintro ⟨hz1, hz2, hz3, hz4, hz5, hz6⟩; omega)])), st78.bare⟩
                  · have h77p := of_decide_eq_true h77
                    refine sgo 90 rfl (by decide) (aL rfl h77) (aB (v := I ((aT r.tasks 5).length : Int)) (hv43 10 5 (by decide) rfl) (sgo 90 rfl (by decide) (aL rfl h77) (bA rfl rfl (sg (aN (v := .bool (decide (((aT r.tasks 5).length : Int) = 0))) ((rfl : _ = (.bool (decide (r.state = 1)) : Value)).trans (congrArg Value.bool h77)) rfl (sg (aB (v := .bool (decide (((aT r.tasks 5).length : Int) = 0))) rfl ?_)))))))
                    iterate 2 refine sgf 94 rfl (by decide) (bF rfl h76) ?_
                    refine sg (aO (v := .bool false) ((rfl : _ = (.bool (decide (((aT r.tasks 5).length : Int) = 0)) : Value)).trans (congrArg Value.bool h76)) rfl (sg (aD (v := .bool false) rfl (aE (wp_ret ?_))))); repeat first|refine aH ?_|refine aI ?_
                    refine aW Tryz.results97 rfl ?_
                    have st79 := St.call st41 (St.start W40)
                    exact ⟨(congrArg (fun z => Ending.returned (.bool z)) (by unfold dY; rw [dO (by rintro ⟨hz1, hz2, hz3, hz4, hz5, hz6⟩; omega)])), st79.bare⟩
                · have h76p := of_decide_eq_true h76
                  refine sgo 77 rfl (by decide) (aL rfl h76) (aB (v := I ((aT r.tasks 6).length : Int)) (hv43 11 6 (by decide) rfl) (sgo 77 rfl (by decide) (aL rfl h76) (fV rfl rfl (sg (aN (v := .bool (decide (0 < ((aT r.tasks 6).length : Int)))) ((rfl : _ = (.bool (decide (((aT r.tasks 5).length : Int) = 0)) : Value)).trans (congrArg Value.bool h76)) rfl (sg (aB (v := .bool (decide (0 < ((aT r.tasks 6).length : Int)))) rfl ?_)))))))
                  rcases bd (decide (0 < ((aT r.tasks 6).length : Int))) with h80 | h80
                  · have h80p := of_decide_eq_false h80
                    refine sgf 81 rfl (by decide) (bF rfl h80) (sg (aO (v := .bool false) ((rfl : _ = (.bool (decide (0 < ((aT r.tasks 6).length : Int))) : Value)).trans (congrArg Value.bool h80)) rfl (sg (aD (v := .bool false) rfl (aE (gX rfl rfl (wp_skip (wp_seq (aA (sg (aC eO ((hf44 1 rfl).trans hs23_1) (sg (aK aJ rfl rfl (cD (st41.get 0 rfl)) (Below.refl _ _) (i := 6) rfl rfl (sg (bA rfl rfl (sg (aB (v := .bool (decide (r.state = 1))) rfl ?_)))))))))))))))))
                    rcases bd (decide (r.state = 1)) with h81 | h81
                    · have h81p := of_decide_eq_false h81
                      iterate 2 refine sgf 90 rfl (by decide) (bF rfl h81) ?_
                      refine sg (aO (v := .bool false) ((rfl : _ = (.bool (decide (r.state = 1)) : Value)).trans (congrArg Value.bool h81)) rfl (sg (aB (v := .bool false) rfl ?_)))
                      iterate 2 refine sgf 94 rfl (by decide) (bF rfl rfl) ?_
                      refine sg (aO (v := .bool false) rfl rfl (sg (aD (v := .bool false) rfl (aE (wp_ret ?_))))); repeat first|refine aH ?_|refine aI ?_
                      refine aW Tryz.results97 rfl ?_
                      have st82 := St.call st41 (St.start W40)
                      exact ⟨(congrArg (fun z => Ending.returned (.bool z)) (by unfold dY; rw [dO (by rintro ⟨hz1, hz2, hz3, hz4, hz5, hz6⟩; omega)])), st82.bare⟩
                    · have h81p := of_decide_eq_true h81
                      refine sgo 90 rfl (by decide) (aL rfl h81) (aB (v := I ((aT r.tasks 5).length : Int)) (hv43 10 5 (by decide) rfl) (sgo 90 rfl (by decide) (aL rfl h81) (bA rfl rfl (sg (aN (v := .bool (decide (((aT r.tasks 5).length : Int) = 0))) ((rfl : _ = (.bool (decide (r.state = 1)) : Value)).trans (congrArg Value.bool h81)) rfl (sg (aB (v := .bool (decide (((aT r.tasks 5).length : Int) = 0))) rfl (sgo 94 rfl (by decide) (aL rfl h76) (aB (v := I ((aT r.tasks 6).length : Int)) (hv43 11 6 (by decide) rfl) (sgo 94 rfl (by decide) (aL rfl h76) (bA rfl rfl (sg (aN (v := .bool (decide (((aT r.tasks 6).length : Int) = 0))) ((rfl : _ = (.bool (decide (((aT r.tasks 5).length : Int) = 0)) : Value)).trans (congrArg Value.bool h76)) rfl (sg (aD (v := .bool (decide (((aT r.tasks 6).length : Int) = 0))) rfl (aE ?_))))))))))))))))
                      rcases bd (decide (((aT r.tasks 6).length : Int) = 0)) with h83 | h83
                      · have h83p := of_decide_eq_false h83
                        refine wp_ret ?_; repeat first|refine aH ?_|refine aI ?_
                        refine aW Tryz.results97 ((rfl : _ = (.bool (decide (((aT r.tasks 6).length : Int) = 0)) : Value)).trans (congrArg Value.bool h83)) ?_
                        have st84 := St.call st41 (St.start W40)
                        exact ⟨(congrArg (fun z => Ending.returned (.bool z)) (by unfold dY; rw [dO (by rintro ⟨hz1, hz2, hz3, hz4, hz5, hz6⟩; omega)])), st84.bare⟩
                      · have h83p := of_decide_eq_true h83
                        refine wp_ret ?_; repeat first|refine aH ?_|refine aI ?_
                        refine aW Tryz.results97 ((rfl : _ = (.bool (decide (((aT r.tasks 6).length : Int) = 0)) : Value)).trans (congrArg Value.bool h83)) ?_
                        have st85 := St.call st41 (St.start W40)
                        exact ⟨(congrArg (fun z => Ending.returned (.bool z)) (by unfold dY; rw [gU ⟨by omega, by omega, by omega, hTk, by omega, by omega⟩])), st85.bare⟩
                  · have h80p := of_decide_eq_true h80
                    refine sgo 81 rfl (by decide) (aL rfl h80) (aB (v := .bool (decide (((((aT r.tasks 4).length : Int) + ((aT r.tasks 5).length : Int)) + ((aT r.tasks 6).length : Int)) = (r.tasks.length : Int)))) rfl (sg (aN (v := .bool (decide (((((aT r.tasks 4).length : Int) + ((aT r.tasks 5).length : Int)) + ((aT r.tasks 6).length : Int)) = (r.tasks.length : Int)))) ((rfl : _ = (.bool (decide (0 < ((aT r.tasks 6).length : Int))) : Value)).trans (congrArg Value.bool h80)) rfl (sg (aD (v := .bool (decide (((((aT r.tasks 4).length : Int) + ((aT r.tasks 5).length : Int)) + ((aT r.tasks 6).length : Int)) = (r.tasks.length : Int)))) rfl (aE (gX rfl h72 (wp_skip (wp_seq (aA (sg (aC eO ((hf44 1 rfl).trans hs23_1) (sg (aK aJ rfl rfl (cD (st41.get 0 rfl)) (Below.refl _ _) (i := 6) rfl rfl (sg (bA rfl rfl (sg (aB (v := .bool (decide (r.state = 1))) rfl ?_))))))))))))))))))
                    rcases bd (decide (r.state = 1)) with h86 | h86
                    · have h86p := of_decide_eq_false h86
                      iterate 2 refine sgf 90 rfl (by decide) (bF rfl h86) ?_
                      refine sg (aO (v := .bool false) ((rfl : _ = (.bool (decide (r.state = 1)) : Value)).trans (congrArg Value.bool h86)) rfl (sg (aB (v := .bool false) rfl ?_)))
                      iterate 2 refine sgf 94 rfl (by decide) (bF rfl rfl) ?_
                      refine sg (aO (v := .bool false) rfl rfl (sg (aD (v := .bool false) rfl (aE (wp_ret ?_))))); repeat first|refine aH ?_|refine aI ?_
                      refine aW Tryz.results97 rfl ?_
                      have st87 := St.call st41 (St.start W40)
                      exact ⟨(congrArg (fun z => Ending.returned (.bool z)) (by unfold dY; rw [dO (by rintro ⟨hz1, hz2, hz3, hz4, hz5, hz6⟩; omega)])), st87.bare⟩
                    · have h86p := of_decide_eq_true h86
                      refine sgo 90 rfl (by decide) (aL rfl h86) (aB (v := I ((aT r.tasks 5).length : Int)) (hv43 10 5 (by decide) rfl) (sgo 90 rfl (by decide) (aL rfl h86) (bA rfl rfl (sg (aN (v := .bool (decide (((aT r.tasks 5).length : Int) = 0))) ((rfl : _ = (.bool (decide (r.state = 1)) : Value)).trans (congrArg Value.bool h86)) rfl (sg (aB (v := .bool (decide (((aT r.tasks 5).length : Int) = 0))) rfl (sgo 94 rfl (by decide) (aL rfl h76) (aB (v := I ((aT r.tasks 6).length : Int)) (hv43 11 6 (by decide) rfl) (sgo 94 rfl (by decide) (aL rfl h76) (bA rfl rfl (sg (aN (v := .bool (decide (((aT r.tasks 6).length : Int) = 0))) ((rfl : _ = (.bool (decide (((aT r.tasks 5).length : Int) = 0)) : Value)).trans (congrArg Value.bool h76)) rfl (sg (aD (v := .bool (decide (((aT r.tasks 6).length : Int) = 0))) rfl (aE ?_))))))))))))))))
                      rcases bd (decide (((aT r.tasks 6).length : Int) = 0)) with h88 | h88
                      · have h88p := of_decide_eq_false h88
                        refine wp_ret ?_; repeat first|refine aH ?_|refine aI ?_
                        refine aW Tryz.results97 ((rfl : _ = (.bool (decide (((aT r.tasks 6).length : Int) = 0)) : Value)).trans (congrArg Value.bool h88)) ?_
                        have st89 := St.call st41 (St.start W40)
                        exact ⟨(congrArg (fun z => Ending.returned (.bool z)) (by unfold dY; rw [dO (by rintro ⟨hz1, hz2, hz3, hz4, hz5, hz6⟩; omega)])), st89.bare⟩
                      · have h88p := of_decide_eq_true h88
                        refine wp_ret ?_; repeat first|refine aH ?_|refine aI ?_
                        refine aW Tryz.results97 ((rfl : _ = (.bool (decide (((aT r.tasks 6).length : Int) = 0)) : Value)).trans (congrArg Value.bool h88)) ?_
                        have st90 := St.call st41 (St.start W40)
                        exact ⟨(congrArg (fun z => Ending.returned (.bool z)) (by unfold dY; rw [gU ⟨by omega, by omega, by omega, hTk, by omega, by omega⟩])), st90.bare⟩
    · have h16p := of_decide_eq_false (aS h16)
      iterate 7 refine sgf 18 rfl (by decide) (bF rfl h16) ?_
      refine sg (aN (v := .bool true) ((rfl : _ = (.bool (!decide ((dC r.plan) = 0)) : Value)).trans (congrArg Value.bool h16)) rfl (aE (gV rfl rfl (wp_seq (aA (sg (aD (v := .bool false) rfl (aE (wp_ret ?_))))))))); repeat first|refine aH ?_|refine aI ?_
      refine aW Tryz.results97 rfl ?_
      exact ⟨(congrArg (fun z => Ending.returned (.bool z)) (by unfold dY; rw [dO (by rintro ⟨hz1, hz2, hz3, hz4, hz5, hz6⟩; omega)])), st14.bare⟩
  · have h11p := dN (aS h11)
    iterate 4 refine sgf 12 rfl (by decide) (bF rfl h11) ?_
    refine sg (aN (v := .bool true) ((rfl : _ = (.bool (!(inB r.id 1 9999)) : Value)).trans (congrArg Value.bool h11)) rfl (sg (aB (v := .bool true) rfl ?_)))
    iterate 7 refine sgf 18 rfl (by decide) (bF rfl rfl) ?_
    refine sg (aN (v := .bool true) rfl rfl (aE (gV rfl rfl (wp_seq (aA (sg (aD (v := .bool false) rfl (aE (wp_ret ?_))))))))); repeat first|refine aH ?_|refine aI ?_
    refine aW Tryz.results97 rfl ?_
    exact ⟨(congrArg (fun z => Ending.returned (.bool z)) (by unfold dY; rw [dO (by rintro ⟨hz1, hz2, hz3, hz4, hz5, hz6⟩; omega)])), st9.bare⟩
set_option maxHeartbeats 2000000 in
theorem TaskOkS (w : World) {r : Run} {cs : List Value} {fp : List Nat} (hc : Shape.C w cs r fp) {k : Nat} (hk : k < r.tasks.length) (hlen : (r.tasks.length : Int) = r.plan.tasks) (hP : dC r.plan = 0) (hs : 1 ≤ (r.tasks[k]'hk).state ∧ (r.tasks[k]'hk).state ≤ 6) :
    Calls Tryz.prog 156 #[.agg cs.toArray, I (k : Int)] w fun e w' => e = .returned (.bool (pB (cB r (jJ r (k : Int)) (r.tasks[k]'hk)))) ∧ St w w' [] := by
  have hcap : r.tasks.length ≤ 9223372036854775807 := by have h0 := hc; obtain ⟨v1, v2, f1, f2, h0, hok, h1, h2, hfp⟩ := h0; exact h2.len_le
  refine cF Tryz.func156 rfl Tryz.ntmps156 (by decide) (wp_seq (aA (sg (aQ (cs := cs) rfl (St.start w) ?_)))); intro b1 W2 hb3 st4
  refine sg (aD (v := .bool false) rfl (aE (wp_seq (aA (sg (aC bJ rfl ?_))))))
  have hk6 := hc
  obtain ⟨v6_0, v6_1, g6_0, g6_1, rfl, hok6, h6_0, h6_1, rfl⟩ := hk6
  refine sg (aF bM rfl rfl (st4.get 0 rfl) (i := 7) rfl rfl (sg (aB (v := I (k : Int)) rfl ?_)))
  have hif4d94 : k < r.tasks.length := (by omega)
  have hq_ := idx h6_1 (i := k) hif4d94
  obtain ⟨b7, o7, cs7, f7, hp7, hr7, hc7, hm7⟩ := hq_
  refine sg (aG bD rfl hp7 rfl rfl (sg (bY fJ rfl rfl hr7 st4.below (Shape.len hc7) (sg (bN jO st4 ?_))))); intro b8 W9 hb10 st11
  refine sg (bU (cs := cs7) fJ hc7 rfl rfl st11 rfl ?_); intro W13 st14
  refine aE (wp_seq (aA (sg (aD (v := I 0) rfl (aE (wp_seq (aA (sg (aC cQ rfl (sg (aU (cs := [I r.plan.prio, I r.plan.most, I r.plan.wait, I r.plan.tasks, v6_0]) fY rfl rfl (st14.get 1 rfl) rfl rfl (sg (aB (v := I (k : Int)) rfl ?_)))))))))))))
  have hq_ := qA hP
  obtain ⟨hM, hE, _, _⟩ := hq_
  have hMb := pM hM
  have hbeq : cT r.plan (k : Int) = (cW (cJ r.plan.edges (k : Int))) := by unfold cT; rw [if_pos hP]
  have hbl := lP r.plan (k : Int)
  rw [hbeq] at hbl
  refine sg (aZ Tryz.func214 rfl rfl rfl ((BeforeE W13 (show Shape.C _ [I r.plan.prio, I r.plan.most, I r.plan.wait, I r.plan.tasks, v6_0] r.plan _ from ⟨_, _, rfl, (by first | exact True.intro | (simp only [Edge.ok, Plan.ok, Entry.ok, Task.ok, Run.ok, Yard.ok, Reply.ok, Deed.ok, Note.ok, Wait.ok, File.ok, Disk.ok, Engine.ok, WorldD.ok, ActD.ok, Hand.ok, Span.ok, Crew.ok, View.ok, I64] at *; omega)), (h6_0.below st14.below), rfl⟩) (k : Int) (by omega) (by omega) hE).mono ?_)); rintro _ W17 ⟨v15, fp15, rfl, hk18⟩; refine ⟨_, rfl, ?_⟩
  have st19 := St.call st14 hk18
  refine sg (aD (v := v15) rfl (aE (wp_seq (wp_seq (aA (sg (aD (v := I 0) rfl (aE (wp_block (bH (fun (m : Nat) (f : Nat → Value) (W : World) => ∃ (i : Nat), i ≤ (cW (cJ r.plan.edges (k : Int))).length ∧ m = (cW (cJ r.plan.edges (k : Int))).length - i ∧ f 2 = .pointer (some ⟨b1, 0, none⟩) ∧ f 5 = .pointer (some ⟨b8, 0, none⟩) ∧ f 6 = I (cP r ((cW (cJ r.plan.edges (k : Int))).take i)) ∧ f 7 = v15 ∧ f 8 = I (i : Int) ∧ St w W ([Res.own (α := List Int) v15 (cW (cJ r.plan.edges (k : Int))) fp15, Res.bx b8 cs7 140, Res.bx b1 [I r.id, I r.plan.prio, I r.plan.most, I r.plan.wait, I r.plan.tasks, v6_0, I r.state, v6_1] 123])) ((cW (cJ r.plan.edges (k : Int))).length - 0) ?_ ?_))))))))))
  · exact ⟨0, (by omega), rfl, rfl, rfl, rfl, rfl, rfl, st19⟩
  intro m21 f22 W23 hJ24
  obtain ⟨i, hi, rfl, hs26_2, hs26_5, hs26_6, hs26_7, hs26_8, st25⟩ := hJ24
  have hnr := rB r ((cW (cJ r.plan.edges (k : Int))).take i)
  have htl := List.length_take_le i (cW (cJ r.plan.edges (k : Int)))
  refine wp_seq (wp_seq (aA (sg (aB (v := I (i : Int)) hs26_8 (sg (aB (v := v15) hs26_7 (sg (aV dF rfl (bC (st25.get 0 rfl)) (sg (aY rfl rfl (aE (aR rfl (fun h27 => ?_) (fun h27 => ?_)))))))))))))
  · have h27p := of_decide_eq_true h27
    refine wp_skip (wp_seq (wp_block (wp_seq ?_)))
    have hbr := rV r.plan (k : Int)
    rw [hbeq] at hbr
    have hbr := hbr _ (List.getElem_mem (l := (cW (cJ r.plan.edges (k : Int)))) (n := i) (by omega))
    have hi26b77 : i < (cW (cJ r.plan.edges (k : Int))).length := (by omega)
    have hq_ := idx (bC (st25.get 0 rfl)) (i := i) hi26b77
    obtain ⟨b28, o28, cs28, f28, hp28, hr28, hc28, hm28⟩ := hq_
    have hk28 := hc28
    obtain ⟨rfl, rfl, hok28⟩ := hk28
    have hib59be : (((cW (cJ r.plan.edges (k : Int)))[i]'hi26b77)).toNat < r.tasks.length := (by omega)
    have hq_ := idx h6_1 (i := (((cW (cJ r.plan.edges (k : Int)))[i]'hi26b77)).toNat) hib59be
    obtain ⟨b29, o29, cs29, f29, hp29, hr29, hc29, hm29⟩ := hq_
    have hk30 := hc29
    obtain ⟨he30, rfl, hok30⟩ := hk30
    have he30 : _ = [I (r.tasks[(((cW (cJ r.plan.edges (k : Int)))[i]'hi26b77)).toNat]'hib59be).state, I (r.tasks[(((cW (cJ r.plan.edges (k : Int)))[i]'hi26b77)).toNat]'hib59be).need, I (r.tasks[(((cW (cJ r.plan.edges (k : Int)))[i]'hi26b77)).toNat]'hib59be).try_, I (r.tasks[(((cW (cJ r.plan.edges (k : Int)))[i]'hi26b77)).toNat]'hib59be).until_] := he30
    subst he30
    refine dI [Pl.is (.pointer (some ⟨b1, 0 + 7, none⟩)), Pl.is (v6_1) (Sl.yl h6_1), Pl.is (v15) (Sl.yl (bC (st25.get 0 rfl))), Pl.is (I (i : Int)), Pl.is (.pointer (some ⟨b28, o28, none⟩)), Pl.is (I ((cW (cJ r.plan.edges (k : Int)))[i]'hi26b77)), Pl.is (.pointer (some ⟨b29, o29, none⟩)), Pl.is (.pointer (some ⟨b29, o29 + 0, none⟩)), Pl.is (I (r.tasks[(((cW (cJ r.plan.edges (k : Int)))[i]'hi26b77)).toNat]'hib59be).state), Pl.bool (!decide ((r.tasks[(((cW (cJ r.plan.edges (k : Int)))[i]'hi26b77)).toNat]'hib59be).state = 4))] mix (by rfl) st25 ⟨(fun f W hst hbl hd hf => aC bJ ((hf 2 rfl).trans hs26_2) brq), (fun f W hst hbl hd hf => aF bM rfl (hd 0 24 rfl rfl) (hst.get 2 rfl) (i := 7) rfl rfl brq), (fun f W hst hbl hd hf => aB (v := v15) ((hf 7 rfl).trans hs26_7) brq), (fun f W hst hbl hd hf => aB (v := I (i : Int)) ((hf 8 rfl).trans hs26_8) brq), (fun f W hst hbl hd hf => aG dF (hd 2 26 rfl rfl) hp28 (hd 3 27 rfl rfl) rfl brq), (fun f W hst hbl hd hf => aK aJ rfl (hd 4 28 rfl rfl) hr28 hbl (i := 0) rfl rfl brq), (fun f W hst hbl hd hf => aG bD (hd 1 25 rfl rfl) hp29 (hd 5 29 rfl rfl) (by omega) brq), (fun f W hst hbl hd hf => aC bP (hd 6 30 rfl rfl) brq), (fun f W hst hbl hd hf => aK aJ rfl (hd 7 31 rfl rfl) hr29 hst.below (i := 0) rfl rfl brq), (fun f W hst hbl hd hf => bL (hd 8 32 rfl rfl) rfl brq), trivial⟩ ?_
    intro f31 W32 st33 hb34 hv35 hf36
    refine aR (hv35 9 33 (by decide) rfl) (fun h37 => ?_) (fun h37 => ?_)
    · have h37p := of_decide_eq_false (aS h37)
      refine aA (sg (aB (v := I (cP r ((cW (cJ r.plan.edges (k : Int))).take i))) ((hf36 6 rfl).trans hs26_6) (sg (aP rfl rfl (by (simp only [I64] at *; omega)) (sg (aD (v := I ((cP r ((cW (cJ r.plan.edges (k : Int))).take i)) + 1)) rfl (aE (aA (sg (aB (v := I (i : Int)) ((hf36 8 rfl).trans hs26_8) (sg (aP rfl rfl (by (simp only [I64] at *; omega)) (sg (aD (v := I ((i : Int) + 1)) rfl (aE ?_)))))))))))))))
      exact ⟨_, (cW (cJ r.plan.edges (k : Int))).length - (i + 1), (by omega), rfl, i + 1, (by omega), rfl, ((hf36 2 rfl).trans hs26_2), ((hf36 5 rfl).trans hs26_5), (Eq.trans (show _ = I ((cP r ((cW (cJ r.plan.edges (k : Int))).take i)) + 1) from rfl) (congrArg I (by rw [kC (by omega), nB (by omega)]; simp only [h37p, decide_true, decide_false, Bool.false_eq_true, if_true, if_false]; try omega))), ((hf36 7 rfl).trans hs26_7), rfl, st33⟩
    · have h37p := of_decide_eq_true (aX h37)
      refine wp_skip (aA (sg (aB (v := I (i : Int)) ((hf36 8 rfl).trans hs26_8) (sg (aP rfl rfl (by (simp only [I64] at *; omega)) (sg (aD (v := I ((i : Int) + 1)) rfl (aE ?_))))))))
      exact ⟨_, (cW (cJ r.plan.edges (k : Int))).length - (i + 1), (by omega), rfl, i + 1, (by omega), rfl, ((hf36 2 rfl).trans hs26_2), ((hf36 5 rfl).trans hs26_5), (Eq.trans (show _ = I (cP r ((cW (cJ r.plan.edges (k : Int))).take i)) from ((hf36 6 rfl).trans hs26_6)) (congrArg I (by rw [kC (by omega), nB (by omega)]; simp only [h37p, decide_true, decide_false, Bool.false_eq_true, if_true, if_false]; try omega))), ((hf36 7 rfl).trans hs26_7), rfl, st33⟩
  · have h27p := of_decide_eq_false h27
    refine wp_exit (wp_seq (wp_seq (aA ?_)))
    have hneed : jJ r (k : Int) = cP r ((cW (cJ r.plan.edges (k : Int))).take i) := by unfold jJ; rw [hbeq, show i = (cW (cJ r.plan.edges (k : Int))).length by omega, List.take_length]
    refine sg (aC fF hs26_5 ?_)
    have hk38 := hc7
    obtain ⟨he38, rfl, hok38⟩ := hk38
    have he38 : _ = [I (r.tasks[k]'hif4d94).state, I (r.tasks[k]'hif4d94).need, I (r.tasks[k]'hif4d94).try_, I (r.tasks[k]'hif4d94).until_] := he38
    subst he38
    refine sg (aF aJ rfl rfl (st25.get 1 rfl) (i := 1) rfl rfl (sg (aB (v := I (cP r ((cW (cJ r.plan.edges (k : Int))).take i))) hs26_6 (sg (bL rfl rfl (sg (aB (v := .bool (!decide ((r.tasks[k]'hif4d94).need = (cP r ((cW (cJ r.plan.edges (k : Int))).take i))))) rfl ?_)))))))
    rcases bd (!decide ((r.tasks[k]'hif4d94).need = (cP r ((cW (cJ r.plan.edges (k : Int))).take i)))) with h39 | h39
    · have h39p := of_decide_eq_true (aX h39)
      refine sgo 40 rfl (by decide) (aL rfl h39) (aC eD hs26_5 (sgo 40 rfl (by decide) (aL rfl h39) (aF aJ rfl rfl (st25.get 1 rfl) (i := 2) rfl rfl (sgo 40 rfl (by decide) (aL rfl h39) (aC cQ hs26_2 (sgo 40 rfl (by decide) (aL rfl h39) (aC fG rfl (sgo 40 rfl (by decide) (aL rfl h39) (aF aJ rfl rfl (st25.get 2 rfl) (i := 2) rfl rfl (sgo 40 rfl (by decide) (aL rfl h39) (bS Tryz.func43 rfl rfl rfl rfl ((fK W23 (r.tasks[k]'hif4d94).try_ 0 r.plan.most).mono ?_)))))))))))); rintro _ W40 ⟨rfl, hk41⟩; refine ⟨_, rfl, ?_⟩
      have st42 := St.call st25 hk41
      refine sgo 40 rfl (by decide) (aL rfl h39) (bO rfl (sg (aO (v := .bool (!(inB (r.tasks[k]'hif4d94).try_ 0 r.plan.most))) ((rfl : _ = (.bool (!decide ((r.tasks[k]'hif4d94).need = (cP r ((cW (cJ r.plan.edges (k : Int))).take i)))) : Value)).trans (congrArg Value.bool h39)) rfl (aE (aR rfl (fun h44 => ?_) (fun h44 => ?_))))))
      · have h44p := dN (aS h44)
        refine wp_seq (aA (sg (aD (v := .bool false) rfl (aE (wp_ret ?_))))); repeat first|refine aH ?_|refine aI ?_
        refine aW Tryz.results156 rfl ?_
        exact ⟨(congrArg (fun z => Ending.returned (.bool z)) (by rw [dO (by unfold cB; omega)])), st42.bare⟩
      · have h44p := inB_iff'.1 (aX h44)
        refine wp_skip (wp_seq (wp_seq (aA (sg (aC bP hs26_5 (sg (aF aJ rfl rfl (st42.get 1 rfl) (i := 0) rfl rfl (sg (bA rfl rfl (sg (aB (v := .bool (decide ((r.tasks[k]'hif4d94).state = 3))) rfl ?_)))))))))))
        rcases bd (decide ((r.tasks[k]'hif4d94).state = 3)) with h45 | h45
        · have h45p := of_decide_eq_false h45
          iterate 4 refine sgf 52 rfl (by decide) (bF rfl h45) ?_
          refine sg (aO (v := .bool false) ((rfl : _ = (.bool (decide ((r.tasks[k]'hif4d94).state = 3)) : Value)).trans (congrArg Value.bool h45)) rfl (sg (aB (v := .bool false) rfl (sgo 58 rfl (by decide) (aL rfl rfl) (aC bP hs26_5 (sgo 58 rfl (by decide) (aL rfl rfl) (aF aJ rfl rfl (st42.get 1 rfl) (i := 0) rfl rfl (sgo 58 rfl (by decide) (aL rfl rfl) (bL rfl rfl (sgo 58 rfl (by decide) (aL rfl rfl) (aB (v := .bool (!decide ((r.tasks[k]'hif4d94).state = 3))) rfl (sgo 62 rfl (by decide) (aL rfl (congrArg not h45)) (aC eT hs26_5 (sgo 62 rfl (by decide) (aL rfl (congrArg not h45)) (aF aJ rfl rfl (st42.get 1 rfl) (i := 3) rfl rfl (sgo 62 rfl (by decide) (aL rfl (congrArg not h45)) (bL rfl rfl (sgo 58 rfl (by decide) (aL rfl rfl) (aN (v := .bool (!decide ((r.tasks[k]'hif4d94).until_ = 0))) ((rfl : _ = (.bool (!decide ((r.tasks[k]'hif4d94).state = 3)) : Value)).trans (congrArg Value.bool (congrArg not h45))) rfl (sg (aO (v := .bool (!decide ((r.tasks[k]'hif4d94).until_ = 0))) rfl rfl (aE ?_))))))))))))))))))))))
          refine aR rfl (fun h46 => ?_) (fun h46 => ?_)
          · have h46p := of_decide_eq_false (aS h46)
            refine wp_seq (aA (sg (aD (v := .bool false) rfl (aE (wp_ret ?_))))); repeat first|refine aH ?_|refine aI ?_
            refine aW Tryz.results156 rfl ?_
            exact ⟨(congrArg (fun z => Ending.returned (.bool z)) (by rw [dO (by unfold cB; omega)])), st42.bare⟩
          · have h46p := of_decide_eq_true (aX h46)
            refine wp_skip (wp_seq (wp_seq (aA (sg (aC bP hs26_5 (sg (aF aJ rfl rfl (st42.get 1 rfl) (i := 0) rfl rfl (aE (wp_block (wp_seq (aA (sg (bA rfl rfl (sg (aD (v := .bool (decide ((r.tasks[k]'hif4d94).state = 1))) rfl ?_)))))))))))))))
            refine aE (aR rfl (fun h47 => ?_) (fun h47 => ?_))
            · have h47p := of_decide_eq_true h47
              refine wp_seq (aA (sg (aB (v := I (cP r ((cW (cJ r.plan.edges (k : Int))).take i))) hs26_6 (sg (fV rfl rfl (sg (aD (v := .bool (decide (0 < (cP r ((cW (cJ r.plan.edges (k : Int))).take i))))) rfl (aE ?_))))))))
              rcases bd (decide (0 < (cP r ((cW (cJ r.plan.edges (k : Int))).take i)))) with h48 | h48
              · have h48p := of_decide_eq_false h48
                refine wp_ret ?_; repeat first|refine aH ?_|refine aI ?_
                refine aW Tryz.results156 ((rfl : _ = (.bool (decide (0 < (cP r ((cW (cJ r.plan.edges (k : Int))).take i)))) : Value)).trans (congrArg Value.bool h48)) ?_
                exact ⟨(congrArg (fun z => Ending.returned (.bool z)) (by rw [dO (by unfold cB; omega)])), st42.bare⟩
              · have h48p := of_decide_eq_true h48
                refine wp_ret ?_; repeat first|refine aH ?_|refine aI ?_
                refine aW Tryz.results156 ((rfl : _ = (.bool (decide (0 < (cP r ((cW (cJ r.plan.edges (k : Int))).take i)))) : Value)).trans (congrArg Value.bool h48)) ?_
                exact ⟨(congrArg (fun z => Ending.returned (.bool z)) (by rw [gU (by unfold cB; omega)])), st42.bare⟩
            · have h47p := of_decide_eq_false h47
              refine wp_seq (aA (sg (bA rfl rfl (sg (aD (v := .bool (decide ((r.tasks[k]'hif4d94).state = 2))) rfl (aE (aR rfl (fun h49 => ?_) (fun h49 => ?_))))))))
              · have h49p := of_decide_eq_true h49
                refine wp_seq (aA (sg (aB (v := I (cP r ((cW (cJ r.plan.edges (k : Int))).take i))) hs26_6 (sg (bA rfl rfl (sg (aB (v := .bool (decide ((cP r ((cW (cJ r.plan.edges (k : Int))).take i)) = 0))) rfl ?_)))))))
                rcases bd (decide ((cP r ((cW (cJ r.plan.edges (k : Int))).take i)) = 0)) with h50 | h50
                · have h50p := of_decide_eq_false h50
                  iterate 6 refine sgf 78 rfl (by decide) (bF rfl h50) ?_
                  refine sg (aO (v := .bool false) ((rfl : _ = (.bool (decide ((cP r ((cW (cJ r.plan.edges (k : Int))).take i)) = 0)) : Value)).trans (congrArg Value.bool h50)) rfl (sg (aD (v := .bool false) rfl (aE (wp_ret ?_))))); repeat first|refine aH ?_|refine aI ?_
                  refine aW Tryz.results156 rfl ?_
                  exact ⟨(congrArg (fun z => Ending.returned (.bool z)) (by rw [dO (by unfold cB; omega)])), st42.bare⟩
                · have h50p := of_decide_eq_true h50
                  refine sgo 78 rfl (by decide) (aL rfl h50) (aC eD hs26_5 (sgo 78 rfl (by decide) (aL rfl h50) (aF aJ rfl rfl (st42.get 1 rfl) (i := 2) rfl rfl (sgo 78 rfl (by decide) (aL rfl h50) (aC cQ hs26_2 (sgo 78 rfl (by decide) (aL rfl h50) (aC fG rfl (sgo 78 rfl (by decide) (aL rfl h50) (aF aJ rfl rfl (st42.get 2 rfl) (i := 2) rfl rfl (sgo 78 rfl (by decide) (aL rfl h50) (aY rfl rfl (sg (aN (v := .bool (decide ((r.tasks[k]'hif4d94).try_ < r.plan.most))) ((rfl : _ = (.bool (decide ((cP r ((cW (cJ r.plan.edges (k : Int))).take i)) = 0)) : Value)).trans (congrArg Value.bool h50)) rfl (sg (aD (v := .bool (decide ((r.tasks[k]'hif4d94).try_ < r.plan.most))) rfl (aE ?_))))))))))))))))
                  rcases bd (decide ((r.tasks[k]'hif4d94).try_ < r.plan.most)) with h51 | h51
                  · have h51p := of_decide_eq_false h51
                    refine wp_ret ?_; repeat first|refine aH ?_|refine aI ?_
                    refine aW Tryz.results156 ((rfl : _ = (.bool (decide ((r.tasks[k]'hif4d94).try_ < r.plan.most)) : Value)).trans (congrArg Value.bool h51)) ?_
                    exact ⟨(congrArg (fun z => Ending.returned (.bool z)) (by rw [dO (by unfold cB; omega)])), st42.bare⟩
                  · have h51p := of_decide_eq_true h51
                    refine wp_ret ?_; repeat first|refine aH ?_|refine aI ?_
                    refine aW Tryz.results156 ((rfl : _ = (.bool (decide ((r.tasks[k]'hif4d94).try_ < r.plan.most)) : Value)).trans (congrArg Value.bool h51)) ?_
                    exact ⟨(congrArg (fun z => Ending.returned (.bool z)) (by rw [gU (by unfold cB; omega)])), st42.bare⟩
              · have h49p := of_decide_eq_false h49
                refine wp_seq (wp_seq (aA (sg (bA rfl rfl (sg (aD (v := .bool (decide ((r.tasks[k]'hif4d94).state = 3))) rfl (aE (gX rfl h45 (wp_seq (aA (sg (bA rfl rfl (sg (aD (v := .bool (decide ((r.tasks[k]'hif4d94).state = 4))) rfl (aE ?_)))))))))))))))
                refine aR rfl (fun h52 => ?_) (fun h52 => ?_)
                · have h52p := of_decide_eq_true h52
                  refine wp_skip (gV rfl h52 (wp_seq (aA (sg (aB (v := I (cP r ((cW (cJ r.plan.edges (k : Int))).take i))) hs26_6 (sg (bA rfl rfl (sg (aB (v := .bool (decide ((cP r ((cW (cJ r.plan.edges (k : Int))).take i)) = 0))) rfl ?_)))))))))
                  rcases bd (decide ((cP r ((cW (cJ r.plan.edges (k : Int))).take i)) = 0)) with h53 | h53
                  · have h53p := of_decide_eq_false h53
                    iterate 3 refine sgf 92 rfl (by decide) (bF rfl h53) ?_
                    refine sg (aO (v := .bool false) ((rfl : _ = (.bool (decide ((cP r ((cW (cJ r.plan.edges (k : Int))).take i)) = 0)) : Value)).trans (congrArg Value.bool h53)) rfl (sg (aD (v := .bool false) rfl (aE (wp_ret ?_))))); repeat first|refine aH ?_|refine aI ?_
                    refine aW Tryz.results156 rfl ?_
                    exact ⟨(congrArg (fun z => Ending.returned (.bool z)) (by rw [dO (by unfold cB; omega)])), st42.bare⟩
                  · have h53p := of_decide_eq_true h53
                    refine sgo 92 rfl (by decide) (aL rfl h53) (aC eD hs26_5 (sgo 92 rfl (by decide) (aL rfl h53) (aF aJ rfl rfl (st42.get 1 rfl) (i := 2) rfl rfl (sgo 92 rfl (by decide) (aL rfl h53) (gT rfl rfl (sg (aN (v := .bool (decide (1 ≤ (r.tasks[k]'hif4d94).try_))) ((rfl : _ = (.bool (decide ((cP r ((cW (cJ r.plan.edges (k : Int))).take i)) = 0)) : Value)).trans (congrArg Value.bool h53)) rfl (sg (aD (v := .bool (decide (1 ≤ (r.tasks[k]'hif4d94).try_))) rfl (aE ?_))))))))))
                    rcases bd (decide (1 ≤ (r.tasks[k]'hif4d94).try_)) with h54 | h54
                    · have h54p := of_decide_eq_false h54
                      refine wp_ret ?_; repeat first|refine aH ?_|refine aI ?_
                      refine aW Tryz.results156 ((rfl : _ = (.bool (decide (1 ≤ (r.tasks[k]'hif4d94).try_)) : Value)).trans (congrArg Value.bool h54)) ?_
                      exact ⟨(congrArg (fun z => Ending.returned (.bool z)) (by rw [dO (by unfold cB; omega)])), st42.bare⟩
                    · have h54p := of_decide_eq_true h54
                      refine wp_ret ?_; repeat first|refine aH ?_|refine aI ?_
                      refine aW Tryz.results156 ((rfl : _ = (.bool (decide (1 ≤ (r.tasks[k]'hif4d94).try_)) : Value)).trans (congrArg Value.bool h54)) ?_
                      exact ⟨(congrArg (fun z => Ending.returned (.bool z)) (by rw [gU (by unfold cB; omega)])), st42.bare⟩
                · have h52p := of_decide_eq_false h52
                  refine aA (sg (bA rfl rfl (sg (aD (v := .bool (decide ((r.tasks[k]'hif4d94).state = 5))) rfl (aE (aR rfl (fun h55 => ?_) (fun h55 => ?_)))))))
                  · have h55p := of_decide_eq_true h55
                    refine wp_seq (aA (sg (aB (v := I (cP r ((cW (cJ r.plan.edges (k : Int))).take i))) hs26_6 (sg (bA rfl rfl (sg (aB (v := .bool (decide ((cP r ((cW (cJ r.plan.edges (k : Int))).take i)) = 0))) rfl ?_)))))))
                    rcases bd (decide ((cP r ((cW (cJ r.plan.edges (k : Int))).take i)) = 0)) with h56 | h56
                    · have h56p := of_decide_eq_false h56
                      iterate 3 refine sgf 92 rfl (by decide) (bF rfl h56) ?_
                      refine sg (aO (v := .bool false) ((rfl : _ = (.bool (decide ((cP r ((cW (cJ r.plan.edges (k : Int))).take i)) = 0)) : Value)).trans (congrArg Value.bool h56)) rfl (sg (aD (v := .bool false) rfl (aE (wp_ret ?_))))); repeat first|refine aH ?_|refine aI ?_
                      refine aW Tryz.results156 rfl ?_
                      exact ⟨(congrArg (fun z => Ending.returned (.bool z)) (by rw [dO (by unfold cB; omega)])), st42.bare⟩
                    · have h56p := of_decide_eq_true h56
                      refine sgo 92 rfl (by decide) (aL rfl h56) (aC eD hs26_5 (sgo 92 rfl (by decide) (aL rfl h56) (aF aJ rfl rfl (st42.get 1 rfl) (i := 2) rfl rfl (sgo 92 rfl (by decide) (aL rfl h56) (gT rfl rfl (sg (aN (v := .bool (decide (1 ≤ (r.tasks[k]'hif4d94).try_))) ((rfl : _ = (.bool (decide ((cP r ((cW (cJ r.plan.edges (k : Int))).take i)) = 0)) : Value)).trans (congrArg Value.bool h56)) rfl (sg (aD (v := .bool (decide (1 ≤ (r.tasks[k]'hif4d94).try_))) rfl (aE ?_))))))))))
                      rcases bd (decide (1 ≤ (r.tasks[k]'hif4d94).try_)) with h57 | h57
                      · have h57p := of_decide_eq_false h57
                        refine wp_ret ?_; repeat first|refine aH ?_|refine aI ?_
                        refine aW Tryz.results156 ((rfl : _ = (.bool (decide (1 ≤ (r.tasks[k]'hif4d94).try_)) : Value)).trans (congrArg Value.bool h57)) ?_
                        exact ⟨(congrArg (fun z => Ending.returned (.bool z)) (by rw [dO (by unfold cB; omega)])), st42.bare⟩
                      · have h57p := of_decide_eq_true h57
                        refine wp_ret ?_; repeat first|refine aH ?_|refine aI ?_
                        refine aW Tryz.results156 ((rfl : _ = (.bool (decide (1 ≤ (r.tasks[k]'hif4d94).try_)) : Value)).trans (congrArg Value.bool h57)) ?_
                        exact ⟨(congrArg (fun z => Ending.returned (.bool z)) (by rw [gU (by unfold cB; omega)])), st42.bare⟩
                  · have h55p := of_decide_eq_false h55
                    refine wp_skip (wp_seq (aA (sg (aC bP hs26_5 (sg (aF aJ rfl rfl (st42.get 1 rfl) (i := 0) rfl rfl (sg (bA rfl rfl (sg (aD (v := .bool (decide ((r.tasks[k]'hif4d94).state = 6))) rfl (aE ?_)))))))))))
                    rcases bd (decide ((r.tasks[k]'hif4d94).state = 6)) with h58 | h58
                    · have h58p := of_decide_eq_false h58
                      refine wp_ret ?_; repeat first|refine aH ?_|refine aI ?_
                      refine aW Tryz.results156 ((rfl : _ = (.bool (decide ((r.tasks[k]'hif4d94).state = 6)) : Value)).trans (congrArg Value.bool h58)) ?_
                      exact ⟨(congrArg (fun z => Ending.returned (.bool z)) (by rw [dO (by unfold cB; omega)])), st42.bare⟩
                    · have h58p := of_decide_eq_true h58
                      refine wp_ret ?_; repeat first|refine aH ?_|refine aI ?_
                      refine aW Tryz.results156 ((rfl : _ = (.bool (decide ((r.tasks[k]'hif4d94).state = 6)) : Value)).trans (congrArg Value.bool h58)) ?_
                      exact ⟨(congrArg (fun z => Ending.returned (.bool z)) (by rw [gU (by unfold cB; omega)])), st42.bare⟩
        · have h45p := of_decide_eq_true h45
          refine sgo 52 rfl (by decide) (aL rfl h45) (aC eT hs26_5 (sgo 52 rfl (by decide) (aL rfl h45) (aF aJ rfl rfl (st42.get 1 rfl) (i := 3) rfl rfl (sgo 52 rfl (by decide) (aL rfl h45) (bS Tryz.func43 rfl rfl rfl rfl ((fK W40 (r.tasks[k]'hif4d94).until_ 1 1000000000).mono ?_)))))); rintro _ W59 ⟨rfl, hk60⟩; refine ⟨_, rfl, ?_⟩
          have st61 := St.call st42 hk60
          refine sgo 52 rfl (by decide) (aL rfl h45) (bO rfl (sg (aN (v := .bool (!(inB (r.tasks[k]'hif4d94).until_ 1 1000000000))) ((rfl : _ = (.bool (decide ((r.tasks[k]'hif4d94).state = 3)) : Value)).trans (congrArg Value.bool h45)) rfl (sg (aB (v := .bool (!(inB (r.tasks[k]'hif4d94).until_ 1 1000000000))) rfl ?_)))))
          rcases bd (!(inB (r.tasks[k]'hif4d94).until_ 1 1000000000)) with h63 | h63
          · have h63p := inB_iff'.1 (aX h63)
            refine sgo 58 rfl (by decide) (aL rfl h63) (aC bP hs26_5 (sgo 58 rfl (by decide) (aL rfl h63) (aF aJ rfl rfl (st61.get 1 rfl) (i := 0) rfl rfl (sgo 58 rfl (by decide) (aL rfl h63) (bL rfl rfl (sgo 58 rfl (by decide) (aL rfl h63) (aB (v := .bool (!decide ((r.tasks[k]'hif4d94).state = 3))) rfl ?_)))))))
            iterate 3 refine sgf 62 rfl (by decide) (bF rfl (congrArg not h45)) ?_
            refine sgo 58 rfl (by decide) (aL rfl h63) (aO (v := .bool false) ((rfl : _ = (.bool (!decide ((r.tasks[k]'hif4d94).state = 3)) : Value)).trans (congrArg Value.bool (congrArg not h45))) rfl (sg (aO (v := .bool false) ((rfl : _ = (.bool (!(inB (r.tasks[k]'hif4d94).until_ 1 1000000000)) : Value)).trans (congrArg Value.bool h63)) rfl (aE (gX rfl rfl (wp_skip (wp_seq (wp_seq (aA (sg (aC bP hs26_5 (sg (aF aJ rfl rfl (st61.get 1 rfl) (i := 0) rfl rfl (aE (wp_block ?_)))))))))))))))
            refine wp_seq (aA (sg (bA rfl rfl (sg (aD (v := .bool (decide ((r.tasks[k]'hif4d94).state = 1))) rfl (aE (aR rfl (fun h64 => ?_) (fun h64 => ?_))))))))
            · have h64p := of_decide_eq_true h64
              refine wp_seq (aA (sg (aB (v := I (cP r ((cW (cJ r.plan.edges (k : Int))).take i))) hs26_6 (sg (fV rfl rfl (sg (aD (v := .bool (decide (0 < (cP r ((cW (cJ r.plan.edges (k : Int))).take i))))) rfl (aE ?_))))))))
              rcases bd (decide (0 < (cP r ((cW (cJ r.plan.edges (k : Int))).take i)))) with h65 | h65
              · have h65p := of_decide_eq_false h65
                refine wp_ret ?_; repeat first|refine aH ?_|refine aI ?_
                refine aW Tryz.results156 ((rfl : _ = (.bool (decide (0 < (cP r ((cW (cJ r.plan.edges (k : Int))).take i)))) : Value)).trans (congrArg Value.bool h65)) ?_
                exact ⟨(congrArg (fun z => Ending.returned (.bool z)) (by rw [dO (by unfold cB; omega)])), st61.bare⟩
              · have h65p := of_decide_eq_true h65
                refine wp_ret ?_; repeat first|refine aH ?_|refine aI ?_
                refine aW Tryz.results156 ((rfl : _ = (.bool (decide (0 < (cP r ((cW (cJ r.plan.edges (k : Int))).take i)))) : Value)).trans (congrArg Value.bool h65)) ?_
                exact ⟨(congrArg (fun z => Ending.returned (.bool z)) (by rw [gU (by unfold cB; omega)])), st61.bare⟩
            · have h64p := of_decide_eq_false h64
              refine wp_seq (aA (sg (bA rfl rfl (sg (aD (v := .bool (decide ((r.tasks[k]'hif4d94).state = 2))) rfl (aE (aR rfl (fun h66 => ?_) (fun h66 => ?_))))))))
              · have h66p := of_decide_eq_true h66
                refine wp_seq (aA (sg (aB (v := I (cP r ((cW (cJ r.plan.edges (k : Int))).take i))) hs26_6 (sg (bA rfl rfl (sg (aB (v := .bool (decide ((cP r ((cW (cJ r.plan.edges (k : Int))).take i)) = 0))) rfl ?_)))))))
                rcases bd (decide ((cP r ((cW (cJ r.plan.edges (k : Int))).take i)) = 0)) with h67 | h67
                · have h67p := of_decide_eq_false h67
                  iterate 6 refine sgf 78 rfl (by decide) (bF rfl h67) ?_
                  refine sg (aO (v := .bool false) ((rfl : _ = (.bool (decide ((cP r ((cW (cJ r.plan.edges (k : Int))).take i)) = 0)) : Value)).trans (congrArg Value.bool h67)) rfl (sg (aD (v := .bool false) rfl (aE (wp_ret ?_))))); repeat first|refine aH ?_|refine aI ?_
                  refine aW Tryz.results156 rfl ?_
                  exact ⟨(congrArg (fun z => Ending.returned (.bool z)) (by rw [dO (by unfold cB; omega)])), st61.bare⟩
                · have h67p := of_decide_eq_true h67
                  refine sgo 78 rfl (by decide) (aL rfl h67) (aC eD hs26_5 (sgo 78 rfl (by decide) (aL rfl h67) (aF aJ rfl rfl (st61.get 1 rfl) (i := 2) rfl rfl (sgo 78 rfl (by decide) (aL rfl h67) (aC cQ hs26_2 (sgo 78 rfl (by decide) (aL rfl h67) (aC fG rfl (sgo 78 rfl (by decide) (aL rfl h67) (aF aJ rfl rfl (st61.get 2 rfl) (i := 2) rfl rfl (sgo 78 rfl (by decide) (aL rfl h67) (aY rfl rfl (sg (aN (v := .bool (decide ((r.tasks[k]'hif4d94).try_ < r.plan.most))) ((rfl : _ = (.bool (decide ((cP r ((cW (cJ r.plan.edges (k : Int))).take i)) = 0)) : Value)).trans (congrArg Value.bool h67)) rfl (sg (aD (v := .bool (decide ((r.tasks[k]'hif4d94).try_ < r.plan.most))) rfl (aE ?_))))))))))))))))
                  rcases bd (decide ((r.tasks[k]'hif4d94).try_ < r.plan.most)) with h68 | h68
                  · have h68p := of_decide_eq_false h68
                    refine wp_ret ?_; repeat first|refine aH ?_|refine aI ?_
                    refine aW Tryz.results156 ((rfl : _ = (.bool (decide ((r.tasks[k]'hif4d94).try_ < r.plan.most)) : Value)).trans (congrArg Value.bool h68)) ?_
                    exact ⟨(congrArg (fun z => Ending.returned (.bool z)) (by rw [dO (by unfold cB; omega)])), st61.bare⟩
                  · have h68p := of_decide_eq_true h68
                    refine wp_ret ?_; repeat first|refine aH ?_|refine aI ?_
                    refine aW Tryz.results156 ((rfl : _ = (.bool (decide ((r.tasks[k]'hif4d94).try_ < r.plan.most)) : Value)).trans (congrArg Value.bool h68)) ?_
                    exact ⟨(congrArg (fun z => Ending.returned (.bool z)) (by rw [gU (by unfold cB; omega)])), st61.bare⟩
              · have h66p := of_decide_eq_false h66
                refine wp_seq (wp_seq (aA (sg (bA rfl rfl (sg (aD (v := .bool (decide ((r.tasks[k]'hif4d94).state = 3))) rfl (aE (gV rfl h45 (wp_skip (gV rfl h45 (wp_seq (aA (sg (aB (v := I (cP r ((cW (cJ r.plan.edges (k : Int))).take i))) hs26_6 ?_))))))))))))))
                refine sg (bA rfl rfl (sg (aB (v := .bool (decide ((cP r ((cW (cJ r.plan.edges (k : Int))).take i)) = 0))) rfl ?_)))
                rcases bd (decide ((cP r ((cW (cJ r.plan.edges (k : Int))).take i)) = 0)) with h69 | h69
                · have h69p := of_decide_eq_false h69
                  iterate 3 refine sgf 92 rfl (by decide) (bF rfl h69) ?_
                  refine sg (aO (v := .bool false) ((rfl : _ = (.bool (decide ((cP r ((cW (cJ r.plan.edges (k : Int))).take i)) = 0)) : Value)).trans (congrArg Value.bool h69)) rfl (sg (aD (v := .bool false) rfl (aE (wp_ret ?_))))); repeat first|refine aH ?_|refine aI ?_
                  refine aW Tryz.results156 rfl ?_
                  exact ⟨(congrArg (fun z => Ending.returned (.bool z)) (by rw [dO (by unfold cB; omega)])), st61.bare⟩
                · have h69p := of_decide_eq_true h69
                  refine sgo 92 rfl (by decide) (aL rfl h69) (aC eD hs26_5 (sgo 92 rfl (by decide) (aL rfl h69) (aF aJ rfl rfl (st61.get 1 rfl) (i := 2) rfl rfl (sgo 92 rfl (by decide) (aL rfl h69) (gT rfl rfl (sg (aN (v := .bool (decide (1 ≤ (r.tasks[k]'hif4d94).try_))) ((rfl : _ = (.bool (decide ((cP r ((cW (cJ r.plan.edges (k : Int))).take i)) = 0)) : Value)).trans (congrArg Value.bool h69)) rfl (sg (aD (v := .bool (decide (1 ≤ (r.tasks[k]'hif4d94).try_))) rfl (aE ?_))))))))))
                  rcases bd (decide (1 ≤ (r.tasks[k]'hif4d94).try_)) with h70 | h70
                  · have h70p := of_decide_eq_false h70
                    refine wp_ret ?_; repeat first|refine aH ?_|refine aI ?_
                    refine aW Tryz.results156 ((rfl : _ = (.bool (decide (1 ≤ (r.tasks[k]'hif4d94).try_)) : Value)).trans (congrArg Value.bool h70)) ?_
                    exact ⟨(congrArg (fun z => Ending.returned (.bool z)) (by rw [dO (by unfold cB; omega)])), st61.bare⟩
                  · have h70p := of_decide_eq_true h70
                    refine wp_ret ?_; repeat first|refine aH ?_|refine aI ?_
                    refine aW Tryz.results156 ((rfl : _ = (.bool (decide (1 ≤ (r.tasks[k]'hif4d94).try_)) : Value)).trans (congrArg Value.bool h70)) ?_
                    exact ⟨(congrArg (fun z => Ending.returned (.bool z)) (by rw [gU (by unfold cB; omega)])), st61.bare⟩
          · have h63p := dN (aS h63)
            iterate 4 refine sgf 58 rfl (by decide) (bF rfl h63) ?_
            iterate 3 refine nL rfl rfl (by decide) (pD rfl) ?_
            refine sgf 58 rfl (by decide) (bF rfl h63) (sg (aN (v := .bool true) ((rfl : _ = (.bool (!(inB (r.tasks[k]'hif4d94).until_ 1 1000000000)) : Value)).trans (congrArg Value.bool h63)) rfl (aE (gV rfl rfl (wp_seq (aA (sg (aD (v := .bool false) rfl (aE (wp_ret ?_)))))))))); repeat first|refine aH ?_|refine aI ?_
            refine aW Tryz.results156 rfl ?_
            exact ⟨(congrArg (fun z => Ending.returned (.bool z)) (by rw [dO (by unfold cB; omega)])), st61.bare⟩
    · have h39p := of_decide_eq_false (aS h39)
      iterate 7 refine sgf 40 rfl (by decide) (bF rfl h39) ?_
      refine sg (aN (v := .bool true) ((rfl : _ = (.bool (!decide ((r.tasks[k]'hif4d94).need = (cP r ((cW (cJ r.plan.edges (k : Int))).take i)))) : Value)).trans (congrArg Value.bool h39)) rfl (aE (gV rfl rfl (wp_seq (aA (sg (aD (v := .bool false) rfl (aE (wp_ret ?_))))))))); repeat first|refine aH ?_|refine aI ?_
      refine aW Tryz.results156 rfl ?_
      exact ⟨(congrArg (fun z => Ending.returned (.bool z)) (by rw [dO (by unfold cB; omega)])), st25.bare⟩
set_option maxHeartbeats 2000000 in
theorem wO (w : World) {r : Run} {cs : List Value} {fp : List Nat} (hc : Shape.C w cs r fp) (hS : ∀ t ∈ r.tasks, 1 ≤ t.state ∧ t.state ≤ 6) (hl : r.tasks.length ≤ 1048576) :
    Calls Tryz.prog 157 #[.agg cs.toArray] w fun e w' => e = .returned (I (fL r.tasks)) ∧ St w w' [] := by
  have hcap : r.tasks.length ≤ 9223372036854775807 := by have h0 := hc; obtain ⟨v1, v2, f1, f2, h0, hok, h1, h2, hfp⟩ := h0; exact h2.len_le
  refine dU Tryz.func157 rfl Tryz.ntmps157 (by decide) (wp_seq (aA (sg (aQ (cs := cs) rfl (St.start w) ?_)))); intro b1 W2 hb3 st4
  refine sg (aD (v := I 0) rfl (aE (wp_seq (aA (sg (bR (cs := [I 0, I 0, I 0, I 0, I 0, I 0, I 0]) (e := 3) (eG (v := I 0) rfl (eG (v := I 0) rfl (eG (v := I 0) rfl (eG (v := I 0) rfl (eG (v := I 0) rfl (eG (v := I 0) rfl (eG (v := I 0) rfl gK))))))) (run_buildSliceN gH _ rfl (lD rfl (lD rfl (lD rfl (lD rfl (lD rfl (lD rfl (lD rfl lc_nil)))))))) st4 ?_)))))); intro b6 W7 hb8 st9
  refine sg (aD (v := .slice (some ⟨b6, 0, none⟩) 7 7) rfl (aE (wp_seq (wp_seq (aA (sg (aD (v := I 0) rfl (aE (wp_block ?_)))))))))
  have st11 := St.row_lit (α := Int) (ys := [0, 0, 0, 0, 0, 0, 0]) st9 rfl (Nat.le_of_ble_eq_true rfl) (Elems.ic (by simp only [I64] at *; omega) (Elems.ic (by simp only [I64] at *; omega) (Elems.ic (by simp only [I64] at *; omega) (Elems.ic (by simp only [I64] at *; omega) (Elems.ic (by simp only [I64] at *; omega) (Elems.ic (by simp only [I64] at *; omega) (Elems.ic (by simp only [I64] at *; omega) Elems.i0)))))))
  have hq_ := st11.shut
  obtain ⟨fp12, st13⟩ := hq_
  refine bH (fun (m : Nat) (f : Nat → Value) (W : World) => ∃ (k : Nat) (fo14 : List Nat), k ≤ r.tasks.length ∧ m = r.tasks.length - k ∧ f 1 = .pointer (some ⟨b1, 0, none⟩) ∧ f 3 = (.slice (some ⟨b6, 0, none⟩) 7 7) ∧ f 4 = I (k : Int) ∧ St w W ([Res.own (α := List Int) (.slice (some ⟨b6, 0, none⟩) 7 7) (cR (r.tasks.take k)) fo14, Res.bx b1 cs 123])) (r.tasks.length - 0) ?_ ?_
  · exact ⟨0, fp12, (by omega), rfl, rfl, rfl, rfl, (by rw [List.take_zero, cnts_nil]; exact st13)⟩
  intro m15 f16 W17 hJ18
  obtain ⟨k, fo14, hk, rfl, hs20_1, hs20_3, hs20_4, st19⟩ := hJ18
  refine wp_seq (wp_seq (aA (sg (aB (v := I (k : Int)) hs20_4 (sg (aC bJ hs20_1 ?_))))))
  have hk21 := hc
  obtain ⟨v21_0, v21_1, g21_0, g21_1, rfl, hok21, h21_0, h21_1, rfl⟩ := hk21
  refine sg (aF bM rfl rfl (st19.get 1 rfl) (i := 7) rfl rfl (sg (aV bD rfl h21_1 (sg (aY rfl rfl (aE (aR rfl (fun h22 => ?_) (fun h22 => ?_))))))))
  · have h22p := of_decide_eq_true h22
    refine wp_skip (wp_seq (wp_block (aA (sg (aB (v := (.slice (some ⟨b6, 0, none⟩) 7 7)) hs20_3 (sg (aC bJ hs20_1 (sg (aF bM rfl rfl (st19.get 1 rfl) (i := 7) rfl rfl (sg (aB (v := I (k : Int)) hs20_4 ?_)))))))))))
    have hif4d94 : k < r.tasks.length := (by omega)
    have hq_ := idx h21_1 (i := k) hif4d94
    obtain ⟨b23, o23, cs23, f23, hp23, hr23, hc23, hm23⟩ := hq_
    refine sg (aG bD rfl hp23 rfl rfl (sg (aC bP rfl ?_)))
    have hk24 := hc23
    obtain ⟨he24, rfl, hok24⟩ := hk24
    have he24 : _ = [I (r.tasks[k]'hif4d94).state, I (r.tasks[k]'hif4d94).need, I (r.tasks[k]'hif4d94).try_, I (r.tasks[k]'hif4d94).until_] := he24
    subst he24
    refine sg (aK aJ rfl rfl hr23 st19.below (i := 0) rfl rfl ?_)
    have hsk := hS _ (List.getElem_mem (l := r.tasks) (n := k) (by omega))
    have hcl := oV (r.tasks.take k)
    have htl := List.length_take_le k r.tasks
    have hi2be82 : ((r.tasks[k]'hif4d94).state).toNat < (cR (r.tasks.take k)).length := (by omega)
    have hq_ := idx (bC (st19.get 0 rfl)) (i := ((r.tasks[k]'hif4d94).state).toNat) hi2be82
    obtain ⟨b25, o25, cs25, f25, hp25, hr25, hc25, hm25⟩ := hq_
    have hk25 := hc25
    obtain ⟨rfl, rfl, hok25⟩ := hk25
    refine sg (aG dF rfl hp25 rfl (by omega) ?_)
    have hcr := cnts_rng (r.tasks.take k) (r.tasks[k]'(by omega)).state.toNat (by omega)
    refine sg (aK aJ rfl rfl hr25 (Below.refl _ _) (i := 0) rfl rfl (sg (aP rfl rfl (by (simp only [I64] at *; omega)) (sg (aG dF rfl hp25 rfl (by omega) (sg (pH (α := Int) (z := ((cR (r.tasks.take k))[((r.tasks[k]'hif4d94).state).toNat]'hi2be82) + 1) rfl (by kernel_rfl) rfl hp25 hi2be82 rfl rfl rfl st19 (fun W => ⟨rfl, rfl, (by (simp only [I64] at *; omega))⟩) ?_))))))); intro fp26 W27 st28
    refine aE (aA (sg (aB (v := I (k : Int)) hs20_4 (sg (aP rfl rfl (by (simp only [I64] at *; omega)) (sg (aD (v := I ((k : Int) + 1)) rfl (aE ?_))))))))
    exact ⟨_, r.tasks.length - (k + 1), (by omega), rfl, k + 1, fp26, (by omega), rfl, hs20_1, hs20_3, rfl, (by rw [← cnts_set (by omega) (hS _ (List.getElem_mem _)) (by rw [oV]; omega)]; exact st28)⟩
  · have h22p := of_decide_eq_false h22
    refine wp_exit (wp_seq ?_)
    have hkl : k = r.tasks.length := by omega
    have hcl := oV (r.tasks.take k)
    have hso := nH r.tasks
    have hk0 : r.tasks.take k = r.tasks := by rw [hkl, List.take_length]
    have hq1 : (cR (r.tasks.take k))[1]'(by omega) = dA r.tasks 1 := (pU _ 1 _).trans (by rw [hk0]; rfl)
    have hq2 : (cR (r.tasks.take k))[2]'(by omega) = dA r.tasks 2 := (pU _ 2 _).trans (by rw [hk0]; rfl)
    have hq3 : (cR (r.tasks.take k))[3]'(by omega) = dA r.tasks 3 := (pU _ 3 _).trans (by rw [hk0]; rfl)
    have hq4 : (cR (r.tasks.take k))[4]'(by omega) = dA r.tasks 4 := (pU _ 4 _).trans (by rw [hk0]; rfl)
    have hq5 : (cR (r.tasks.take k))[5]'(by omega) = dA r.tasks 5 := (pU _ 5 _).trans (by rw [hk0]; rfl)
    have hq6 : (cR (r.tasks.take k))[6]'(by omega) = dA r.tasks 6 := (pU _ 6 _).trans (by rw [hk0]; rfl)
    have hnn1 := eI r.tasks 1
    have hnn2 := eI r.tasks 2
    have hnn3 := eI r.tasks 3
    have hnn4 := eI r.tasks 4
    have hnn5 := eI r.tasks 5
    have hnn6 := eI r.tasks 6
    have hll1 := lM r.tasks 1
    have hll2 := lM r.tasks 2
    have hll3 := lM r.tasks 3
    have hll4 := lM r.tasks 4
    have hll5 := lM r.tasks 5
    have hll6 := lM r.tasks 6
    have hi25f68 : 1 < (cR (r.tasks.take k)).length := (by omega)
    have hq_ := idx (bC (st19.get 0 rfl)) (i := 1) hi25f68
    obtain ⟨b29, o29, cs29, f29, hp29, hr29, hc29, hm29⟩ := hq_
    have hk29 := hc29
    obtain ⟨rfl, rfl, hok29⟩ := hk29
    have hi416b4 : 2 < (cR (r.tasks.take k)).length := (by omega)
    have hq_ := idx (bC (st19.get 0 rfl)) (i := 2) hi416b4
    obtain ⟨b30, o30, cs30, f30, hp30, hr30, hc30, hm30⟩ := hq_
    have hk30 := hc30
    obtain ⟨rfl, rfl, hok30⟩ := hk30
    have hi98b8f : 3 < (cR (r.tasks.take k)).length := (by omega)
    have hq_ := idx (bC (st19.get 0 rfl)) (i := 3) hi98b8f
    obtain ⟨b31, o31, cs31, f31, hp31, hr31, hc31, hm31⟩ := hq_
    have hk31 := hc31
    obtain ⟨rfl, rfl, hok31⟩ := hk31
    refine dI [Pl.is ((.slice (some ⟨b6, 0, none⟩) 7 7)) (Sl.yl (bC (st19.get 0 rfl))), Pl.is (.pointer (some ⟨b29, o29, none⟩)), Pl.is (I ((cR (r.tasks.take k))[1]'hi25f68)), Pl.is ((.slice (some ⟨b6, 0, none⟩) 7 7)) (Sl.yl (bC (st19.get 0 rfl))), Pl.is (.pointer (some ⟨b30, o30, none⟩)), Pl.is (I ((cR (r.tasks.take k))[2]'hi416b4)), Pl.is (I (((cR (r.tasks.take k))[1]'hi25f68) + ((cR (r.tasks.take k))[2]'hi416b4))), Pl.is ((.slice (some ⟨b6, 0, none⟩) 7 7)) (Sl.yl (bC (st19.get 0 rfl))), Pl.is (.pointer (some ⟨b31, o31, none⟩)), Pl.is (I ((cR (r.tasks.take k))[3]'hi98b8f)), Pl.is (I ((((cR (r.tasks.take k))[1]'hi25f68) + ((cR (r.tasks.take k))[2]'hi416b4)) + ((cR (r.tasks.take k))[3]'hi98b8f))), Pl.is (I ((((cR (r.tasks.take k))[1]'hi25f68) + ((cR (r.tasks.take k))[2]'hi416b4)) + ((cR (r.tasks.take k))[3]'hi98b8f)))] mix (by rfl) st19 ⟨(fun f W hst hbl hd hf => aB (v := (.slice (some ⟨b6, 0, none⟩) 7 7)) ((hf 3 rfl).trans hs20_3) brq), (fun f W hst hbl hd hf => aG dF (hd 0 25 rfl rfl) hp29 rfl rfl brq), (fun f W hst hbl hd hf => aK aJ rfl (hd 1 26 rfl rfl) hr29 hbl (i := 0) rfl rfl brq), (fun f W hst hbl hd hf => aB (v := (.slice (some ⟨b6, 0, none⟩) 7 7)) ((hf 3 rfl).trans hs20_3) brq), (fun f W hst hbl hd hf => aG dF (hd 3 28 rfl rfl) hp30 rfl rfl brq), (fun f W hst hbl hd hf => aK aJ rfl (hd 4 29 rfl rfl) hr30 hbl (i := 0) rfl rfl brq), (fun f W hst hbl hd hf => aP (hd 2 27 rfl rfl) (hd 5 30 rfl rfl) (by (simp only [I64] at *; omega)) brq), (fun f W hst hbl hd hf => aB (v := (.slice (some ⟨b6, 0, none⟩) 7 7)) ((hf 3 rfl).trans hs20_3) brq), (fun f W hst hbl hd hf => aG dF (hd 7 32 rfl rfl) hp31 rfl rfl brq), (fun f W hst hbl hd hf => aK aJ rfl (hd 8 33 rfl rfl) hr31 hbl (i := 0) rfl rfl brq), (fun f W hst hbl hd hf => aP (hd 6 31 rfl rfl) (hd 9 34 rfl rfl) (by (simp only [I64] at *; omega)) brq), (fun f W hst hbl hd hf => aD (v := I ((((cR (r.tasks.take k))[1]'hi25f68) + ((cR (r.tasks.take k))[2]'hi416b4)) + ((cR (r.tasks.take k))[3]'hi98b8f))) (hd 10 35 rfl rfl) brq), trivial⟩ ?_
    intro f32 W33 st34 hb35 hv36 hf37
    refine wp_seq (wp_block (wp_seq ?_))
    have hi7bb14 : 4 < (cR (r.tasks.take k)).length := (by omega)
    have hq_ := idx (bC (st34.get 0 rfl)) (i := 4) hi7bb14
    obtain ⟨b38, o38, cs38, f38, hp38, hr38, hc38, hm38⟩ := hq_
    have hk38 := hc38
    obtain ⟨rfl, rfl, hok38⟩ := hk38
    refine dI [Pl.is ((.slice (some ⟨b6, 0, none⟩) 7 7)) (Sl.yl (bC (st34.get 0 rfl))), Pl.is (.pointer (some ⟨b38, o38, none⟩)), Pl.is (I ((cR (r.tasks.take k))[4]'hi7bb14)), Pl.is (.pointer (some ⟨b1, 0 + 7, none⟩)), Pl.is (v21_1) (Sl.yl h21_1), Pl.is (I (r.tasks.length : Int)), Pl.bool (decide (((cR (r.tasks.take k))[4]'hi7bb14) = (r.tasks.length : Int))), Pl.bool (decide (((cR (r.tasks.take k))[4]'hi7bb14) = (r.tasks.length : Int)))] mix (by rfl) st34 ⟨(fun f W hst hbl hd hf => aB (v := (.slice (some ⟨b6, 0, none⟩) 7 7)) ((hf 3 rfl).trans ((hf37 3 rfl).trans hs20_3)) brq), (fun f W hst hbl hd hf => aG dF (hd 0 37 rfl rfl) hp38 rfl rfl brq), (fun f W hst hbl hd hf => aK aJ rfl (hd 1 38 rfl rfl) hr38 hbl (i := 0) rfl rfl brq), (fun f W hst hbl hd hf => aC bJ ((hf 1 rfl).trans ((hf37 1 rfl).trans hs20_1)) brq), (fun f W hst hbl hd hf => aF bM rfl (hd 3 40 rfl rfl) (hst.get 1 rfl) (i := 7) rfl rfl brq), (fun f W hst hbl hd hf => aV bD (hd 4 41 rfl rfl) h21_1 brq), (fun f W hst hbl hd hf => bA (hd 2 39 rfl rfl) (hd 5 42 rfl rfl) brq), (fun f W hst hbl hd hf => aD (v := .bool (decide (((cR (r.tasks.take k))[4]'hi7bb14) = (r.tasks.length : Int)))) (hd 6 43 rfl rfl) brq), trivial⟩ ?_
    intro f39 W40 st41 hb42 hv43 hf44
    refine aR (hv43 7 36 (by decide) rfl) (fun h45 => ?_) (fun h45 => ?_)
    · have h45p := of_decide_eq_true h45
      refine wp_seq (aA (sg (aD (v := I 2) rfl (aE (wp_ret ?_))))); repeat first|refine aH ?_|refine aI ?_
      refine aW Tryz.results157 rfl ?_
      exact ⟨(congrArg (fun z => Ending.returned (I z)) (by omega)), st41.bare⟩
    · have h45p := of_decide_eq_false h45
      refine wp_seq (aA (sg (aB (v := (.slice (some ⟨b6, 0, none⟩) 7 7)) ((hf44 3 rfl).trans ((hf37 3 rfl).trans hs20_3)) ?_)))
      have hi9ea3c : 5 < (cR (r.tasks.take k)).length := (by omega)
      have hq_ := idx (bC (st41.get 0 rfl)) (i := 5) hi9ea3c
      obtain ⟨b46, o46, cs46, f46, hp46, hr46, hc46, hm46⟩ := hq_
      have hk46 := hc46
      obtain ⟨rfl, rfl, hok46⟩ := hk46
      refine sg (aG dF rfl hp46 rfl rfl (sg (aK aJ rfl rfl hr46 (Below.refl _ _) (i := 0) rfl rfl (sg (bA rfl rfl (sg (aB (v := .bool (decide (((cR (r.tasks.take k))[5]'hi9ea3c) = 1))) rfl ?_)))))))
      rcases bd (decide (((cR (r.tasks.take k))[5]'hi9ea3c) = 1)) with h47 | h47
      · have h47p := of_decide_eq_false h47
        iterate 2 refine sgf 49 rfl (by decide) (bF rfl h47) ?_
        refine sg (aO (v := .bool false) ((rfl : _ = (.bool (decide (((cR (r.tasks.take k))[5]'hi9ea3c) = 1)) : Value)).trans (congrArg Value.bool h47)) rfl (sg (aD (v := .bool false) rfl (aE (gX rfl rfl (wp_seq (aA (sg (aB (v := (.slice (some ⟨b6, 0, none⟩) 7 7)) ((hf44 3 rfl).trans ((hf37 3 rfl).trans hs20_3)) (sg (aG dF rfl hp46 rfl rfl (sg (aK aJ rfl rfl hr46 (Below.refl _ _) (i := 0) rfl rfl (sg (bA rfl rfl (sg (aB (v := .bool (decide (((cR (r.tasks.take k))[5]'hi9ea3c) = 0))) rfl ?_)))))))))))))))))
        rcases bd (decide (((cR (r.tasks.take k))[5]'hi9ea3c) = 0)) with h48 | h48
        · have h48p := of_decide_eq_false h48
          iterate 4 refine sgf 58 rfl (by decide) (bF rfl h48) ?_
          refine sg (aO (v := .bool false) ((rfl : _ = (.bool (decide (((cR (r.tasks.take k))[5]'hi9ea3c) = 0)) : Value)).trans (congrArg Value.bool h48)) rfl (sg (aB (v := .bool false) rfl ?_)))
          iterate 2 refine sgf 64 rfl (by decide) (bF rfl rfl) ?_
          refine sg (aO (v := .bool false) rfl rfl (sg (aD (v := .bool false) rfl (aE (gX rfl rfl (wp_seq (aA (sg (aB (v := (.slice (some ⟨b6, 0, none⟩) 7 7)) ((hf44 3 rfl).trans ((hf37 3 rfl).trans hs20_3)) (sg (aG dF rfl hp46 rfl rfl (sg (aK aJ rfl rfl hr46 (Below.refl _ _) (i := 0) rfl rfl (sg (bA rfl rfl (sg (aB (v := .bool (decide (((cR (r.tasks.take k))[5]'hi9ea3c) = 0))) rfl ?_)))))))))))))))))
          iterate 4 refine sgf 73 rfl (by decide) (bF rfl h48) ?_
          refine sg (aO (v := .bool false) ((rfl : _ = (.bool (decide (((cR (r.tasks.take k))[5]'hi9ea3c) = 0)) : Value)).trans (congrArg Value.bool h48)) rfl (sg (aD (v := .bool false) rfl (aE (gX rfl rfl (wp_skip (wp_seq (aA (sg (aD (v := I 0) rfl (aE (wp_ret ?_)))))))))))); repeat first|refine aH ?_|refine aI ?_
          refine aW Tryz.results157 rfl ?_
          exact ⟨(congrArg (fun z => Ending.returned (I z)) (by omega)), st41.bare⟩
        · have h48p := of_decide_eq_true h48
          refine sgo 58 rfl (by decide) (aL rfl h48) (aB (v := (.slice (some ⟨b6, 0, none⟩) 7 7)) ((hf44 3 rfl).trans ((hf37 3 rfl).trans hs20_3)) ?_)
          have hi05ed7 : 6 < (cR (r.tasks.take k)).length := (by omega)
          have hq_ := idx (bC (st41.get 0 rfl)) (i := 6) hi05ed7
          obtain ⟨b49, o49, cs49, f49, hp49, hr49, hc49, hm49⟩ := hq_
          have hk49 := hc49
          obtain ⟨rfl, rfl, hok49⟩ := hk49
          refine sgo 58 rfl (by decide) (aL rfl h48) (aG dF rfl hp49 rfl rfl (sgo 58 rfl (by decide) (aL rfl h48) (aK aJ rfl rfl hr49 (Below.refl _ _) (i := 0) rfl rfl (sgo 58 rfl (by decide) (aL rfl h48) (fV rfl rfl (sg (aN (v := .bool (decide (0 < ((cR (r.tasks.take k))[6]'hi05ed7)))) ((rfl : _ = (.bool (decide (((cR (r.tasks.take k))[5]'hi9ea3c) = 0)) : Value)).trans (congrArg Value.bool h48)) rfl (sg (aB (v := .bool (decide (0 < ((cR (r.tasks.take k))[6]'hi05ed7)))) rfl ?_)))))))))
          rcases bd (decide (0 < ((cR (r.tasks.take k))[6]'hi05ed7))) with h50 | h50
          · have h50p := of_decide_eq_false h50
            iterate 2 refine sgf 64 rfl (by decide) (bF rfl h50) ?_
            refine sg (aO (v := .bool false) ((rfl : _ = (.bool (decide (0 < ((cR (r.tasks.take k))[6]'hi05ed7))) : Value)).trans (congrArg Value.bool h50)) rfl (sg (aD (v := .bool false) rfl (aE (gX rfl rfl (wp_seq (aA (sg (aB (v := (.slice (some ⟨b6, 0, none⟩) 7 7)) ((hf44 3 rfl).trans ((hf37 3 rfl).trans hs20_3)) (sg (aG dF rfl hp46 rfl rfl (sg (aK aJ rfl rfl hr46 (Below.refl _ _) (i := 0) rfl rfl (sg (bA rfl rfl (sg (aB (v := .bool (decide (((cR (r.tasks.take k))[5]'hi9ea3c) = 0))) rfl (sgo 73 rfl (by decide) (aL rfl h48) (aB (v := (.slice (some ⟨b6, 0, none⟩) 7 7)) ((hf44 3 rfl).trans ((hf37 3 rfl).trans hs20_3)) ?_)))))))))))))))))))
            refine sgo 73 rfl (by decide) (aL rfl h48) (aG dF rfl hp49 rfl rfl (sgo 73 rfl (by decide) (aL rfl h48) (aK aJ rfl rfl hr49 (Below.refl _ _) (i := 0) rfl rfl (sgo 73 rfl (by decide) (aL rfl h48) (bA rfl rfl (sg (aN (v := .bool (decide (((cR (r.tasks.take k))[6]'hi05ed7) = 0))) ((rfl : _ = (.bool (decide (((cR (r.tasks.take k))[5]'hi9ea3c) = 0)) : Value)).trans (congrArg Value.bool h48)) rfl (sg (aD (v := .bool (decide (((cR (r.tasks.take k))[6]'hi05ed7) = 0))) rfl (aE (aR rfl (fun h51 => ?_) (fun h51 => ?_))))))))))))
            · have h51p := of_decide_eq_true h51
              refine wp_seq (aA (sg (aD (v := I 1) rfl (aE (wp_ret ?_))))); repeat first|refine aH ?_|refine aI ?_
              refine aW Tryz.results157 rfl ?_
              exact ⟨(congrArg (fun z => Ending.returned (I z)) (by omega)), st41.bare⟩
            · have h51p := of_decide_eq_false h51
              refine wp_skip (wp_seq (aA (sg (aD (v := I 0) rfl (aE (wp_ret ?_)))))); repeat first|refine aH ?_|refine aI ?_
              refine aW Tryz.results157 rfl ?_
              exact ⟨(congrArg (fun z => Ending.returned (I z)) (by omega)), st41.bare⟩
          · have h50p := of_decide_eq_true h50
            refine sgo 64 rfl (by decide) (aL rfl h50) (aB (v := I ((((cR (r.tasks.take k))[1]'hi25f68) + ((cR (r.tasks.take k))[2]'hi416b4)) + ((cR (r.tasks.take k))[3]'hi98b8f))) ((hf44 5 rfl).trans (hv36 11 5 (by decide) rfl)) (sgo 64 rfl (by decide) (aL rfl h50) (bA rfl rfl (sg (aN (v := .bool (decide (((((cR (r.tasks.take k))[1]'hi25f68) + ((cR (r.tasks.take k))[2]'hi416b4)) + ((cR (r.tasks.take k))[3]'hi98b8f)) = 0))) ((rfl : _ = (.bool (decide (0 < ((cR (r.tasks.take k))[6]'hi05ed7))) : Value)).trans (congrArg Value.bool h50)) rfl (sg (aD (v := .bool (decide (((((cR (r.tasks.take k))[1]'hi25f68) + ((cR (r.tasks.take k))[2]'hi416b4)) + ((cR (r.tasks.take k))[3]'hi98b8f)) = 0))) rfl (aE (aR rfl (fun h52 => ?_) (fun h52 => ?_))))))))))
            · have h52p := of_decide_eq_true h52
              refine wp_seq (aA (sg (aD (v := I 4) rfl (aE (wp_ret ?_))))); repeat first|refine aH ?_|refine aI ?_
              refine aW Tryz.results157 rfl ?_
              exact ⟨(congrArg (fun z => Ending.returned (I z)) (by omega)), st41.bare⟩
            · have h52p := of_decide_eq_false h52
              refine wp_seq (aA (sg (aB (v := (.slice (some ⟨b6, 0, none⟩) 7 7)) ((hf44 3 rfl).trans ((hf37 3 rfl).trans hs20_3)) (sg (aG dF rfl hp46 rfl rfl (sg (aK aJ rfl rfl hr46 (Below.refl _ _) (i := 0) rfl rfl (sg (bA rfl rfl (sg (aB (v := .bool (decide (((cR (r.tasks.take k))[5]'hi9ea3c) = 0))) rfl (sgo 73 rfl (by decide) (aL rfl h48) (aB (v := (.slice (some ⟨b6, 0, none⟩) 7 7)) ((hf44 3 rfl).trans ((hf37 3 rfl).trans hs20_3)) (sgo 73 rfl (by decide) (aL rfl h48) (aG dF rfl hp49 rfl rfl (sgo 73 rfl (by decide) (aL rfl h48) (aK aJ rfl rfl hr49 (Below.refl _ _) (i := 0) rfl rfl (sgo 73 rfl (by decide) (aL rfl h48) (bA rfl rfl (sg (aN (v := .bool (decide (((cR (r.tasks.take k))[6]'hi05ed7) = 0))) ((rfl : _ = (.bool (decide (((cR (r.tasks.take k))[5]'hi9ea3c) = 0)) : Value)).trans (congrArg Value.bool h48)) rfl ?_)))))))))))))))))))))
              refine sg (aD (v := .bool (decide (((cR (r.tasks.take k))[6]'hi05ed7) = 0))) rfl (aE (aR rfl (fun h53 => ?_) (fun h53 => ?_))))
              · have h53p := of_decide_eq_true h53
                refine wp_seq (aA (sg (aD (v := I 1) rfl (aE (wp_ret ?_))))); repeat first|refine aH ?_|refine aI ?_
                refine aW Tryz.results157 rfl ?_
                exact ⟨(congrArg (fun z => Ending.returned (I z)) (by omega)), st41.bare⟩
              · have h53p := of_decide_eq_false h53
                refine wp_skip (wp_seq (aA (sg (aD (v := I 0) rfl (aE (wp_ret ?_)))))); repeat first|refine aH ?_|refine aI ?_
                refine aW Tryz.results157 rfl ?_
                exact ⟨(congrArg (fun z => Ending.returned (I z)) (by omega)), st41.bare⟩
      · have h47p := of_decide_eq_true h47
        refine sgo 49 rfl (by decide) (aL rfl h47) (aB (v := I ((((cR (r.tasks.take k))[1]'hi25f68) + ((cR (r.tasks.take k))[2]'hi416b4)) + ((cR (r.tasks.take k))[3]'hi98b8f))) ((hf44 5 rfl).trans (hv36 11 5 (by decide) rfl)) (sgo 49 rfl (by decide) (aL rfl h47) (bA rfl rfl (sg (aN (v := .bool (decide (((((cR (r.tasks.take k))[1]'hi25f68) + ((cR (r.tasks.take k))[2]'hi416b4)) + ((cR (r.tasks.take k))[3]'hi98b8f)) = 0))) ((rfl : _ = (.bool (decide (((cR (r.tasks.take k))[5]'hi9ea3c) = 1)) : Value)).trans (congrArg Value.bool h47)) rfl (sg (aD (v := .bool (decide (((((cR (r.tasks.take k))[1]'hi25f68) + ((cR (r.tasks.take k))[2]'hi416b4)) + ((cR (r.tasks.take k))[3]'hi98b8f)) = 0))) rfl (aE (aR rfl (fun h54 => ?_) (fun h54 => ?_))))))))))
        · have h54p := of_decide_eq_true h54
          refine wp_seq (aA (sg (aD (v := I 3) rfl (aE (wp_ret ?_))))); repeat first|refine aH ?_|refine aI ?_
          refine aW Tryz.results157 rfl ?_
          exact ⟨(congrArg (fun z => Ending.returned (I z)) (by omega)), st41.bare⟩
        · have h54p := of_decide_eq_false h54
          refine wp_seq (aA (sg (aB (v := (.slice (some ⟨b6, 0, none⟩) 7 7)) ((hf44 3 rfl).trans ((hf37 3 rfl).trans hs20_3)) (sg (aG dF rfl hp46 rfl rfl (sg (aK aJ rfl rfl hr46 (Below.refl _ _) (i := 0) rfl rfl (sg (bA rfl rfl (sg (aB (v := .bool (decide (((cR (r.tasks.take k))[5]'hi9ea3c) = 0))) rfl ?_)))))))))))
          rcases bd (decide (((cR (r.tasks.take k))[5]'hi9ea3c) = 0)) with h55 | h55
          · have h55p := of_decide_eq_false h55
            iterate 4 refine sgf 58 rfl (by decide) (bF rfl h55) ?_
            refine sg (aO (v := .bool false) ((rfl : _ = (.bool (decide (((cR (r.tasks.take k))[5]'hi9ea3c) = 0)) : Value)).trans (congrArg Value.bool h55)) rfl (sg (aB (v := .bool false) rfl ?_)))
            iterate 2 refine sgf 64 rfl (by decide) (bF rfl rfl) ?_
            refine sg (aO (v := .bool false) rfl rfl (sg (aD (v := .bool false) rfl (aE (gX rfl rfl (wp_seq (aA (sg (aB (v := (.slice (some ⟨b6, 0, none⟩) 7 7)) ((hf44 3 rfl).trans ((hf37 3 rfl).trans hs20_3)) (sg (aG dF rfl hp46 rfl rfl (sg (aK aJ rfl rfl hr46 (Below.refl _ _) (i := 0) rfl rfl (sg (bA rfl rfl (sg (aB (v := .bool (decide (((cR (r.tasks.take k))[5]'hi9ea3c) = 0))) rfl ?_)))))))))))))))))
            iterate 4 refine sgf 73 rfl (by decide) (bF rfl h55) ?_
            refine sg (aO (v := .bool false) ((rfl : _ = (.bool (decide (((cR (r.tasks.take k))[5]'hi9ea3c) = 0)) : Value)).trans (congrArg Value.bool h55)) rfl (sg (aD (v := .bool false) rfl (aE (gX rfl rfl (wp_skip (wp_seq (aA (sg (aD (v := I 0) rfl (aE (wp_ret ?_)))))))))))); repeat first|refine aH ?_|refine aI ?_
            refine aW Tryz.results157 rfl ?_
            exact ⟨(congrArg (fun z => Ending.returned (I z)) (by omega)), st41.bare⟩
          · have h55p := of_decide_eq_true h55
            refine sgo 58 rfl (by decide) (aL rfl h55) (aB (v := (.slice (some ⟨b6, 0, none⟩) 7 7)) ((hf44 3 rfl).trans ((hf37 3 rfl).trans hs20_3)) ?_)
            have hi05ed7 : 6 < (cR (r.tasks.take k)).length := (by omega)
            have hq_ := idx (bC (st41.get 0 rfl)) (i := 6) hi05ed7
            obtain ⟨b56, o56, cs56, f56, hp56, hr56, hc56, hm56⟩ := hq_
            have hk56 := hc56
            obtain ⟨rfl, rfl, hok56⟩ := hk56
            refine sgo 58 rfl (by decide) (aL rfl h55) (aG dF rfl hp56 rfl rfl (sgo 58 rfl (by decide) (aL rfl h55) (aK aJ rfl rfl hr56 (Below.refl _ _) (i := 0) rfl rfl (sgo 58 rfl (by decide) (aL rfl h55) (fV rfl rfl (sg (aN (v := .bool (decide (0 < ((cR (r.tasks.take k))[6]'hi05ed7)))) ((rfl : _ = (.bool (decide (((cR (r.tasks.take k))[5]'hi9ea3c) = 0)) : Value)).trans (congrArg Value.bool h55)) rfl (sg (aB (v := .bool (decide (0 < ((cR (r.tasks.take k))[6]'hi05ed7)))) rfl ?_)))))))))
            rcases bd (decide (0 < ((cR (r.tasks.take k))[6]'hi05ed7))) with h57 | h57
            · have h57p := of_decide_eq_false h57
              iterate 2 refine sgf 64 rfl (by decide) (bF rfl h57) ?_
              refine sg (aO (v := .bool false) ((rfl : _ = (.bool (decide (0 < ((cR (r.tasks.take k))[6]'hi05ed7))) : Value)).trans (congrArg Value.bool h57)) rfl (sg (aD (v := .bool false) rfl (aE (gX rfl rfl (wp_seq (aA (sg (aB (v := (.slice (some ⟨b6, 0, none⟩) 7 7)) ((hf44 3 rfl).trans ((hf37 3 rfl).trans hs20_3)) (sg (aG dF rfl hp46 rfl rfl (sg (aK aJ rfl rfl hr46 (Below.refl _ _) (i := 0) rfl rfl (sg (bA rfl rfl (sg (aB (v := .bool (decide (((cR (r.tasks.take k))[5]'hi9ea3c) = 0))) rfl (sgo 73 rfl (by decide) (aL rfl h55) (aB (v := (.slice (some ⟨b6, 0, none⟩) 7 7)) ((hf44 3 rfl).trans ((hf37 3 rfl).trans hs20_3)) ?_)))))))))))))))))))
              refine sgo 73 rfl (by decide) (aL rfl h55) (aG dF rfl hp56 rfl rfl (sgo 73 rfl (by decide) (aL rfl h55) (aK aJ rfl rfl hr56 (Below.refl _ _) (i := 0) rfl rfl (sgo 73 rfl (by decide) (aL rfl h55) (bA rfl rfl (sg (aN (v := .bool (decide (((cR (r.tasks.take k))[6]'hi05ed7) = 0))) ((rfl : _ = (.bool (decide (((cR (r.tasks.take k))[5]'hi9ea3c) = 0)) : Value)).trans (congrArg Value.bool h55)) rfl (sg (aD (v := .bool (decide (((cR (r.tasks.take k))[6]'hi05ed7) = 0))) rfl (aE (aR rfl (fun h58 => ?_) (fun h58 => ?_))))))))))))
              · have h58p := of_decide_eq_true h58
                refine wp_seq (aA (sg (aD (v := I 1) rfl (aE (wp_ret ?_))))); repeat first|refine aH ?_|refine aI ?_
                refine aW Tryz.results157 rfl ?_
                exact ⟨(congrArg (fun z => Ending.returned (I z)) (by omega)), st41.bare⟩
              · have h58p := of_decide_eq_false h58
                refine wp_skip (wp_seq (aA (sg (aD (v := I 0) rfl (aE (wp_ret ?_)))))); repeat first|refine aH ?_|refine aI ?_
                refine aW Tryz.results157 rfl ?_
                exact ⟨(congrArg (fun z => Ending.returned (I z)) (by omega)), st41.bare⟩
            · have h57p := of_decide_eq_true h57
              refine sgo 64 rfl (by decide) (aL rfl h57) (aB (v := I ((((cR (r.tasks.take k))[1]'hi25f68) + ((cR (r.tasks.take k))[2]'hi416b4)) + ((cR (r.tasks.take k))[3]'hi98b8f))) ((hf44 5 rfl).trans (hv36 11 5 (by decide) rfl)) (sgo 64 rfl (by decide) (aL rfl h57) (bA rfl rfl (sg (aN (v := .bool (decide (((((cR (r.tasks.take k))[1]'hi25f68) + ((cR (r.tasks.take k))[2]'hi416b4)) + ((cR (r.tasks.take k))[3]'hi98b8f)) = 0))) ((rfl : _ = (.bool (decide (0 < ((cR (r.tasks.take k))[6]'hi05ed7))) : Value)).trans (congrArg Value.bool h57)) rfl (sg (aD (v := .bool (decide (((((cR (r.tasks.take k))[1]'hi25f68) + ((cR (r.tasks.take k))[2]'hi416b4)) + ((cR (r.tasks.take k))[3]'hi98b8f)) = 0))) rfl (aE (gX rfl h54 (wp_seq (aA (sg (aB (v := (.slice (some ⟨b6, 0, none⟩) 7 7)) ((hf44 3 rfl).trans ((hf37 3 rfl).trans hs20_3)) (sg (aG dF rfl hp46 rfl rfl (sg (aK aJ rfl rfl hr46 (Below.refl _ _) (i := 0) rfl rfl (sg (bA rfl rfl ?_)))))))))))))))))))
              refine sg (aB (v := .bool (decide (((cR (r.tasks.take k))[5]'hi9ea3c) = 0))) rfl (sgo 73 rfl (by decide) (aL rfl h55) (aB (v := (.slice (some ⟨b6, 0, none⟩) 7 7)) ((hf44 3 rfl).trans ((hf37 3 rfl).trans hs20_3)) (sgo 73 rfl (by decide) (aL rfl h55) (aG dF rfl hp56 rfl rfl (sgo 73 rfl (by decide) (aL rfl h55) (aK aJ rfl rfl hr56 (Below.refl _ _) (i := 0) rfl rfl (sgo 73 rfl (by decide) (aL rfl h55) (bA rfl rfl (sg (aN (v := .bool (decide (((cR (r.tasks.take k))[6]'hi05ed7) = 0))) ((rfl : _ = (.bool (decide (((cR (r.tasks.take k))[5]'hi9ea3c) = 0)) : Value)).trans (congrArg Value.bool h55)) rfl (sg (aD (v := .bool (decide (((cR (r.tasks.take k))[6]'hi05ed7) = 0))) rfl (aE (aR rfl (fun h59 => ?_) (fun h59 => ?_))))))))))))))))
              · have h59p := of_decide_eq_true h59
                refine wp_seq (aA (sg (aD (v := I 1) rfl (aE (wp_ret ?_))))); repeat first|refine aH ?_|refine aI ?_
                refine aW Tryz.results157 rfl ?_
                exact ⟨(congrArg (fun z => Ending.returned (I z)) (by omega)), st41.bare⟩
              · have h59p := of_decide_eq_false h59
                refine wp_skip (wp_seq (aA (sg (aD (v := I 0) rfl (aE (wp_ret ?_)))))); repeat first|refine aH ?_|refine aI ?_
                refine aW Tryz.results157 rfl ?_
                exact ⟨(congrArg (fun z => Ending.returned (I z)) (by omega)), st41.bare⟩
set_option maxHeartbeats 2000000 in
theorem vH (w : World) {r : Run} {cs : List Value} {fp : List Nat} (hc : Shape.C w cs r fp) :
    Calls Tryz.prog 89 #[.agg cs.toArray] w fun e w' => e = .returned (.bool (dY r)) ∧ St w w' [] := by
  have hcap : r.tasks.length ≤ 9223372036854775807 := by have h0 := hc; obtain ⟨v1, v2, f1, f2, h0, hok, h1, h2, hfp⟩ := h0; exact h2.len_le
  refine dU Tryz.func89 rfl Tryz.ntmps89 (by decide) (wp_seq (aA (sg (aQ (cs := cs) rfl (St.start w) ?_)))); intro b1 W2 hb3 st4
  refine sg (aD (v := .bool false) rfl (aE (wp_seq (wp_seq (aA (sg (aC eU rfl ?_)))))))
  have hk6 := hc
  obtain ⟨v6_0, v6_1, g6_0, g6_1, rfl, hok6, h6_0, h6_1, rfl⟩ := hk6
  refine sg (aF aJ rfl rfl (st4.get 0 rfl) (i := 0) rfl rfl (sg (bS Tryz.func43 rfl rfl rfl rfl ((fK W2 r.id 1 9999).mono ?_)))); rintro _ W7 ⟨rfl, hk8⟩; refine ⟨_, rfl, ?_⟩
  have st9 := St.call st4 hk8
  refine sg (bO rfl (sg (aB (v := .bool (!(inB r.id 1 9999))) rfl ?_)))
  rcases bd (!(inB r.id 1 9999)) with h11 | h11
  · have h11p := inB_iff'.1 (aX h11)
    refine sgo 9 rfl (by decide) (aL rfl h11) (aC cQ rfl (sgo 9 rfl (by decide) (aL rfl h11) (aU (cs := [I r.plan.prio, I r.plan.most, I r.plan.wait, I r.plan.tasks, v6_0]) fY rfl rfl (st9.get 0 rfl) rfl rfl (sgo 9 rfl (by decide) (aL rfl h11) (bI Tryz.func155 rfl rfl ((PlanFaultS W7 (show Shape.C _ [I r.plan.prio, I r.plan.most, I r.plan.wait, I r.plan.tasks, v6_0] r.plan _ from ⟨_, _, rfl, (by first | exact True.intro | (simp only [Edge.ok, Plan.ok, Entry.ok, Task.ok, Run.ok, Yard.ok, Reply.ok, Deed.ok, Note.ok, Wait.ok, File.ok, Disk.ok, Engine.ok, WorldD.ok, ActD.ok, Hand.ok, Span.ok, Crew.ok, View.ok, I64] at *; omega)), (h6_0.below st9.below), rfl⟩)).mono ?_)))))); rintro _ W12 ⟨rfl, hk13⟩; refine ⟨_, rfl, ?_⟩
    have st14 := St.call st9 hk13
    refine sgo 9 rfl (by decide) (aL rfl h11) (bL rfl rfl (sg (aO (v := .bool (!decide ((dC r.plan) = 0))) ((rfl : _ = (.bool (!(inB r.id 1 9999)) : Value)).trans (congrArg Value.bool h11)) rfl (sg (aB (v := .bool (!decide ((dC r.plan) = 0))) rfl ?_)))))
    rcases bd (!decide ((dC r.plan) = 0)) with h16 | h16
    · have h16p := of_decide_eq_true (aX h16)
      refine sgo 15 rfl (by decide) (aL rfl h16) (aC bJ rfl (sgo 15 rfl (by decide) (aL rfl h16) (aF bM rfl rfl (st14.get 0 rfl) (i := 7) rfl rfl (sgo 15 rfl (by decide) (aL rfl h16) (aV bD rfl h6_1 (sgo 15 rfl (by decide) (aL rfl h16) (aC cQ rfl (sgo 15 rfl (by decide) (aL rfl h16) (aC eK rfl (sgo 15 rfl (by decide) (aL rfl h16) (aF aJ rfl rfl (st14.get 0 rfl) (i := 4) rfl rfl (sgo 15 rfl (by decide) (aL rfl h16) (bL rfl rfl (sg (aO (v := .bool (!decide ((r.tasks.length : Int) = r.plan.tasks))) ((rfl : _ = (.bool (!decide ((dC r.plan) = 0)) : Value)).trans (congrArg Value.bool h16)) rfl (aE (aR rfl (fun h17 => ?_) (fun h17 => ?_))))))))))))))))))
      · have h17p := of_decide_eq_false (aS h17)
        refine wp_seq (aA (sg (aD (v := .bool false) rfl (aE (wp_ret ?_))))); repeat first|refine aH ?_|refine aI ?_
        refine aW Tryz.results89 rfl ?_
        exact ⟨(congrArg (fun z => Ending.returned (.bool z)) (by unfold dY; rw [dO (by rintro ⟨hz1, hz2, hz3, hz4, hz5, hz6⟩; omega)])), st14.bare⟩
      · have h17p := of_decide_eq_true (aX h17)
        refine wp_skip (wp_seq (wp_seq (aA ?_)))
        have hP : dC r.plan = 0 := by omega
        have hMb := pM (qA hP).1
        refine sg (aD (v := I 0) rfl (aE (wp_block (bH (fun (m : Nat) (f : Nat → Value) (W : World) => ∃ (i : Nat), i ≤ r.tasks.length ∧ (∀ t ∈ r.tasks.take i, 1 ≤ t.state ∧ t.state ≤ 6) ∧ m = r.tasks.length - i ∧ f 1 = .pointer (some ⟨b1, 0, none⟩) ∧ f 3 = I (i : Int) ∧ St w W ([Res.bx b1 [I r.id, I r.plan.prio, I r.plan.most, I r.plan.wait, I r.plan.tasks, v6_0, I r.state, v6_1] 123])) (r.tasks.length - 0) ?_ ?_))))
        · exact ⟨0, (by omega), (by simp), rfl, rfl, rfl, st14⟩
        intro m18 f19 W20 hJ21
        obtain ⟨i, hk, hSk, rfl, hs23_1, hs23_3, st22⟩ := hJ21
        refine wp_seq (wp_seq (aA (sg (aB (v := I (i : Int)) hs23_3 (sg (aC bJ hs23_1 (sg (aF bM rfl rfl (st22.get 0 rfl) (i := 7) rfl rfl (sg (aV bD rfl h6_1 (sg (aY rfl rfl (aE (aR rfl (fun h24 => ?_) (fun h24 => ?_)))))))))))))))
        · have h24p := of_decide_eq_true h24
          refine wp_skip (wp_seq (wp_block (wp_seq (aA (sg (aC bJ hs23_1 (sg (aF bM rfl rfl (st22.get 0 rfl) (i := 7) rfl rfl (sg (aB (v := I (i : Int)) hs23_3 ?_))))))))))
          have hi4283f : i < r.tasks.length := (by omega)
          have hq_ := idx h6_1 (i := i) hi4283f
          obtain ⟨b25, o25, cs25, f25, hp25, hr25, hc25, hm25⟩ := hq_
          refine sg (aG bD rfl hp25 rfl rfl (sg (aC bP rfl ?_)))
          have hk26 := hc25
          obtain ⟨he26, rfl, hok26⟩ := hk26
          have he26 : _ = [I (r.tasks[i]'hi4283f).state, I (r.tasks[i]'hi4283f).need, I (r.tasks[i]'hi4283f).try_, I (r.tasks[i]'hi4283f).until_] := he26
          subst he26
          refine sg (aK aJ rfl rfl hr25 st22.below (i := 0) rfl rfl (sg (bS Tryz.func43 rfl rfl rfl rfl ((fK W20 (r.tasks[i]'hi4283f).state 1 6).mono ?_)))); rintro _ W27 ⟨rfl, hk28⟩; refine ⟨_, rfl, ?_⟩
          have st29 := St.call st22 hk28
          refine sg (bO rfl (aE (aR rfl (fun h31 => ?_) (fun h31 => ?_))))
          · have h31p := dN (aS h31)
            refine wp_seq (aA (sg (aD (v := .bool false) rfl (aE (wp_ret ?_))))); repeat first|refine aH ?_|refine aI ?_
            refine aW Tryz.results89 rfl ?_
            exact ⟨(congrArg (fun z => Ending.returned (.bool z)) (by unfold dY; rw [dO (fun hz => by have hz2 := (hz.2.2.2.1 i (by omega) (by omega)).1; omega)])), st29.bare⟩
          · have h31p := inB_iff'.1 (aX h31)
            refine wp_skip (aA (sg (aB (v := I (i : Int)) hs23_3 (sg (aP rfl rfl (by (simp only [I64] at *; omega)) ?_)))))
            skip
            skip
            refine sg (aD (v := I ((i : Int) + 1)) rfl (aE ?_))
            exact ⟨_, r.tasks.length - (i + 1), (by omega), rfl, i + 1, (by omega), (fun t ht => by rw [List.take_succ_eq_append_getElem (by omega)] at ht; rcases List.mem_append.1 ht with h1 | h1; exact hSk t h1; rw [List.mem_singleton] at h1; subst h1; omega), rfl, hs23_1, rfl, st29⟩
        · have h24p := of_decide_eq_false h24
          refine wp_exit (wp_seq (wp_seq (aA ?_)))
          have hS : ∀ t ∈ r.tasks, 1 ≤ t.state ∧ t.state ≤ 6 := by rw [show i = r.tasks.length by omega, List.take_length] at hSk; exact hSk
          refine sg (aD (v := I 0) rfl (aE (wp_block (bH (fun (m : Nat) (f : Nat → Value) (W : World) => ∃ (k : Nat), k ≤ r.tasks.length ∧ (∀ j, j < k → kA r j) ∧ m = r.tasks.length - k ∧ f 1 = .pointer (some ⟨b1, 0, none⟩) ∧ f 4 = I (k : Int) ∧ St w W ([Res.bx b1 [I r.id, I r.plan.prio, I r.plan.most, I r.plan.wait, I r.plan.tasks, v6_0, I r.state, v6_1] 123])) (r.tasks.length - 0) ?_ ?_))))
          · exact ⟨0, (by omega), (fun j hj => absurd hj (Nat.not_lt_zero j)), rfl, hs23_1, rfl, st22⟩
          intro m32 f33 W34 hJ35
          obtain ⟨k, hk, hT, rfl, hs37_1, hs37_4, st36⟩ := hJ35
          refine wp_seq (wp_seq (aA (sg (aB (v := I (k : Int)) hs37_4 (sg (aC bJ hs37_1 (sg (aF bM rfl rfl (st36.get 0 rfl) (i := 7) rfl rfl (sg (aV bD rfl h6_1 (sg (aY rfl rfl (aE (aR rfl (fun h38 => ?_) (fun h38 => ?_)))))))))))))))
          · have h38p := of_decide_eq_true h38
            refine wp_skip (wp_seq (wp_block (wp_seq (aA (sg (aU (cs := [I r.id, I r.plan.prio, I r.plan.most, I r.plan.wait, I r.plan.tasks, v6_0, I r.state, v6_1]) cY rfl hs37_1 (st36.get 0 rfl) rfl rfl (sg (aB (v := I (k : Int)) hs37_4 (sg (aZ Tryz.func156 rfl rfl rfl ((TaskOkS W34 (cA hc st36.below) (k := k) (by omega) (by omega) (by omega) (hS _ (List.getElem_mem _))).mono ?_))))))))))); rintro _ W39 ⟨rfl, hk40⟩; refine ⟨_, rfl, ?_⟩
            have st41 := St.call st36 hk40
            refine sg (bO rfl (aE (aR rfl (fun h43 => ?_) (fun h43 => ?_))))
            · refine wp_seq (aA (sg (aD (v := .bool false) rfl (aE (wp_ret ?_))))); repeat first|refine aH ?_|refine aI ?_
              refine aW Tryz.results89 rfl ?_
              exact ⟨(congrArg (fun z => Ending.returned (.bool z)) (by unfold dY; rw [dO (fun hz => vG (aS h43) (hz.2.2.2.1 k (by omega) (by omega)))])), st41.bare⟩
            · refine wp_skip (aA (sg (aB (v := I (k : Int)) hs37_4 (sg (aP rfl rfl (by (simp only [I64] at *; omega)) ?_)))))
              skip
              refine sg (aD (v := I ((k : Int) + 1)) rfl (aE ?_))
              exact ⟨_, r.tasks.length - (k + 1), (by omega), rfl, k + 1, (by omega), (fun j hj => by rcases Nat.lt_succ_iff_lt_or_eq.1 hj with h1 | rfl; exact hT j h1; exact fun _ => pB_iff.1 ((aX h43))), rfl, hs37_1, rfl, st41⟩
          · have h38p := of_decide_eq_false h38
            refine wp_exit (wp_seq ?_)
            rcases bd (decide (r.state = (fL r.tasks))) with h44 | h44
            · have h44p := of_decide_eq_false h44
              have hTk : ∀ j, j < r.tasks.length → kA r j := by rw [show k = r.tasks.length by omega] at hT; exact hT
              refine dI [Pl.is (.pointer (some ⟨b1, 0 + 6, none⟩)), Pl.is (I r.state), Pl.is (.agg #[I r.id, I r.plan.prio, I r.plan.most, I r.plan.wait, I r.plan.tasks, v6_0, I r.state, v6_1]), Pl.is (I (fL r.tasks)), Pl.bool false, Pl.bool false, Pl.off, Pl.off, Pl.off, Pl.bool false, Pl.bool false] mix (by rfl) st36 ⟨(fun f W hst hbl hd hf => aC eO ((hf 1 rfl).trans hs37_1) brq), (fun f W hst hbl hd hf => aF aJ rfl (hd 0 50 rfl rfl) (hst.get 0 rfl) (i := 6) rfl rfl brq), (fun f W hst hbl hd hf => aU (cs := [I r.id, I r.plan.prio, I r.plan.most, I r.plan.wait, I r.plan.tasks, v6_0, I r.state, v6_1]) cY rfl ((hf 1 rfl).trans hs37_1) (hst.get 0 rfl) rfl rfl brq), (fun f W hst hbl hd hf => bI Tryz.func157 rfl (hd 2 52 rfl rfl) ((wO W (cA hc hst.below) hS (by omega)).mono (by rintro e W2 ⟨rfl, hk⟩; exact ⟨_, rfl, hk.below, rfl⟩))), (fun f W hst hbl hd hf => bA (hd 1 51 rfl rfl) (hd 3 53 rfl rfl) ⟨Below.refl _ _, congrArg Value.bool h44⟩), (fun f W hst hbl hd hf => aB (v := .bool false) (hd 4 54 rfl rfl) brq), (fun f W hst hbl hd hf => rfl), (fun f W hst hbl hd hf => rfl), (fun f W hst hbl hd hf => rfl), (fun f W hst hbl hd hf => aO (v := .bool false) (hd 5 55 rfl rfl) rfl brq), (fun f W hst hbl hd hf => aD (v := .bool false) (hd 9 59 rfl rfl) brq), trivial⟩ ?_
              intro f45 W46 st47 hb48 hv49 hf50
              refine wp_ret ?_; repeat first|refine aH ?_|refine aI ?_
              refine aW Tryz.results89 (hv49 10 2 (by decide) rfl) ?_
              exact ⟨(congrArg (fun z => Ending.returned (.bool z)) (by unfold dY; rw [dO (by rintro ⟨hz1, hz2, hz3, hz4, hz5, hz6⟩; omega)])), st47.bare⟩
            · have h44p := of_decide_eq_true h44
              have hTk : ∀ j, j < r.tasks.length → kA r j := by rw [show k = r.tasks.length by omega] at hT; exact hT
              refine dI [Pl.is (.pointer (some ⟨b1, 0 + 6, none⟩)), Pl.is (I r.state), Pl.is (.agg #[I r.id, I r.plan.prio, I r.plan.most, I r.plan.wait, I r.plan.tasks, v6_0, I r.state, v6_1]), Pl.is (I (fL r.tasks)), Pl.bool true, Pl.bool true, Pl.is (.pointer (some ⟨b1, 0 + 6, none⟩)), Pl.is (I r.state), Pl.bool (!decide (r.state = 0)), Pl.bool (!decide (r.state = 0)), Pl.bool (!decide (r.state = 0))] mix (by rfl) st36 ⟨(fun f W hst hbl hd hf => aC eO ((hf 1 rfl).trans hs37_1) brq), (fun f W hst hbl hd hf => aF aJ rfl (hd 0 50 rfl rfl) (hst.get 0 rfl) (i := 6) rfl rfl brq), (fun f W hst hbl hd hf => aU (cs := [I r.id, I r.plan.prio, I r.plan.most, I r.plan.wait, I r.plan.tasks, v6_0, I r.state, v6_1]) cY rfl ((hf 1 rfl).trans hs37_1) (hst.get 0 rfl) rfl rfl brq), (fun f W hst hbl hd hf => bI Tryz.func157 rfl (hd 2 52 rfl rfl) ((wO W (cA hc hst.below) hS (by omega)).mono (by rintro e W2 ⟨rfl, hk⟩; exact ⟨_, rfl, hk.below, rfl⟩))), (fun f W hst hbl hd hf => bA (hd 1 51 rfl rfl) (hd 3 53 rfl rfl) ⟨Below.refl _ _, congrArg Value.bool h44⟩), (fun f W hst hbl hd hf => aB (v := .bool true) (hd 4 54 rfl rfl) brq), (fun f W hst hbl hd hf => aC eO ((hf 1 rfl).trans hs37_1) brq), (fun f W hst hbl hd hf => aF aJ rfl (hd 6 56 rfl rfl) (hst.get 0 rfl) (i := 6) rfl rfl brq), (fun f W hst hbl hd hf => bL (hd 7 57 rfl rfl) rfl brq), (fun f W hst hbl hd hf => aN (v := .bool (!decide (r.state = 0))) (hd 5 55 rfl rfl) (hd 8 58 rfl rfl) brq), (fun f W hst hbl hd hf => aD (v := .bool (!decide (r.state = 0))) (hd 9 59 rfl rfl) brq), trivial⟩ ?_
              intro f51 W52 st53 hb54 hv55 hf56
              rcases bd (!decide (r.state = 0)) with h57 | h57
              · have h57p := of_decide_eq_true (aX h57)
                refine wp_ret ?_; repeat first|refine aH ?_|refine aI ?_
                refine aW Tryz.results89 ((hv55 10 2 (by decide) rfl).trans (congrArg Value.bool h57)) ?_
                exact ⟨(congrArg (fun z => Ending.returned (.bool z)) (by unfold dY; rw [dO (by rintro ⟨hz1, hz2, hz3, hz4, hz5, hz6⟩; omega)])), st53.bare⟩
              · have h57p := of_decide_eq_false (aS h57)
                refine wp_ret ?_; repeat first|refine aH ?_|refine aI ?_
                refine aW Tryz.results89 ((hv55 10 2 (by decide) rfl).trans (congrArg Value.bool h57)) ?_
                exact ⟨(congrArg (fun z => Ending.returned (.bool z)) (by unfold dY; rw [gU ⟨by omega, by omega, by omega, hTk, by omega, by omega⟩])), st53.bare⟩
    · have h16p := of_decide_eq_false (aS h16)
      iterate 7 refine sgf 15 rfl (by decide) (bF rfl h16) ?_
      refine sg (aN (v := .bool true) ((rfl : _ = (.bool (!decide ((dC r.plan) = 0)) : Value)).trans (congrArg Value.bool h16)) rfl (aE (gV rfl rfl (wp_seq (aA (sg (aD (v := .bool false) rfl (aE (wp_ret ?_))))))))); repeat first|refine aH ?_|refine aI ?_
      refine aW Tryz.results89 rfl ?_
      exact ⟨(congrArg (fun z => Ending.returned (.bool z)) (by unfold dY; rw [dO (by rintro ⟨hz1, hz2, hz3, hz4, hz5, hz6⟩; omega)])), st14.bare⟩
  · have h11p := dN (aS h11)
    iterate 4 refine sgf 9 rfl (by decide) (bF rfl h11) ?_
    refine sg (aN (v := .bool true) ((rfl : _ = (.bool (!(inB r.id 1 9999)) : Value)).trans (congrArg Value.bool h11)) rfl (sg (aB (v := .bool true) rfl ?_)))
    iterate 7 refine sgf 15 rfl (by decide) (bF rfl rfl) ?_
    refine sg (aN (v := .bool true) rfl rfl (aE (gV rfl rfl (wp_seq (aA (sg (aD (v := .bool false) rfl (aE (wp_ret ?_))))))))); repeat first|refine aH ?_|refine aI ?_
    refine aW Tryz.results89 rfl ?_
    exact ⟨(congrArg (fun z => Ending.returned (.bool z)) (by unfold dY; rw [dO (by rintro ⟨hz1, hz2, hz3, hz4, hz5, hz6⟩; omega)])), st9.bare⟩
end Go.Proofs.YtchnllpegfbleaaGreat
namespace Go.Proofs.YtchnllpegfbleaaGreat
set_option linter.unusedSimpArgs false
set_option linter.unusedVariables false
open Go.RowKit

structure Pq where
  p : (Nat → Value) → Value → Prop
  b : Option Bool
  look : List Nat
  fr : ∀ {f f' : Nat → Value} {v}, (∀ t ∈ look, f t = f' t) → p f v → p f' v
  yld : ∀ {f v}, p f v → yl v = b
def Pq.is (u : Value) (h : yl u = none := by rfl) : Pq := ⟨fun _ v => v = u, none, [], fun _ h => h, fun {_ _} e => by rw [e]; exact h⟩
def Pq.bool (x : Bool) : Pq := ⟨fun _ v => v = .bool x, some x, [], fun _ h => h, fun {_ _} e => by rw [e]; rfl⟩
def Pq.off : Pq := Pq.is undef
def Pq.none : Pq := ⟨fun _ v => yl v = .none, .none, [], fun _ h => h, fun {_ _} e => e⟩
structure Cp (w0 w1 : World) (rc : List Res) where
  p : List Value → World → Prop
  st : ∀ {u W}, p u W → St w0 W rc
  bl : ∀ {u W}, p u W → Below w1.heap.size w1 W
  up : ∀ {u W W'}, p u W → Below W.heap.size W W' → p u W'
theorem St.dropn {w0 W : World} {rs : List Res} (k : Nat) (h : St w0 W rs) : St w0 W (rs.drop k) := h.sub (List.drop_sublist k rs)
def Cp.of {w0 w1 : World} {rc : List Res} {ι : Type} (us : ι → List Value) (R : ι → List Res) (pr : ∀ g W, St w0 W (R g) → St w0 W rc) : Cp w0 w1 rc :=
  ⟨fun u W => ∃ g, u = us g ∧ St w0 W (R g) ∧ Below w1.heap.size w1 W, fun ⟨g, _, h, _⟩ => pr g _ h, fun ⟨_, _, _, h⟩ => h, fun ⟨g, e, h, h2⟩ hb => ⟨g, e, by simpa using h.call (St.of_below hb), h2.trans (hb.mono h2.size)⟩⟩
theorem ce {a b : Value} {l l' : List Value} (h : a = b) (t : l = l') : a :: l = b :: l' := by rw [h, t]
def uAt (l : List Oper) (f : Nat → Value) (i : Nat) : Value := match eV l i with | some d => f d | none => undef
def uJ (l : List Oper) (F : List Pq) (o : Oper) : Bool :=
  match o.guard with
  | none => true
  | some (j, w) => (F.getD j Pq.off).b == some w
def rD (l : List Oper) (F : List Pq) : Bool :=
  (List.range l.length).all (fun i => ((F.getD i Pq.off).look).all (fun t => (List.range l.length).any (fun j => dep l i j && (match eV l j with | some d => Nat.beq d t | none => false))))
def wT (l : List Oper) (ws : List Nat) (ds : List (List Nat)) (tr : List (List (Nat × Nat))) : Bool :=
  ws.all (fun i => Nat.blt i l.length) && Nat.blt 0 ds.length && (ds.getD 0 []).isEmpty &&
  (List.range ds.length).all (fun s => (ds.getD s []).all (fun j => ws.contains j) && (!ws.all (fun j => (ds.getD s []).contains j) || Nat.beq (s + 1) ds.length) &&
    ws.all (fun i => (ds.getD s []).contains i || ws.any (fun j => dep l i j && !(ds.getD s []).contains j) ||
      (match wix ws i 0 with | some q => (tr.getD q []).any (fun t => Nat.beq t.1 s && Nat.blt t.2 ds.length && ws.all (fun j => (ds.getD t.2 []).contains j == ((ds.getD s []).contains j || Nat.beq j i))) | none => false)))
structure GrOk (l : List Oper) (ws : List Nat) (ds : List (List Nat)) (tr : List (List (Nat × Nat))) : Prop where
  lt : ∀ i, i ∈ ws → i < l.length
  pos : 0 < ds.length
  zero : ds.getD 0 [] = []
  sub : ∀ s, s < ds.length → ∀ j, j ∈ ds.getD s [] → j ∈ ws
  last : ∀ s, s < ds.length → (∀ j, j ∈ ws → j ∈ ds.getD s []) → s + 1 = ds.length
  go : ∀ s i q, s < ds.length → i ∈ ws → wix ws i 0 = some q → i ∉ ds.getD s [] → (∀ j, j ∈ ws → dep l i j = true → j ∈ ds.getD s []) → ∃ s2, (s, s2) ∈ tr.getD q [] ∧ s2 < ds.length ∧ ∀ j, j ∈ ws → (j ∈ ds.getD s2 [] ↔ j ∈ ds.getD s [] ∨ j = i)
theorem GrOk.of {l : List Oper} {ws : List Nat} {ds : List (List Nat)} {tr : List (List (Nat × Nat))} (h : wT l ws ds tr = true) : GrOk l ws ds tr := by
  unfold wT at h
  simp only [Bool.and_eq_true, List.all_eq_true, List.mem_range] at h
  obtain ⟨⟨⟨h1, h2⟩, h3⟩, h4⟩ := h
  refine ⟨fun i hi => lN (h1 i hi), lN h2, List.isEmpty_iff.1 h3, fun s hs j hj => by have := (h4 s hs).1.1 j hj; simpa using this, ?_, ?_⟩
  · intro s hs hall
    have h5 := (h4 s hs).1.2
    have h6 : ws.all (fun j => (ds.getD s []).contains j) = true := by rw [List.all_eq_true]; intro j hj; simpa using hall j hj
    rw [h6] at h5
    exact Nat.eq_of_beq_eq_true (by simpa using h5)
  · intro s i q hs hi hq hni hd
    have h5 := (h4 s hs).2 i hi
    rw [hq] at h5
    simp only [Bool.or_eq_true] at h5
    rcases h5 with (h5 | h5) | h5
    · exact absurd (by simpa using h5) hni
    · rw [List.any_eq_true] at h5
      obtain ⟨j, hj, h6⟩ := h5
      rw [Bool.and_eq_true] at h6
      have := hd j hj h6.1
      have h7 := h6.2
      rw [show (ds.getD s []).contains j = true by simpa using this] at h7
      cases h7
    · rw [List.any_eq_true] at h5
      obtain ⟨⟨t1, t2⟩, ht, h6⟩ := h5
      simp only [Bool.and_eq_true, List.all_eq_true] at h6
      obtain ⟨⟨h7, h8⟩, h9⟩ := h6
      have e := Nat.eq_of_beq_eq_true h7
      subst e
      refine ⟨t2, ht, lN h8, fun j hj => ?_⟩
      have h10 := h9 j hj
      simp only [beq_iff_eq] at h10
      have e1 : (j ∈ ds.getD t2 []) ↔ (ds.getD t2 []).contains j = true := by simp
      have e2 : (j ∈ ds.getD t1 []) ↔ (ds.getD t1 []).contains j = true := by simp
      rw [e1, e2, h10, Bool.or_eq_true]
      exact or_congr Iff.rfl ⟨fun h => Nat.eq_of_beq_eq_true h, fun h => by rw [h]; exact iG _⟩
section
variable {P : Program} {n : Nat} {w0 w1 : World} {rs : List Res} {Q : Exit → Act → World → Prop}
def AllTr (F : Nat → Nat → Prop) : List (Nat × Nat) → Prop
  | [] => True
  | t :: ts => F t.1 t.2 ∧ AllTr F ts
theorem AllTr.get {F : Nat → Nat → Prop} : ∀ {ts : List (Nat × Nat)}, AllTr F ts → ∀ s s2, (s, s2) ∈ ts → F s s2
  | t :: ts, h, s, s2, hm => by
    rcases List.mem_cons.1 hm with e | hm
    · rw [← e] at h; exact h.1
    · exact AllTr.get h.2 s s2 hm
def wN (P : Program) (n : Nat) (w0 w1 : World) (rs : List Res) (Q : Exit → Act → World → Prop) (ws : List Nat) (ds : List (List Nat)) (tr : List (List (Nat × Nat))) (C : Nat → Cp w0 w1 rs) (l : List Oper) (F : List Pq) (f0 : Nat → Value) (i : Nat) (o : Oper) (p : Pq) : Prop :=
  match wix ws i 0 with
  | some q => uJ l F o = true ∧ AllTr (fun s s2 => ∀ f W, (C s).p ((ds.getD s []).map (uAt l f)) W → (∀ j d, dep l i j = true → eV l j = some d → (F.getD j Pq.off).p f (f d)) → (∀ t, mN l i t = true → f t = f0 t) → Stp P n o f W Q (fun v W' => (C s2).p ((ds.getD s2 []).map (uAt l (iQ f o.dst v))) W' ∧ p.p f v)) (tr.getD q [])
  | none => ∀ f W, St w0 W rs → Below w1.heap.size w1 W → (∀ j d, dep l i j = true → eV l j = some d → (F.getD j Pq.off).p f (f d)) → (∀ t, mN l i t = true → f t = f0 t) →
      cond (uJ l F o) (Stp P n o f W Q (fun v W' => Below W.heap.size W W' ∧ p.p f v)) (p.p f undef)
def AllG (P : Program) (n : Nat) (w0 w1 : World) (rs : List Res) (Q : Exit → Act → World → Prop) (ws : List Nat) (ds : List (List Nat)) (tr : List (List (Nat × Nat))) (C : Nat → Cp w0 w1 rs) (l : List Oper) (F : List Pq) (f0 : Nat → Value) : Nat → List Oper → List Pq → Prop
  | _, [], [] => True
  | i, o :: os, p :: ps => wN P n w0 w1 rs Q ws ds tr C l F f0 i o p ∧ AllG P n w0 w1 rs Q ws ds tr C l F f0 (i + 1) os ps
  | _, _, _ => False
theorem AllG.get {ws : List Nat} {ds : List (List Nat)} {tr : List (List (Nat × Nat))} {C : Nat → Cp w0 w1 rs} {l : List Oper} {F : List Pq} {f0 : Nat → Value} : ∀ {os : List Oper} {ps : List Pq} {k : Nat}, AllG P n w0 w1 rs Q ws ds tr C l F f0 k os ps → ∀ i o, os[i]? = some o → ∃ p, ps[i]? = some p ∧ wN P n w0 w1 rs Q ws ds tr C l F f0 (k + i) o p
  | o :: os, p :: ps, k, h, 0, o', hi => by simp at hi; subst hi; exact ⟨p, rfl, h.1⟩
  | o :: os, p :: ps, k, h, i + 1, o', hi => by
    obtain ⟨q, hq, hs⟩ := AllG.get h.2 i o' (by simpa using hi)
    exact ⟨q, by simpa using hq, by rw [← Nat.add_assoc, Nat.add_right_comm]; exact hs⟩
  | [], _, _, _, i, o', hi => by simp at hi
  | o :: os, [], _, h, _, _, _ => h.elim
theorem lookOk_get {l : List Oper} {F : List Pq} (h : rD l F = true) : ∀ i, i < l.length → ∀ t ∈ (F.getD i Pq.off).look, ∃ j, dep l i j = true ∧ eV l j = some t := by
  intro i hi t ht
  unfold rD at h
  rw [List.all_eq_true] at h
  have h1 := h i (by simpa using hi)
  rw [List.all_eq_true] at h1
  have h2 := h1 t ht
  rw [List.any_eq_true] at h2
  obtain ⟨j, _, h3⟩ := h2
  rw [Bool.and_eq_true] at h3
  refine ⟨j, h3.1, ?_⟩
  cases hd : eV l j with
  | none => rw [hd] at h3; exact absurd h3.2 (by simp)
  | some d => rw [hd] at h3; rw [Nat.eq_of_beq_eq_true h3.2]
structure InvG (w0 w1 : World) (rs : List Res) (ws : List Nat) (ds : List (List Nat)) (C : Nat → Cp w0 w1 rs) (l : List Oper) (m : Nat) (F : List Pq) (f0 : Nat → Value) (L : Array Bool) (f : Nat → Value) (W : World) : Prop where
  size : L.size = l.length + m
  tail : ∀ i, l.length ≤ i → i < L.size → L[i]? = some false
  ex : ∃ s, s < ds.length ∧ (∀ i, i ∈ ws → (L[i]? = some true ↔ i ∈ ds.getD s [])) ∧ (C s).p ((ds.getD s []).map (uAt l f)) W
  vals : ∀ i d, i < l.length → L[i]? = some true → eV l i = some d → (F.getD i Pq.off).p f (f d)
  keep : ∀ t, (∀ i, i < l.length → L[i]? = some true → eV l i ≠ some t) → f t = f0 t
  down : ∀ i j, i < l.length → L[i]? = some true → dep l i j = true → L[j]? = some true
theorem any_mainG {ws : List Nat} {ds : List (List Nat)} {tr : List (List (Nat × Nat))} {C : Nat → Cp w0 w1 rs} {l tl : List Oper} {F : List Pq} {f0 : Nat → Value} (ho : OrdOk n l) (hws : GrOk l ws ds tr) (hfx : rD l F = true) (hs : AllG P n w0 w1 rs Q ws ds tr C l F f0 0 l F)
    (ht : ∀ i o, l.length ≤ i → (l ++ tl)[i]? = some o → (∃ j, l.length ≤ j ∧ dep (l ++ tl) i j = true) ∨ ∀ j, j < l.length → dep (l ++ tl) i j = true ∨ ∃ m, j < m ∧ m < l.length ∧ dep l m j = true)
    (fin : ∀ fuel L f W, tl.length ≤ fuel → (∀ i, i < l.length → L[i]? = some true) → InvG w0 w1 rs ws ds C l tl.length F f0 L f W → wpAny P .any (l ++ tl).toArray Q fuel L (act n f) W) :
    ∀ fuel L f W, InvG w0 w1 rs ws ds C l tl.length F f0 L f W → (L.toList.countP (fun b => !b)) ≤ fuel → wpAny P .any (l ++ tl).toArray Q fuel L (act n f) W := by
  intro fuel
  induction fuel with
  | zero =>
    intro L f W hI hc
    have hall : ∀ i, i < L.size → L[i]? = some true := by
      intro i hi
      have h0 : L.toList.countP (fun b => !b) = 0 := by omega
      rw [List.countP_eq_zero] at h0
      have := h0 L[i] (by simp)
      rw [Array.getElem?_eq_getElem hi]
      simpa using this
    have htl : tl.length = 0 := by
      by_cases h : tl.length = 0
      · exact h
      · have h1 := hI.tail l.length (Nat.le_refl _) (by rw [hI.size]; omega)
        have h2 := hall l.length (by rw [hI.size]; omega)
        rw [h1] at h2; cases h2
    exact fin 0 L f W (by omega) (fun i hi => hall i (by rw [hI.size]; omega)) hI
  | succ fuel ih =>
    intro L f W hI hc
    by_cases hall : ∀ i, i < l.length → L[i]? = some true
    · refine fin (fuel + 1) L f W ?_ hall hI
      have : tl.length ≤ L.toList.countP (fun b => !b) := by
        have e : L.toList = L.toList.take l.length ++ L.toList.drop l.length := (List.take_append_drop _ _).symm
        rw [e, List.countP_append]
        have : (L.toList.drop l.length).countP (fun b => !b) = (L.toList.drop l.length).length := by
          rw [List.countP_eq_length]
          intro b hb
          obtain ⟨j, hj⟩ := List.mem_iff_getElem?.1 hb
          rw [List.getElem?_drop, Array.getElem?_toList] at hj
          have hlt : l.length + j < L.size := (Array.getElem?_eq_some_iff.1 hj).1
          rw [hI.tail _ (by omega) hlt] at hj
          cases hj; rfl
        rw [this, List.length_drop]
        have h3 := hI.size
        have h4 : L.toList.length = L.size := Array.length_toList
        omega
      omega
    · -- the rF that has not come up
      have hex : ∃ i, i < l.length ∧ L[i]? = some false := by
        apply Classical.byContradiction
        intro hn
        apply hall
        intro i hi
        cases h : L[i]? with
        | none => rw [Array.getElem?_eq_none_iff, hI.size] at h; omega
        | some b =>
          cases b
          · exact absurd ⟨i, hi, h⟩ hn
          · rfl
      obtain ⟨i0, ⟨hi0, hf0⟩, hmin⟩ := rF hex
      have hlen : (l ++ tl).length = l.length + tl.length := List.length_append
      have hready : i0 ∈ Region.ready .any (l ++ tl).toArray L := by
        unfold Region.ready
        rw [List.mem_filter]
        obtain ⟨o, hoo⟩ : ∃ o, l[i0]? = some o := ⟨_, List.getElem?_eq_getElem hi0⟩
        have hoo' : (l ++ tl)[i0]? = some o := by rw [List.getElem?_append_left hi0]; exact hoo
        refine ⟨by rw [List.mem_range, List.size_toArray, hlen]; omega, ?_⟩
        rw [Array.getD_eq_getD_getElem?, hf0]
        simp only [Option.getD_some, Bool.not_false, Bool.true_and, List.getElem?_toArray, hoo', Option.map_some]
        rw [Array.all_eq_true_iff_forall_mem]
        intro e he
        by_cases hb : Region.binds .any e = true
        · have hd := wL hoo he hb
          have hj := ho.lt i0 e.on hi0 hd
          have : L[e.on]? = some true := by
            cases h : L[e.on]? with
            | none => rw [Array.getElem?_eq_none_iff, hI.size] at h; omega
            | some b =>
              cases b
              · have := hmin e.on ⟨by omega, h⟩; omega
              · rfl
          rw [getD_t.2 this]; simp
        · simp only [Bool.not_eq_true] at hb
          rw [hb]; rfl
      refine ⟨fun h => (by rw [h] at hready; cases hready), ?_⟩
      intro i hi
      unfold Region.ready at hi
      rw [List.mem_filter, List.mem_range, List.size_toArray, hlen] at hi
      obtain ⟨hilt, hi⟩ := hi
      obtain ⟨o, hoo⟩ : ∃ o, (l ++ tl)[i]? = some o := ⟨_, List.getElem?_eq_getElem (by rw [hlen]; exact hilt)⟩
      simp only [List.getElem?_toArray, hoo, Option.map_some, Option.getD_some, Bool.and_eq_true, Bool.not_eq_true'] at hi
      obtain ⟨hun, hdep⟩ := hi
      have hun' : L[i]? = some false := by
        rw [Array.getD_eq_getD_getElem?] at hun
        cases h : L[i]? with
        | none => rw [h] at hun; cases hun
        | some b => rw [h] at hun; simp at hun; rw [hun]
      rw [Array.all_eq_true_iff_forall_mem] at hdep
      have hdep' : ∀ e ∈ o.after, Region.binds .any e = true → L[e.on]? = some true := by
        intro e he hb
        have := hdep e he
        rw [hb] at this
        exact getD_t.1 (by simpa using this)
      have hiN : i < l.length := by
        by_cases h : i < l.length
        · exact h
        · exfalso
          rcases ht i o (by omega) hoo with ⟨j, hj, hd⟩ | hcov
          · obtain ⟨e, he, heq, hb⟩ := nR hoo hd
            have h1 := hdep' e he hb
            rw [heq] at h1
            rw [hI.tail j hj (Array.getElem?_eq_some_iff.1 h1).1] at h1
            cases h1
          · have key : ∀ m j, l.length - j = m → j < l.length → L[j]? = some true := by
              intro m
              induction m using Nat.strongRecOn with
              | _ m ihm =>
                intro j hm hj
                rcases hcov j hj with hd | ⟨m', h1, h2, h3⟩
                · obtain ⟨e, he, heq, hb⟩ := nR hoo hd
                  rw [← heq]; exact hdep' e he hb
                · exact hI.down m' j h2 (ihm (l.length - m') (by omega) m' rfl h2) h3
            have := key _ i0 rfl hi0
            rw [hf0] at this
            cases this
      have hol : l[i]? = some o := by rw [List.getElem?_append_left hiN] at hoo; exact hoo
      obtain ⟨p, hp, hstep⟩ := hs.get i o hol
      rw [Nat.zero_add] at hstep
      have hpF : F.getD i Pq.off = p := by rw [List.getD_eq_getElem?_getD, hp]; rfl
      have hdl : ∀ j, dep l i j = true → L[j]? = some true := by
        intro j hj
        obtain ⟨e, he, heq, hb⟩ := nR hol hj
        rw [← heq]; exact hdep' e he hb
      have hdp : ∀ j d, dep l i j = true → eV l j = some d → (F.getD j Pq.off).p f (f d) := (fun j d hj hd => hI.vals j d (by have := ho.lt i j hiN hj; omega) (hdl j hj) hd)
      have hkp : ∀ t, mN l i t = true → f t = f0 t := (fun t hk => by
        refine hI.keep t (fun j hjN hj hd => ?_)
        unfold mN at hk
        rw [List.all_eq_true] at hk
        have := hk j (by simpa using hjN)
        rw [hd] at this
        simp only [iG, Bool.not_true, Bool.or_false, Bool.or_eq_true] at this
        rcases this with h | h
        · rw [Nat.eq_of_beq_eq_true h, hun'] at hj; cases hj
        · have := hI.down j i hjN hj h
          rw [hun'] at this; cases this)
      have hput : ∀ v t, (∀ d, o.dst = some d → d ≠ t) → iQ f o.dst v t = f t := by
        intro v t h
        cases hod : o.dst with
        | none => rfl
        | some d' =>
          simp only [iQ, upd]
          rw [tI (fun e' => h d' hod e'.symm)]; rfl
      have hlook : ∀ j, j < l.length → (j = i ∨ L[j]? = some true) → ∀ v, ∀ t ∈ (F.getD j Pq.off).look, f t = iQ f o.dst v t := by
        intro j hjN hj v t ht
        obtain ⟨k, hk1, hk2⟩ := lookOk_get hfx j hjN t ht
        have hkj := ho.lt j k hjN hk1
        have hkL : L[k]? = some true := by
          rcases hj with rfl | hj
          · exact hdl k hk1
          · exact hI.down j k hjN hj hk1
        refine (hput v t (fun d hd e => ?_)).symm
        have hki : k ≠ i := fun e' => by rw [e', hun'] at hkL; cases hkL
        exact ho.ne k i t (by omega) hiN hki hk2 (by rw [show eV l i = o.dst by simp [eV, hol], hd, e])
      have next : ∀ v W', (∃ s, s < ds.length ∧ (∀ j, j ∈ ws → ((L.setIfInBounds i true)[j]? = some true ↔ j ∈ ds.getD s [])) ∧ (C s).p ((ds.getD s []).map (uAt l (iQ f o.dst v))) W') → p.p f v → wpAny P .any (l ++ tl).toArray Q fuel (L.setIfInBounds i true) (act n (iQ f o.dst v)) W' := by
        intro v W' hex hv
        have hdo : eV l i = o.dst := by simp [eV, hol]
        have hsz : i < L.size := (Array.getElem?_eq_some_iff.1 hun').1
        have hother : ∀ j, j ≠ i → (L.setIfInBounds i true)[j]? = L[j]? := fun j hj => by rw [Array.getElem?_setIfInBounds, if_neg (fun e => hj e.symm)]
        have hself : (L.setIfInBounds i true)[i]? = some true := by rw [Array.getElem?_setIfInBounds]; simp [hsz]
        refine ih _ _ _ ⟨by simpa using hI.size, ?_, hex, ?_, ?_, ?_⟩ ?_
        · intro j hj hjs
          rw [hother j (by omega)]
          exact hI.tail j hj (by simpa using hjs)
        · intro j d hj hl hd
          by_cases e : j = i
          · subst e
            rw [hpF]
            rw [hdo] at hd
            have hv2 := p.fr (by rw [← hpF]; exact hlook j hiN (.inl rfl) v) hv
            have e3 : iQ f o.dst v d = v := by rw [hd]; simp only [iQ, upd, iG, cond_true]
            rw [e3]
            exact hv2
          · rw [hother j e] at hl
            have hold := hI.vals j d hj hl hd
            have : iQ f o.dst v d = f d := by
              cases hod : o.dst with
              | none => rfl
              | some d' =>
                simp only [iQ, upd]
                rw [tI (fun e' => ho.ne j i d hj hiN e hd (by rw [hdo, hod, e']))]; rfl
            rw [this]
            exact (F.getD j Pq.off).fr (hlook j hj (.inr hl) v) hold
        · intro t hk
          have hne : o.dst ≠ some t := by rw [← hdo]; exact hk i hiN hself
          have : iQ f o.dst v t = f t := by
            cases hod : o.dst with
            | none => rfl
            | some d' =>
              simp only [iQ, upd]
              rw [tI (fun e' => hne (by rw [hod, e']))]; rfl
          rw [this]
          refine hI.keep t (fun j hj hl => ?_)
          by_cases e : j = i
          · subst e; rw [hdo]; exact hne
          · exact hk j hj (by rw [hother j e]; exact hl)
        · intro j k hj hl hd
          by_cases e : j = i
          · subst e
            have hk := hdl k hd
            by_cases e2 : k = j
            · subst e2; exact hself
            · rw [hother k e2]; exact hk
          · rw [hother j e] at hl
            have hk := hI.down j k hj hl hd
            by_cases e2 : k = i
            · subst e2; exact hself
            · rw [hother k e2]; exact hk
        · have hcount : (L.setIfInBounds i true).toList.countP (fun b => !b) + 1 = L.toList.countP (fun b => !b) := by
            rw [Array.toList_setIfInBounds]
            have hget : L.toList[i]? = some false := by rw [Array.getElem?_toList]; exact hun'
            exact pT _ _ hget
          omega
      unfold wpOp
      simp only [List.getElem?_toArray, hoo]
      have hw : Region.wanted o (yielded (l ++ tl).toArray (act n f).tmps) = uJ l F o := by
        unfold Region.wanted uJ
        cases hg : o.guard with
        | none => rfl
        | some jw =>
          obtain ⟨j, w⟩ := jw
          obtain ⟨hd, dd, hdd⟩ := ho.guard i o j w hol hg
          have hjN : j < l.length := by have := ho.lt i j hiN hd; omega
          have hv := hI.vals j dd hjN (hdl j hd) hdd
          have hy := (F.getD j Pq.off).yld hv
          have hdn := ho.dst j dd hjN hdd
          have : yielded (l ++ tl).toArray (act n f).tmps j = (F.getD j Pq.off).b := by
            rw [← hy]
            unfold yielded
            have e1 : (((l ++ tl).toArray[j]?).bind (·.dst)) = some dd := by
              rw [List.getElem?_toArray, List.getElem?_append_left hjN]; exact hdd
            rw [e1]
            simp only [Option.bind_some]
            have e2 : (act n f).tmps[dd]? = some (f dd) := by simp [act, hdn]
            rw [e2]
            cases f dd <;> rfl
          simp only [this]
      rw [hw]
      obtain ⟨c, hc, hiff, hst⟩ := hI.ex
      have hsz : i < L.size := (Array.getElem?_eq_some_iff.1 hun').1
      have hother : ∀ j, j ≠ i → (L.setIfInBounds i true)[j]? = L[j]? := fun j hj => by rw [Array.getElem?_setIfInBounds, if_neg (fun e => hj e.symm)]
      have hself : (L.setIfInBounds i true)[i]? = some true := by rw [Array.getElem?_setIfInBounds]; simp [hsz]
      unfold wN at hstep
      have huat : ∀ v k, k < ds.length → i ∉ ds.getD k [] → (ds.getD k []).map (uAt l (iQ f o.dst v)) = (ds.getD k []).map (uAt l f) := by
        intro v k hk hne
        apply List.map_congr_left
        intro x hx
        have hxw := hws.sub k hk x hx
        unfold uAt
        cases hxd : eV l x with
        | none => rfl
        | some d =>
          refine hput v d (fun d' hd' e => ?_)
          have hxi : x ≠ i := fun e' => hne (by rw [← e']; exact hx)
          exact ho.ne x i d (hws.lt x hxw) hiN hxi hxd (by rw [show eV l i = o.dst by simp [eV, hol], hd', e])
      cases hq : wix ws i 0 with
      | some q =>
        rw [hq] at hstep
        simp only at hstep
        obtain ⟨j, e1, e2⟩ := tU hq
        have hiw : i ∈ ws := List.mem_of_getElem? e2
        have hic : i ∉ ds.getD c [] := fun h => by rw [(hiff i hiw).2 h] at hun'; cases hun'
        obtain ⟨s2, ht2, hs2, hset⟩ := hws.go c i q hc hiw hq hic (fun j hj hd => (hiff j hj).1 (hdl j hd))
        have hc2 : ∀ j, j ∈ ws → ((L.setIfInBounds i true)[j]? = some true ↔ j ∈ ds.getD s2 []) := by
          intro j hj
          rw [hset j hj]
          by_cases e : j = i
          · subst e
            rw [hself]
            exact ⟨fun _ => .inr rfl, fun _ => rfl⟩
          · rw [hother j e, hiff j hj]
            exact ⟨fun h => .inl h, fun h => h.resolve_right e⟩
        rw [hstep.1]
        simp only [if_true]
        exact .inl (Oper.wp_mono (fun a' w' ⟨v, e, hb, hv⟩ => by rw [e]; exact next v w' ⟨s2, hs2, hc2, hb⟩ hv) (hstep.2.get c s2 ht2 f W hst hdp hkp).out)
      | none =>
        rw [hq] at hstep
        simp only at hstep
        have hni := tV hq
        have hiw : i ∉ ws := fun h => by
          obtain ⟨j, hj⟩ := List.mem_iff_getElem?.1 h
          exact hni j hj
        have hex : ∀ v W', Below W.heap.size W W' → ∃ s, s < ds.length ∧ (∀ j, j ∈ ws → ((L.setIfInBounds i true)[j]? = some true ↔ j ∈ ds.getD s [])) ∧ (C s).p ((ds.getD s []).map (uAt l (iQ f o.dst v))) W' := fun v W' h =>
          ⟨c, hc, fun j hj => by rw [hother j (fun e => hiw (by rw [← e]; exact hj))]; exact hiff j hj, by rw [huat v c hc (fun h => hiw (hws.sub c hc i h))]; exact (C c).up hst h⟩
        have h1 := hstep f W ((C c).st hst) ((C c).bl hst) hdp hkp
        cases hon : uJ l F o with
        | true =>
          rw [hon] at h1
          simp only [cond_true] at h1
          simp only [if_true]
          exact .inl (Oper.wp_mono (fun a' w' ⟨v, e, hb, hv⟩ => by rw [e]; exact next v w' (hex v w' hb) hv) h1.out)
        | false =>
          rw [hon] at h1
          simp only [cond_false] at h1
          simp only [Bool.false_eq_true, if_false]
          rw [lR]
          exact next undef W (hex undef W (Below.refl _ _)) h1

theorem inv_startG {ws : List Nat} {ds : List (List Nat)} {C : Nat → Cp w0 w1 rs} {l : List Oper} {m : Nat} {F : List Pq} {f0 : Nat → Value} {W : World} (hp : 0 < ds.length) (hz : ds.getD 0 [] = []) (hst : (C 0).p [] W) : InvG w0 w1 rs ws ds C l m F f0 (Array.replicate (l.length + m) false) f0 { W with drawn := W.drawn + 1 } := by
  have hb : Below W.heap.size W { W with drawn := W.drawn + 1 } := (Below.refl _ _).drew
  have hno : ∀ i : Nat, (Array.replicate (l.length + m) false)[i]? ≠ some true := by
    intro i h
    rw [Array.getElem?_replicate] at h
    split at h <;> cases h
  refine ⟨by simp, ?_, ⟨0, hp, fun i _ => ⟨fun h => absurd h (hno i), fun h => by rw [hz] at h; cases h⟩, by rw [hz]; exact (C 0).up hst hb⟩, ?_, fun _ _ => rfl, ?_⟩
  · intro i _ h
    rw [Array.getElem?_replicate, if_pos (by simpa using h)]
  · intro i d _ h; exact absurd h (hno i)
  · intro i j _ h; exact absurd h (hno i)
theorem sx_anyGT {id : Nat} {l : List Oper} (tl : List Oper) (ws : List Nat) (ds : List (List Nat)) (tr : List (List (Nat × Nat))) (C : Nat → Cp w0 w1 rs) {W : World} {f0 : Nat → Value} (F : List Pq) (hm : P.follows .mixedOrders = true) (ho : qZ n l = true) (hT : lZ l tl = true) (hiw : wT l ws ds tr = true)
    (hst : (C 0).p [] W) (hfx : rD l F = true) (hs : AllG P n w0 w1 rs Q ws ds tr C l F f0 0 l F)
    (fin : ∀ f W', (C (ds.length - 1)).p ((ds.getD (ds.length - 1) []).map (uAt l f)) W' → (∀ i d, i < l.length → eV l i = some d → (F.getD i Pq.off).p f (f d)) → (∀ t, lE l t = true → f t = f0 t) → Wl P (l ++ tl).toArray Q tl n f W') :
    (Code.region id (l ++ tl).toArray true).wp P Q (act n f0) W := by
  refine wp_region_any hm ?_
  have h := any_mainG (ws := ws) (ds := ds) (tr := tr) (C := C) (tl := tl) (OrdOk.of ho) (GrOk.of hiw) hfx hs (vM hT) ?_ (l.length + tl.length) (Array.replicate (l.length + tl.length) false) f0 { W with drawn := W.drawn + 1 } (inv_startG (GrOk.of hiw).pos (GrOk.of hiw).zero hst) ?_
  · simpa using h
  · intro fuel L f W' hfuel hall hI
    have hall2 : (C (ds.length - 1)).p ((ds.getD (ds.length - 1) []).map (uAt l f)) W' := by
      obtain ⟨c, hc, hiff, hst⟩ := hI.ex
      have := (GrOk.of hiw).last c hc (fun j hj => (hiff j hj).1 (hall j ((GrOk.of hiw).lt j hj)))
      have e : c = ds.length - 1 := by omega
      rw [e] at hst; exact hst
    have hf := fin f W' hall2 (fun i d hi hd => hI.vals i d hi (hall i hi) hd) (fun t ht => hI.keep t (fun i hi _ => nT ht i hi))
    exact uT hT tl.length 0 fuel L _ W' (by omega) (Nat.zero_le _) hfuel hI.size (fun j hj => hall j (by omega)) (fun j hj hjs => hI.tail j (by omega) hjs) (by simpa using hf.out)
  · have := List.countP_le_length (p := fun b => !b) (l := (Array.replicate (l.length + tl.length) false).toList)
    simpa using this
theorem iH {id : Nat} {l : List Oper} (k : Nat) (ws : List Nat) (ds : List (List Nat)) (tr : List (List (Nat × Nat))) (C : Nat → Cp w0 w1 rs) {W : World} {f0 : Nat → Value} (F : List Pq) (hm : P.follows .mixedOrders = true) (ho : qZ n (l.take k) = true) (hT : lZ (l.take k) (l.drop k) = true) (hiw : wT (l.take k) ws ds tr = true)
    (hst : (C 0).p [] W) (hfx : rD (l.take k) F = true) (hs : AllG P n w0 w1 rs Q ws ds tr C (l.take k) F f0 0 (l.take k) F)
    (fin : ∀ f W', (C (ds.length - 1)).p ((ds.getD (ds.length - 1) []).map (uAt (l.take k) f)) W' → (∀ i d, i < (l.take k).length → eV (l.take k) i = some d → (F.getD i Pq.off).p f (f d)) → (∀ t, lE (l.take k) t = true → f t = f0 t) → Wl P l.toArray Q (l.drop k) n f W') :
    (Code.region id l.toArray true).wp P Q (act n f0) W := by
  have h := sx_anyGT (id := id) (l := l.take k) (l.drop k) ws ds tr C F hm ho hT hiw hst hfx hs (by rw [List.take_append_drop]; exact fin)
  rwa [List.take_append_drop] at h
end
end Go.Proofs.YtchnllpegfbleaaGreat
namespace Go.Proofs.YtchnllpegfbleaaGreat
set_option linter.unusedSimpArgs false
set_option linter.unusedVariables false
open Go.RowKit
section
variable {P : Program} {n : Nat} {f : Nat → Value} {w0 W : World} {rs : List Res} {Q : Exit → Act → World → Prop} {d : Option Tmp} {ty : TypeId} {pos : String} {af : Array Go.Edge} {g : Option (Nat × Bool)} {K : Value → World → Prop} {α : Type} [Shape α]
theorem iP {t e : TypeId} {bytes : Nat} {s x : Operand} {v : Value} {xs : List α} {z : α} {fe fz : List Nat} {b : Nat} {cs : List Value} (hT : ApOk P t e α bytes) (hs : ev n f s = v) (hx : ev n f x = .slice (some ⟨b, 0, none⟩) 1 1)
    (hst : St w0 W (Res.row e v xs fe :: Res.bx b cs e :: Res.cs cs z fz :: rs)) (h63 : xs.length + 1 ≤ maxLen) (hby : (xs.length + 1) * bytes ≤ 140737488355328)
    (k : ∀ v' W', St w0 W' (Res.row e v' (xs ++ [z]) (fe ++ fz) :: rs) → K v' W') :
    Stp P n ⟨d, .call { callee := .builtin .append, args := #[s, x], argTypes := #[t, t] }, ty, pos, af, g⟩ f W Q K := by
  have hc := hst.get 2 rfl
  have hst2 : St w0 W (Res.row e v xs fe :: Res.bx b cs e :: rs) := hst.d2
  have hb := hst.get 1 rfl
  have hnd := hst.nodup
  simp only [List.flatMap_cons, List.nodup_append] at hnd
  refine kW hT hs hx (m := 1) rfl hst.d2 (Elems.single hc.1) ?_ hc.2 ?_ ?_ h63 hby ?_
  · intro j u hj
    rw [Addr.add_mid]
    exact cD hb j u hj
  · exact hnd.2.1.2.1.1
  · intro c hcz
    refine ⟨fun hm => ?_, fun hm => ?_, hst.fresh _ (List.mem_cons_of_mem _ (List.mem_cons_of_mem _ (List.mem_cons_self ..))) c hcz⟩
    · exact hnd.2.2 c hm c (List.mem_append_right _ (List.mem_append_left _ hcz)) rfl
    · rw [List.flatMap_cons] at hm
      rcases List.mem_append.1 hm with hm | hm
      · exact hnd.2.1.2.2 c hm c (List.mem_append_left _ hcz) rfl
      · exact hnd.2.1.2.1.2.2 c hcz c hm rfl
  · intro v' W' h
    exact k v' W' h.d1
end
end Go.Proofs.YtchnllpegfbleaaGreat
namespace Go.Proofs.YtchnllpegfbleaaGreat
set_option linter.unusedSimpArgs false
set_option linter.unusedVariables false
open Go.RowKit
theorem kK {id : Nat} {K : Act → World → Prop} {Q : Exit → Act → World → Prop} {a : Act} {w : World} (h : Q (.exit id) a w) : Exit.then K Q (.exit id) a w := h
theorem mP {id : Nat} {Q : Exit → Act → World → Prop} {a : Act} {w : World} (h : Q .normal a w) : Exit.inBlock id Q (.exit id) a w := by unfold Exit.inBlock; simpa using h
theorem kQ {id i : Nat} {Q : Exit → Act → World → Prop} {a : Act} {w : World} (hn : Nat.beq i id = false) (h : Q (.exit i) a w) : Exit.inBlock id Q (.exit i) a w := by
  have : i ≠ id := fun e => by rw [e, Nat.beq_refl] at hn; cases hn
  unfold Exit.inBlock; simpa [this] using h
section
variable {P : Program} {n : Nat} {f : Nat → Value} {w0 W : World} {rs : List Res} {Q : Exit → Act → World → Prop} {d : Option Tmp} {ty : TypeId} {pos : String} {af : Array Go.Edge} {g : Option (Nat × Bool)} {K : Value → World → Prop}
theorem dB {x : Operand} {a : Addr} (hx : ev n f x = .pointer (some a)) (k : K (.pointer (some a)) W) : Stp P n ⟨d, .nilCheck x, ty, pos, af, g⟩ f W Q K :=
  Stp.run (v := .pointer (some a)) (by simp only [execOp, hx]; rfl) k
theorem ret0 {fn : Func} {R : Ending → World → Prop} (hr : fn.results = #[]) (h : R (.returned (.tuple #[])) W) : bodyPost P fn R .ret (act n f) W :=
  ⟨rfl, _, results_none hr _ _ _, h⟩
theorem wK {fn : Func} {R : Ending → World → Prop} (hr : fn.results = #[]) (h : R (.returned (.tuple #[])) W) : bodyPost P fn R .normal (act n f) W :=
  ⟨rfl, _, results_none hr _ _ _, h⟩
end
theorem wP {v : Value} {k i b o : Nat} (h : PA v k i b o) : v.oneCell' = true := by obtain ⟨_, _, _, rfl, _⟩ := h; rfl
theorem tW {α : Type} [Shape α] {w W : World} {rs : List Res} {v : Value} {xs : List α} (h : ∀ W', St w W' rs → ∃ f, Sl W' v xs f) (st : St w W rs) : Sl W v xs (Classical.choose (h W st)) := Classical.choose_spec (h W st)
theorem PA_yl {v : Value} {k i b o : Nat} (h : PA v k i b o) : yl v = none := by obtain ⟨_, _, _, rfl, _⟩ := h; rfl
theorem pQ {α : Type} [Shape α] {w : World} {v : Value} {xs : List α} {fp : List Nat} (hs : Sl w v xs fp) {i : Nat} {y : α} (h : xs[i]? = some y) : ∃ b o cs f1, PA v (Shape.size α) i b o ∧ w.rangeAt b o cs ∧ Shape.C w cs y f1 ∧ ∀ c ∈ b :: f1, c ∈ fp := by
  obtain ⟨hl, rfl⟩ := List.getElem?_eq_some_iff.1 h
  exact idx hs hl
end Go.Proofs.YtchnllpegfbleaaGreat
namespace Go.Proofs.YtchnllpegfbleaaGreat
set_option linter.unusedSimpArgs false
set_option linter.unusedVariables false
set_option maxRecDepth 100000
open Go.RowKit


def mkL {α : Type} (f : α → Int → α) (n : α → Nat) : List α → Int → List α
  | [], _ => []
  | x :: xs, k => f x k :: mkL f n xs (k + (n x : Nat))
def cL {α : Type} (n : α → Nat) (xs : List α) : Nat := (xs.map n).sum
section
variable {α : Type} {f : α → Int → α} {n : α → Nat}
theorem eY : ∀ (xs : List α) (k : Int), (mkL f n xs k).length = xs.length
  | [], _ => rfl
  | x :: xs, k => by simp [mkL, eY xs]
theorem cL_take (n : α → Nat) (xs : List α) (i : Nat) (h : i < xs.length) : cL n (xs.take (i + 1)) = cL n (xs.take i) + n xs[i] := nX n xs i h
theorem fR (n : α → Nat) (xs : List α) (i : Nat) : cL n (xs.take i) ≤ cL n xs := iL n xs i
theorem jM (n : α → Nat) (xs : List α) (i : Nat) (h : i = xs.length) : cL n (xs.take i) = cL n xs := by subst h; rw [List.take_length]
theorem nS : ∀ (xs ys : List α) (k : Int), mkL f n (xs ++ ys) k = mkL f n xs k ++ mkL f n ys (k + (cL n xs : Nat))
  | [], ys, k => by simp [mkL, cL]
  | x :: xs, ys, k => by
    simp only [List.cons_append, mkL, nS xs ys, cL, List.map_cons, List.sum_cons]
    congr 3
    push_cast; omega
theorem mk_get? {xs : List α} {k : Int} {i : Nat} (h : i < xs.length) : (mkL f n (xs.take i) k ++ xs.drop i)[i]? = some xs[i] := by
  have hl : (mkL f n (xs.take i) k).length = i := by rw [eY, List.length_take]; omega
  rw [List.getElem?_append_right (by omega), hl, Nat.sub_self, List.getElem?_drop, Nat.add_zero, List.getElem?_eq_getElem h]
theorem mk_step {xs : List α} {k K : Int} {i : Nat} (h : i < xs.length) (hK : K = k + (cL n (xs.take i) : Nat)) : (mkL f n (xs.take i) k ++ xs.drop i).set i (f xs[i] K) = mkL f n (xs.take (i + 1)) k ++ xs.drop (i + 1) := by
  have hl : (mkL f n (xs.take i) k).length = i := by rw [eY, List.length_take]; omega
  rw [List.set_append_right _ _ (by omega), hl, Nat.sub_self, List.drop_eq_getElem_cons h, List.set_cons_zero, List.take_succ_eq_append_getElem h, nS, List.append_assoc]
  subst hK
  rfl
theorem pP {xs : List α} {k : Int} {i : Nat} (h : i = xs.length) : mkL f n (xs.take i) k ++ xs.drop i = mkL f n xs k := by subst h; simp
theorem mk_get {xs : List α} {k : Int} {i : Nat} (h : i < xs.length) : (mkL f n xs k)[i]? = some (f xs[i] (k + (cL n (xs.take i) : Nat))) := by
  have e : xs = xs.take i ++ xs.drop i := by simp
  have hl : (mkL f n (xs.take i) k).length = i := by rw [eY, List.length_take]; omega
  conv => lhs; rw [e, nS]
  rw [List.getElem?_append_right (by omega), hl, Nat.sub_self, List.drop_eq_getElem_cons h]
  rfl
theorem idxm [Shape α] {w : World} {v : Value} {xs : List α} {fp : List Nat} {k K : Int} (hs : Sl w v (mkL f n xs k) fp) {i : Nat} (hi : i < xs.length) (hK : K = k + (cL n (xs.take i) : Nat)) : ∃ b o cs f1, PA v (Shape.size α) i b o ∧ w.rangeAt b o cs ∧ Shape.C w cs (f xs[i] K) f1 ∧ ∀ c ∈ b :: f1, c ∈ fp := by
  obtain ⟨b, o, cs, f1, h1, h2, h3, h4⟩ := idx hs (i := i) (by rw [eY]; exact hi)
  refine ⟨b, o, cs, f1, h1, h2, ?_, h4⟩
  have := mk_get (f := f) (n := n) (xs := xs) (k := k) hi
  obtain ⟨hl, he⟩ := List.getElem?_eq_some_iff.1 this
  rw [he, ← hK] at h3
  exact h3
end
section
variable {α : Type} {f : α → Int → α} {n : α → Nat}
theorem gW (n : α → Nat) {xs : List α} {i : Nat} {y : α} (h : xs[i]? = some y) : cL n (xs.take (i + 1)) = cL n (xs.take i) + n y := by
  obtain ⟨hl, rfl⟩ := List.getElem?_eq_some_iff.1 h
  exact cL_take n xs i hl
theorem mY {xs : List α} {k : Int} {i : Nat} {y : α} (h : xs[i]? = some y) : (mkL f n (xs.take i) k ++ xs.drop i)[i]? = some y := by
  obtain ⟨hl, rfl⟩ := List.getElem?_eq_some_iff.1 h
  exact mk_get? hl
theorem kP {xs : List α} {k K : Int} {i : Nat} {y : α} (h : xs[i]? = some y) (hK : K = k + (cL n (xs.take i) : Nat)) : (mkL f n (xs.take i) k ++ xs.drop i).set i (f y K) = mkL f n (xs.take (i + 1)) k ++ xs.drop (i + 1) := by
  obtain ⟨hl, rfl⟩ := List.getElem?_eq_some_iff.1 h
  exact mk_step hl hK
theorem sU [Shape α] {w : World} {v : Value} {xs : List α} {fp : List Nat} {k K : Int} {y : α} (hs : Sl w v (mkL f n xs k) fp) {i : Nat} (hi : xs[i]? = some y) (hK : K = k + (cL n (xs.take i) : Nat)) : ∃ b o cs f1, PA v (Shape.size α) i b o ∧ w.rangeAt b o cs ∧ Shape.C w cs (f y K) f1 ∧ ∀ c ∈ b :: f1, c ∈ fp := by
  obtain ⟨hl, rfl⟩ := List.getElem?_eq_some_iff.1 hi
  exact idxm hs hl hK
end
theorem fW {α : Type} {xs : List α} {i : Nat} (h : i < xs.length) : ∃ y, xs[i]? = some y := ⟨_, List.getElem?_eq_getElem h⟩
def Bd (x : Int) (r : Nat) : Prop := 0 ≤ x ∧ x + r ≤ 4611686018427387904
theorem Bd.up {x : Int} {r : Nat} (h : Bd x (1 + r)) : Bd (x + 1) r := by unfold Bd at *; omega
theorem Bd.upc {x : Int} {c r : Nat} (h : Bd x (c + r)) : Bd (x + (c : Nat)) r := by unfold Bd at *; omega
theorem Bd.i64 {x : Int} {r : Nat} (h : Bd x r) : I64 x := by unfold Bd I64 at *; omega
theorem Bd.lo {x : Int} {r : Nat} (h : Bd x r) : 0 ≤ x := h.1
theorem Bd.hi {x : Int} {c r : Nat} (h : Bd x (c + r)) : x + (c : Nat) ≤ 4611686018427387904 := by unfold Bd at *; omega
def bZ (x : Edge) : Nat := 2
def jG (x : Edge) (k : Int) : Edge := ⟨k, k + 1⟩

def bB (x : Entry) : Nat := 4
def fM (x : Entry) (k : Int) : Entry := ⟨k, k + 1, (k + 1) + 1, ((k + 1) + 1) + 1⟩

def dD (x : Task) : Nat := 4
def jF (x : Task) (k : Int) : Task := ⟨k, k + 1, (k + 1) + 1, ((k + 1) + 1) + 1⟩

def dP (x : Run) : Nat := 6 + cL bZ x.plan.edges + cL dD x.tasks
def kD (x : Run) (k : Int) : Run := ⟨k, ⟨k + 1, (k + 1) + 1, ((k + 1) + 1) + 1, (((k + 1) + 1) + 1) + 1, mkL jG bZ x.plan.edges (((((k + 1) + 1) + 1) + 1) + 1)⟩, (((((k + 1) + 1) + 1) + 1) + 1) + (cL bZ x.plan.edges : Nat), mkL jF dD x.tasks (((((((k + 1) + 1) + 1) + 1) + 1) + (cL bZ x.plan.edges : Nat)) + 1)⟩

def dJ (x : Yard) : Nat := cL (cL bB) x.shelf + cL dP x.runs
def oN (x : Yard) (k : Int) : Yard := ⟨x.now, x.seq, mkL (mkL fM bB) (cL bB) x.shelf k, mkL kD dP x.runs (k + (cL (cL bB) x.shelf : Nat))⟩

def cO (x : Reply) : Nat := 4
def iY (x : Reply) (k : Int) : Reply := ⟨k, k + 1, (k + 1) + 1, ((k + 1) + 1) + 1⟩

def fB (x : Crew) : Nat := dJ x.yard + cL cO x.holds
def oO (x : Crew) (k : Int) : Crew := ⟨oN x.yard k, mkL iY cO x.holds (k + (dJ x.yard : Nat)), x.turns, x.did⟩

/-! ### How many numbers the marks take -/
theorem rT {α : Type} {n f : α → Nat} (h : ∀ x, n x ≤ 16 * (1 + f x)) : ∀ xs : List α, cL n xs ≤ 16 * wtL f xs
  | [] => by simp [cL, wtL]
  | x :: xs => by
    have h1 := h x
    have h2 := rT h xs
    simp only [cL, wtL, List.map_cons, List.sum_cons, List.length_cons] at *
    omega
theorem oW {α : Type} {n : α → Nat} {c : Nat} (h : ∀ x, n x ≤ c) : ∀ xs : List α, cL n xs ≤ c * xs.length
  | [] => by simp [cL]
  | x :: xs => by
    have h1 := h x
    have h2 := oW h xs
    simp only [cL, List.map_cons, List.sum_cons, List.length_cons, Nat.mul_add] at *
    omega

theorem cb_EdgeS (xs : List Edge) : cL bZ xs ≤ 16 * xs.length := Nat.le_trans (oW (n := bZ) (c := 16) (fun y => by simp [bZ]) xs) (Nat.le_refl _)
theorem cb_EntryS (xs : List Entry) : cL bB xs ≤ 16 * xs.length := Nat.le_trans (oW (n := bB) (c := 16) (fun y => by simp [bB]) xs) (Nat.le_refl _)
theorem cb_TaskS (xs : List Task) : cL dD xs ≤ 16 * xs.length := Nat.le_trans (oW (n := dD) (c := 16) (fun y => by simp [dD]) xs) (Nat.le_refl _)
theorem nb_Run (x : Run) : dP x ≤ 16 * (1 + x.wt) := by
  have h0 := cb_EdgeS x.plan.edges; have h1 := cb_TaskS x.tasks; simp only [dP, Plan.wt, Run.wt, Yard.wt, Deed.wt, Note.wt, File.wt, Disk.wt, Engine.wt, WorldD.wt, ActD.wt, Span.wt, Crew.wt] at *; omega
theorem cb_RunS (xs : List Run) : cL dP xs ≤ 16 * (wtL (fun y : Run => y.wt) xs) := rT (n := dP) (f := fun y : Run => y.wt) (fun y => nb_Run y) xs
theorem cb_EntrySS (xs : List (List Entry)) : cL (cL bB) xs ≤ 16 * (wtL (fun y : List Entry => y.length) xs) := rT (n := cL bB) (f := fun y : List Entry => y.length) (fun y => by have := cb_EntryS y; omega) xs
theorem vR (x : Yard) : dJ x ≤ 16 * x.wt := by
  have h2 := cb_EntrySS x.shelf; have h3 := cb_RunS x.runs; unfold dJ; have hw : x.wt = (wtL (fun y : List Entry => y.length) x.shelf) + (wtL (fun y : Run => y.wt) x.runs) := rfl; omega
theorem cb_ReplyS (xs : List Reply) : cL cO xs ≤ 16 * xs.length := Nat.le_trans (oW (n := cO) (c := 16) (fun y => by simp [cO]) xs) (Nat.le_refl _)
theorem tN (x : Crew) : fB x ≤ 16 * x.wt := by
  have h0 := vR x.yard; have h1 := cb_ReplyS x.holds; unfold fB; have hw : x.wt = x.yard.wt + x.holds.length := rfl; omega
end Go.Proofs.YtchnllpegfbleaaGreat
namespace Go.Proofs.YtchnllpegfbleaaGreat
set_option linter.unusedSimpArgs false
set_option linter.unusedVariables false
set_option maxRecDepth 100000
open Go.RowKit


def iR (t : Task) : Task := ⟨6, t.need, t.try_, 0⟩
def iC (but : Int) (k : Nat) (t : Task) : Task := if (k : Int) = but ∨ t.state = 4 then t else iR t
def iI (ts : List Task) (but : Int) (k : Nat) : List Task := ts.mapIdx (fun j t => if j < k then iC but j t else t)
def jK (ts : List Task) (but : Int) : List Task := ts.mapIdx (fun j t => iC but j t)
theorem leaveTo_zero (ts : List Task) (but : Int) : iI ts but 0 = ts := by
  apply List.ext_getElem?; intro i
  simp [iI, List.getElem?_mapIdx]
theorem leaveTo_len (ts : List Task) (but : Int) (k : Nat) : (iI ts but k).length = ts.length := by simp [iI]
theorem leaveT_len (ts : List Task) (but : Int) : (jK ts but).length = ts.length := by simp [jK]
theorem leaveTo_at {ts : List Task} {but : Int} {k : Nat} {t : Task} (h : ts[k]? = some t) : (iI ts but k)[k]? = some t := by
  simp [iI, List.getElem?_mapIdx, h]
theorem mK {ts : List Task} {but : Int} {k : Nat} {t y : Task} (h : ts[k]? = some t) (hy : iC but k t = y) : (iI ts but k).set k y = iI ts but (k + 1) := by
  apply List.ext_getElem?; intro i
  obtain ⟨hl, rfl⟩ := List.getElem?_eq_some_iff.1 h
  simp only [iI, List.getElem?_set, List.getElem?_mapIdx, List.length_mapIdx]
  by_cases e : k = i
  · subst e; simp [hl, hy]
  · rw [if_neg e]
    cases hi : ts[i]? with
    | none => rfl
    | some u =>
      have : (i < k) ↔ (i < k + 1) := by omega
      simp [this]
theorem leaveTo_all (ts : List Task) (but : Int) : iI ts but ts.length = jK ts but := by
  apply List.ext_getElem?; intro i
  simp only [iI, jK, List.getElem?_mapIdx]
  cases hi : ts[i]? with
  | none => rfl
  | some u => have := (List.getElem?_eq_some_iff.1 hi).1; simp [this]
theorem leaveIf_t {but : Int} {k : Nat} {t : Task} (h : ¬ (k : Int) = but) (h2 : ¬ t.state = 4) : iC but k t = iR t := by unfold iC; rw [if_neg (by simp [h, h2])]
theorem leaveIf_b {but : Int} {k : Nat} {t : Task} (h : (k : Int) = but) : iC but k t = t := by unfold iC; rw [if_pos (.inl h)]
theorem leaveIf_d {but : Int} {k : Nat} {t : Task} (h : t.state = 4) : iC but k t = t := by unfold iC; rw [if_pos (.inr h)]
def mL (r : Run) (but : Int) : Run := ⟨r.id, r.plan, r.state, jK r.tasks but⟩
def nU (r : Run) (i : Nat) (t : Task) : Run :=
  if t.try_ < r.plan.most then ⟨r.id, r.plan, r.state, r.tasks.set i ⟨2, t.need, t.try_, 0⟩⟩
  else ⟨r.id, r.plan, 3, jK (r.tasks.set i ⟨5, t.need, t.try_, 0⟩) i⟩
def eW (r : Run) (i : Nat) : Run := match r.tasks[i]? with | some t => nU r i t | none => r
theorem pS {r : Run} {i : Nat} {t : Task} (h : r.tasks[i]? = some t) : eW r i = nU r i t := by unfold eW; rw [h]
theorem leaveR_ok {r : Run} (h : r.ok) (b : Int) : (mL r b).ok := h

set_option maxHeartbeats 2000000 in
theorem LeaveI {w W0 : World} {ty : TypeId} {rs : List Res} {b : Nat} {pre cs post : List Value} {r : Run} {fp : List Nat} (hst : St w W0 (Res.bx b (pre ++ cs ++ post) ty :: Res.own (.agg cs.toArray) r fp :: rs)) (but : Int) (hw : r.tasks.length ≤ 1048576) :
    Calls Tryz.prog 177 #[.pointer (some ⟨b, pre.length, none⟩), I but] W0 fun e w' => ∃ (cs' : List Value) (fp' : List Nat), e = .returned (.tuple #[]) ∧ St w w' (Res.bx b (pre ++ cs' ++ post) ty :: Res.own (.agg cs'.toArray) (mL r but) fp' :: rs) := by
  refine cF Tryz.func177 rfl Tryz.ntmps177 (by decide) (wp_seq (aA (sg (aB (v := .pointer (some ⟨b, pre.length, none⟩)) rfl (sg (dB rfl (sg (aC bJ rfl ?_))))))))
  have st1 := hst.f1
  have hq_ := kN st1
  obtain ⟨v2_0, v2_1, g2_0, g2_1, he2, hok2, st3⟩ := hq_
  subst he2
  refine sg (fS bM rfl rfl (st3.get 2 rfl) (i := 7) rfl rfl (sg (aV bD rfl (bC (st3.get 1 rfl)) (sg (aB (v := I 0) rfl (aE (wp_block (bH (fun (m : Nat) (f : Nat → Value) (W : World) => ∃ (k : Nat) (fo6 : List Nat), k ≤ r.tasks.length ∧ m = r.tasks.length - k ∧ f 0 = .pointer (some ⟨b, pre.length, none⟩) ∧ f 1 = I but ∧ f 10 = I (r.tasks.length : Int) ∧ f 11 = I (k : Int) ∧ St w W (Res.own (α := List Edge) v2_0 r.plan.edges g2_0 :: Res.own (α := List Task) v2_1 (iI r.tasks but k) fo6 :: Res.bx b (pre ++ [I r.id, I r.plan.prio, I r.plan.most, I r.plan.wait, I r.plan.tasks, v2_0, I r.state, v2_1] ++ post) ty :: rs)) (r.tasks.length - 0) ?_ ?_))))))))
  · exact ⟨0, g2_1, Nat.zero_le _, rfl, rfl, rfl, rfl, rfl, (by rw [leaveTo_zero]; exact st3)⟩
  intro m7 f8 W9 hJ10
  obtain ⟨k, fo6, hcd12_0, rfl, hs12_0, hs12_1, hs12_10, hs12_11, st11⟩ := hJ10
  have hll := leaveTo_len r.tasks but k
  refine wp_seq (aA (sg (aY hs12_11 hs12_10 (aE (wp_seq (aR rfl (fun h13 => ?_) (fun h13 => ?_)))))))
  · have h13p := of_decide_eq_true h13
    refine wp_skip (wp_seq (wp_block (wp_seq (aA (sg (aB (v := I (k : Int)) hs12_11 (sg (aD (v := I (k : Int)) rfl (aE (wp_seq (aA (sg (aB (v := .pointer (some ⟨b, pre.length, none⟩)) hs12_0 (sg (dB rfl ?_)))))))))))))))
    refine sg (aC bJ rfl (sg (fS bM rfl rfl (st11.get 2 rfl) (i := 7) rfl rfl (sg (aB (v := I (k : Int)) rfl ?_)))))
    have hq_ := fW (xs := r.tasks) (i := k) (by omega)
    obtain ⟨t, ht⟩ := hq_
    have st14 := st11.f1
    have hq_ := St.lendx (α := Task) (by decide) st14 (x := t) (leaveTo_at ht)
    obtain ⟨b15, e15, pre15, cs15, post15, fi15, fr15, hPA15, hC15, st16⟩ := hq_
    have st20 := st16.d1
    obtain ⟨he15, hf15, hok15⟩ := hC15; have he15 : _ = [I t.state, I t.need, I t.try_, I t.until_] := he15; subst he15
    skip
    refine sg (aG bD rfl hPA15 rfl rfl (sg (aD (v := .pointer (some ⟨b15, pre15.length, none⟩)) rfl (aE (wp_seq (aA (sg (aB (v := I (k : Int)) rfl (sg (aB (v := I but) hs12_1 (sg (bL rfl rfl (sg (aB (v := .bool (!decide ((k : Int) = but))) rfl ?_))))))))))))))
    rcases bd (!decide ((k : Int) = but)) with h21 | h21
    · have h21p := of_decide_eq_true (aX h21)
      iterate 5 refine sgf 23 rfl (by decide) (bF rfl h21) ?_
      refine sg (aO (v := .bool false) ((rfl : _ = (.bool (!decide ((k : Int) = but)) : Value)).trans (congrArg Value.bool h21)) rfl (aE (gX rfl rfl (wp_skip (aA (sg (aP hs12_11 rfl (by (simp only [I64] at *; omega)) (sg (aB (v := I ((k : Int) + 1)) rfl (aE ?_))))))))))
      have st22 := st20.cs0 (cs := [I t.state, I t.need, I t.try_, I t.until_]) (x := (⟨t.state, t.need, t.try_, t.until_⟩ : Task)) ⟨rfl, rfl, hok15⟩
      have st24 := st22.f2
      have st25 := st24.f1
      have st26 := st25.f2
      have hq_ := St.give (α := Task) st26
      obtain ⟨fp27, st28⟩ := hq_
      have st29 := st28.f2
      have st30 := st29.f1
      have st31 := st30.f2
      exact ⟨_, r.tasks.length - (k + 1), (by omega), rfl, k + 1, fp27, (by omega), rfl, hs12_0, hs12_1, hs12_10, rfl, (by rw [← mK ht (leaveIf_b h21p)]; exact st31)⟩
    · have h21p := of_decide_eq_false (aS h21)
      refine sgo 23 rfl (by decide) (aL rfl h21) (aB (v := .pointer (some ⟨b15, pre15.length, none⟩)) rfl (sgo 23 rfl (by decide) (aL rfl h21) (dB rfl (sgo 23 rfl (by decide) (aL rfl h21) (aC bP rfl (sgo 23 rfl (by decide) (aL rfl h21) (fS aJ rfl rfl (st20.get 0 rfl) (i := 0) rfl rfl (sgo 23 rfl (by decide) (aL rfl h21) (bL rfl rfl (sg (aN (v := .bool (!decide (t.state = 4))) ((rfl : _ = (.bool (!decide ((k : Int) = but)) : Value)).trans (congrArg Value.bool h21)) rfl (aE (aR rfl (fun h32 => ?_) (fun h32 => ?_))))))))))))))
      · have h32p := of_decide_eq_false (aS h32)
        refine wp_seq (aA (sg (aB (v := .pointer (some ⟨b15, pre15.length, none⟩)) rfl (sg (dB rfl (sg (aC bP rfl (sg (bX (i := 0) (v := I 6) (C' := [I 6, I t.need, I t.try_, I t.until_]) (by kernel_rfl) rfl rfl rfl rfl st20 rfl (Nat.le_of_ble_eq_true rfl) rfl ?_))))))))); intro W33 st34
        refine aE (aA (sg (aB (v := .pointer (some ⟨b15, pre15.length, none⟩)) rfl (sg (dB rfl (sg (aC eT rfl (sg (bX (i := 3) (v := I 0) (C' := [I 6, I t.need, I t.try_, I 0]) (by kernel_rfl) rfl rfl rfl rfl st34 rfl (Nat.le_of_ble_eq_true rfl) rfl ?_))))))))); intro W35 st36
        refine aE (aA (sg (aP hs12_11 rfl (by (simp only [I64] at *; omega)) (sg (aB (v := I ((k : Int) + 1)) rfl (aE ?_))))))
        have st37 := st36.cs0 (cs := [I 6, I t.need, I t.try_, I 0]) (x := (⟨6, t.need, t.try_, 0⟩ : Task)) ⟨rfl, rfl, (by first | exact True.intro | (simp only [Edge.ok, Plan.ok, Entry.ok, Task.ok, Run.ok, Yard.ok, Reply.ok, Deed.ok, Note.ok, Wait.ok, File.ok, Disk.ok, Engine.ok, WorldD.ok, ActD.ok, Hand.ok, Span.ok, Crew.ok, View.ok, I64] at *; omega))⟩
        have st39 := st37.f2
        have st40 := st39.f1
        have st41 := st40.f2
        have hq_ := St.give (α := Task) st41
        obtain ⟨fp42, st43⟩ := hq_
        have st44 := st43.f2
        have st45 := st44.f1
        have st46 := st45.f2
        exact ⟨_, r.tasks.length - (k + 1), (by omega), rfl, k + 1, fp42, (by omega), rfl, hs12_0, hs12_1, hs12_10, rfl, (by rw [← mK ht (leaveIf_t h21p h32p)]; exact st46)⟩
      · have h32p := of_decide_eq_true (aX h32)
        refine wp_skip (aA (sg (aP hs12_11 rfl (by (simp only [I64] at *; omega)) (sg (aB (v := I ((k : Int) + 1)) rfl (aE ?_))))))
        have st47 := st20.cs0 (cs := [I t.state, I t.need, I t.try_, I t.until_]) (x := (⟨t.state, t.need, t.try_, t.until_⟩ : Task)) ⟨rfl, rfl, hok15⟩
        have st49 := st47.f2
        have st50 := st49.f1
        have st51 := st50.f2
        have hq_ := St.give (α := Task) st51
        obtain ⟨fp52, st53⟩ := hq_
        have st54 := st53.f2
        have st55 := st54.f1
        have st56 := st55.f2
        exact ⟨_, r.tasks.length - (k + 1), (by omega), rfl, k + 1, fp52, (by omega), rfl, hs12_0, hs12_1, hs12_10, rfl, (by rw [← mK ht (leaveIf_d h32p)]; exact st56)⟩
  · have h13p := of_decide_eq_false h13
    refine wp_exit ?_
    repeat (first | refine kK ?_ | refine mP ?_ | refine kQ rfl ?_)
    refine wK Tryz.results177 ?_
    have hke : k = r.tasks.length := by omega
    rw [hke, leaveTo_all] at st11
    have st57 := st11.f1
    have st58 := st57.f1
    have st59 := hL (x := (mL r but)) st58 (leaveR_ok (by assumption) but)
    have st61 := st59.f1
    exact ⟨_, _, rfl, st61⟩
set_option maxHeartbeats 2000000 in
theorem FailsI {w W0 : World} {ty : TypeId} {rs : List Res} {b : Nat} {pre cs post : List Value} {r : Run} {fp : List Nat} (hst : St w W0 (Res.bx b (pre ++ cs ++ post) ty :: Res.own (.agg cs.toArray) r fp :: rs)) (i : Nat) {t : Task} (hti : r.tasks[i]? = some t) (hw : r.tasks.length ≤ 1048576) :
    Calls Tryz.prog 112 #[.pointer (some ⟨b, pre.length, none⟩), I (i : Int)] W0 fun e w' => ∃ (cs' : List Value) (fp' : List Nat), e = .returned (.tuple #[]) ∧ St w w' (Res.bx b (pre ++ cs' ++ post) ty :: Res.own (.agg cs'.toArray) (eW r i) fp' :: rs) := by
  have hil := (List.getElem?_eq_some_iff.1 hti).1
  have hrok : r.ok := by obtain ⟨_, _, _, _, _, hok, _⟩ := (dR (hst.get 1 rfl) rfl); first | exact hok | skip
  refine cF Tryz.func112 rfl Tryz.ntmps112 (by decide) (wp_seq (aA (sg (aB (v := .pointer (some ⟨b, pre.length, none⟩)) rfl (sg (dB rfl (sg (aC bJ rfl ?_))))))))
  have st1 := hst.f1
  have hq_ := kN st1
  obtain ⟨v2_0, v2_1, g2_0, g2_1, he2, hok2, st3⟩ := hq_
  subst he2
  refine sg (fS bM rfl rfl (st3.get 2 rfl) (i := 7) rfl rfl (sg (aB (v := I (i : Int)) rfl ?_)))
  have st6 := st3.f1
  have hq_ := St.lendx (α := Task) (by decide) st6 (x := t) hti
  obtain ⟨b7, e7, pre7, cs7, post7, fi7, fr7, hPA7, hC7, st8⟩ := hq_
  have st12 := st8.d1
  obtain ⟨he7, hf7, hok7⟩ := hC7; have he7 : _ = [I t.state, I t.need, I t.try_, I t.until_] := he7; subst he7
  skip
  refine sg (aG bD rfl hPA7 rfl rfl (sg (aD (v := .pointer (some ⟨b7, pre7.length, none⟩)) rfl (aE (wp_seq (aA (sg (aB (v := .pointer (some ⟨b7, pre7.length, none⟩)) rfl (sg (dB rfl (sg (aC eT rfl (sg (bX (i := 3) (v := I 0) (C' := [I t.state, I t.need, I t.try_, I 0]) (by kernel_rfl) rfl rfl rfl rfl st12 rfl (Nat.le_of_ble_eq_true rfl) rfl ?_)))))))))))))); intro W13 st14
  refine aE (wp_seq (wp_seq (dI [Pl.is (.pointer (some ⟨b7, pre7.length, none⟩)), Pl.is (.pointer (some ⟨b7, pre7.length, none⟩)), Pl.is (.pointer (some ⟨b7, pre7.length + 2, none⟩)), Pl.is (I t.try_), Pl.is (.pointer (some ⟨b, pre.length, none⟩)), Pl.is (.pointer (some ⟨b, pre.length, none⟩)), Pl.is (.pointer (some ⟨b, pre.length + 1, none⟩)), Pl.is (.pointer (some ⟨b, pre.length + 1 + 1, none⟩)), Pl.is (I r.plan.most), Pl.bool (decide (t.try_ < r.plan.most))] mix (by rfl) st14 ⟨(fun f W hst hbl hd hf => aB (v := .pointer (some ⟨b7, pre7.length, none⟩)) ((hf 4 rfl).trans (show _ = (.pointer (some ⟨b7, pre7.length, none⟩) : Value) from rfl)) brq), (fun f W hst hbl hd hf => dB (hd 0 14 rfl rfl) brq), (fun f W hst hbl hd hf => aC eD (hd 1 15 rfl rfl) brq), (fun f W hst hbl hd hf => fS aJ rfl (hd 2 16 rfl rfl) (hst.get 0 rfl) (i := 2) rfl rfl brq), (fun f W hst hbl hd hf => aB (v := .pointer (some ⟨b, pre.length, none⟩)) ((hf 0 rfl).trans (show _ = (.pointer (some ⟨b, pre.length, none⟩) : Value) from rfl)) brq), (fun f W hst hbl hd hf => dB (hd 4 18 rfl rfl) brq), (fun f W hst hbl hd hf => aC cQ (hd 5 19 rfl rfl) brq), (fun f W hst hbl hd hf => aC fG (hd 6 20 rfl rfl) brq), (fun f W hst hbl hd hf => fS aJ rfl (hd 7 21 rfl rfl) (hst.get 3 rfl) (i := 2) rfl rfl brq), (fun f W hst hbl hd hf => aY (hd 3 17 rfl rfl) (hd 8 22 rfl rfl) brq), trivial⟩ ?_)))
  intro f15 W16 st17 hb18 hv19 hf20
  refine aR (hv19 9 23 (by decide) rfl) (fun h21 => ?_) (fun h21 => ?_)
  · have h21p := of_decide_eq_true h21
    refine wp_seq (aA (sg (aB (v := .pointer (some ⟨b7, pre7.length, none⟩)) ((hf20 4 rfl).trans (show _ = (.pointer (some ⟨b7, pre7.length, none⟩) : Value) from rfl)) (sg (dB rfl (sg (aC bP rfl (sg (bX (i := 0) (v := I 2) (C' := [I 2, I t.need, I t.try_, I 0]) (by kernel_rfl) rfl rfl rfl rfl st17 rfl (Nat.le_of_ble_eq_true rfl) rfl ?_))))))))); intro W22 st23
    refine aE (wp_ret ?_); repeat first|refine aH ?_|refine aI ?_
    refine ret0 Tryz.results112 ?_
    have st24 := st23.cs0 (cs := [I 2, I t.need, I t.try_, I 0]) (x := (⟨2, t.need, t.try_, 0⟩ : Task)) ⟨rfl, rfl, (by first | exact True.intro | (simp only [Edge.ok, Plan.ok, Entry.ok, Task.ok, Run.ok, Yard.ok, Reply.ok, Deed.ok, Note.ok, Wait.ok, File.ok, Disk.ok, Engine.ok, WorldD.ok, ActD.ok, Hand.ok, Span.ok, Crew.ok, View.ok, I64] at *; omega))⟩
    have st26 := st24.f2
    have st27 := st26.f1
    have st28 := st27.f2
    have hq_ := St.give (α := Task) st28
    obtain ⟨fp29, st30⟩ := hq_
    have hfT : eW r i = (⟨r.id, r.plan, r.state, r.tasks.set i ⟨2, t.need, t.try_, 0⟩⟩ : Run) := by rw [pS hti]; unfold nU; rw [if_pos h21p]
    have st31 := st30.f1
    have st32 := hL (x := (⟨r.id, r.plan, r.state, r.tasks.set i ⟨2, t.need, t.try_, 0⟩⟩ : Run)) st31 (show Run.ok _ from by have hrk := hrok; simp only [Run.ok, Plan.ok, I64] at *; omega)
    try dsimp only at st32
    have st34 := st32.f1
    rw [hfT]
    exact ⟨_, _, rfl, st34⟩
  · have h21p := of_decide_eq_false h21
    refine wp_skip (wp_seq (aA (sg (aB (v := .pointer (some ⟨b7, pre7.length, none⟩)) ((hf20 4 rfl).trans (show _ = (.pointer (some ⟨b7, pre7.length, none⟩) : Value) from rfl)) (sg (dB rfl (sg (aC bP rfl (sg (bX (i := 0) (v := I 5) (C' := [I 5, I t.need, I t.try_, I 0]) (by kernel_rfl) rfl rfl rfl rfl st17 rfl (Nat.le_of_ble_eq_true rfl) rfl ?_)))))))))); intro W35 st36
    refine aE (wp_seq (aA (sg (aB (v := .pointer (some ⟨b, pre.length, none⟩)) ((hf20 0 rfl).trans (show _ = (.pointer (some ⟨b, pre.length, none⟩) : Value) from rfl)) (sg (aB (v := I (i : Int)) ((hf20 1 rfl).trans (show _ = I (i : Int) from rfl)) ?_))))))
    have st37 := st36.cs0 (cs := [I 5, I t.need, I t.try_, I 0]) (x := (⟨5, t.need, t.try_, 0⟩ : Task)) ⟨rfl, rfl, (by first | exact True.intro | (simp only [Edge.ok, Plan.ok, Entry.ok, Task.ok, Run.ok, Yard.ok, Reply.ok, Deed.ok, Note.ok, Wait.ok, File.ok, Disk.ok, Engine.ok, WorldD.ok, ActD.ok, Hand.ok, Span.ok, Crew.ok, View.ok, I64] at *; omega))⟩
    have st39 := st37.f2
    have st40 := st39.f1
    have st41 := st40.f2
    have hq_ := St.give (α := Task) st41
    obtain ⟨fp42, st43⟩ := hq_
    skip
    have st45 := st43.f1
    have st46 := hL (x := (⟨r.id, ⟨r.plan.prio, r.plan.most, r.plan.wait, r.plan.tasks, r.plan.edges⟩, r.state, (r.tasks).set i (⟨5, t.need, t.try_, 0⟩ : Task)⟩ : Run)) st45 hok2
    try dsimp only at st46
    have st48 := st46.f1
    refine sg (aZ Tryz.func177 rfl rfl rfl ((LeaveI st48 (i : Int) (by simp only [List.length_set]; omega)).mono ?_)); rintro _ W44 ⟨cs49, fp49, rfl, st50⟩; refine ⟨_, rfl, ?_⟩
    refine aE (aA (sg (aB (v := .pointer (some ⟨b, pre.length, none⟩)) ((hf20 0 rfl).trans (show _ = (.pointer (some ⟨b, pre.length, none⟩) : Value) from rfl)) (sg (dB rfl (sg (aC eO rfl ?_)))))))
    have st52 := st50.f1
    have hq_ := kN st52
    obtain ⟨v53_0, v53_1, g53_0, g53_1, he53, hok53, st54⟩ := hq_
    subst he53
    have st57 := st54.f2
    refine sg (bX (i := 6) (v := I 3) (C' := [I (mL (⟨r.id, ⟨r.plan.prio, r.plan.most, r.plan.wait, r.plan.tasks, r.plan.edges⟩, r.state, (r.tasks).set i (⟨5, t.need, t.try_, 0⟩ : Task)⟩ : Run) (i : Int)).id, I (mL (⟨r.id, ⟨r.plan.prio, r.plan.most, r.plan.wait, r.plan.tasks, r.plan.edges⟩, r.state, (r.tasks).set i (⟨5, t.need, t.try_, 0⟩ : Task)⟩ : Run) (i : Int)).plan.prio, I (mL (⟨r.id, ⟨r.plan.prio, r.plan.most, r.plan.wait, r.plan.tasks, r.plan.edges⟩, r.state, (r.tasks).set i (⟨5, t.need, t.try_, 0⟩ : Task)⟩ : Run) (i : Int)).plan.most, I (mL (⟨r.id, ⟨r.plan.prio, r.plan.most, r.plan.wait, r.plan.tasks, r.plan.edges⟩, r.state, (r.tasks).set i (⟨5, t.need, t.try_, 0⟩ : Task)⟩ : Run) (i : Int)).plan.wait, I (mL (⟨r.id, ⟨r.plan.prio, r.plan.most, r.plan.wait, r.plan.tasks, r.plan.edges⟩, r.state, (r.tasks).set i (⟨5, t.need, t.try_, 0⟩ : Task)⟩ : Run) (i : Int)).plan.tasks, v53_0, I 3, v53_1]) (by kernel_rfl) rfl rfl rfl rfl st57 rfl (Nat.le_of_ble_eq_true rfl) rfl ?_); intro W58 st59
    refine aE ?_
    repeat (first | refine kK ?_ | refine mP ?_ | refine kQ rfl ?_)
    refine wK Tryz.results112 ?_
    have hfT : eW r i = (⟨r.id, r.plan, 3, jK (r.tasks.set i ⟨5, t.need, t.try_, 0⟩) i⟩ : Run) := by rw [pS hti]; unfold nU; rw [if_neg h21p]
    have st60 := st59.f2
    have st61 := st60.f2
    have st62 := hL (x := (⟨r.id, r.plan, 3, jK (r.tasks.set i ⟨5, t.need, t.try_, 0⟩) i⟩ : Run)) st61 (show Run.ok _ from by have hrk := hrok; simp only [Run.ok, Plan.ok, I64] at *; omega)
    try dsimp only at st62
    have st64 := st62.f1
    rw [hfT]
    exact ⟨_, _, rfl, st64⟩
end Go.Proofs.YtchnllpegfbleaaGreat
namespace Go.Proofs.YtchnllpegfbleaaGreat
set_option linter.unusedSimpArgs false
set_option linter.unusedVariables false
open Go.RowKit

theorem hX (ts : List Task) (s : Int) : dA ts s = (ts.countP (fun t => decide (t.state = s)) : Nat) := by unfold dA; rw [List.countP_eq_length_filter]
theorem uR {ts : List Task} {s : Int} {t : Task} (h : t ∈ ts) (hs : t.state = s) : 0 < dA ts s := by
  rw [hX]
  have := List.countP_pos_iff (p := fun t : Task => decide (t.state = s)) (l := ts) |>.2 ⟨t, h, by simpa using hs⟩
  omega
theorem cntI_zero {ts : List Task} {s : Int} (h : ∀ t ∈ ts, ¬ t.state = s) : dA ts s = 0 := by
  rw [hX, List.countP_eq_zero.2 (by intro t ht; simpa using h t ht)]; rfl
theorem tF {ts : List Task} {s : Int} (h : dA ts s = 0) : ∀ t ∈ ts, ¬ t.state = s := fun t ht hs => by have := uR ht hs; omega
theorem tS {ts : List Task} {s : Int} {t : Task} (h : t ∈ ts) (hs : ¬ t.state = s) : ¬ dA ts s = ts.length := by
  rw [hX]
  intro he
  have := List.countP_eq_length (p := fun t : Task => decide (t.state = s)) (l := ts) |>.1 (by omega) t h
  exact hs (by simpa using this)
theorem cntI_map {ts : List Task} {f : Task → Task} {s : Int} (h : ∀ t ∈ ts, ((f t).state = s ↔ t.state = s)) : dA (ts.map f) s = dA ts s := by
  rw [hX, hX, List.countP_map]
  congr 1
  apply List.countP_congr
  intro t ht
  simpa using h t ht
theorem rR {ts : List Task} {i : Nat} (h : i < ts.length) (x : Task) (s : Int) : dA (ts.set i x) s = dA ts s - (if ts[i].state = s then 1 else 0) + (if x.state = s then 1 else 0) := by
  rw [hX, hX, List.countP_set h]
  have hpos : ts[i].state = s → 0 < ts.countP (fun t => decide (t.state = s)) := fun e => List.countP_pos_iff.2 ⟨ts[i], List.getElem_mem h, by simpa using e⟩
  simp only [decide_eq_true_eq]
  by_cases h1 : ts[i].state = s
  · have := hpos h1
    rw [if_pos h1, if_pos h1]
    by_cases h2 : x.state = s
    · rw [if_pos h2, if_pos h2]; omega
    · rw [if_neg h2, if_neg h2]; omega
  · rw [if_neg h1, if_neg h1]
    by_cases h2 : x.state = s
    · rw [if_pos h2, if_pos h2]; omega
    · rw [if_neg h2, if_neg h2]; omega
structure RunIs (r : Run) : Prop where
  id : 1 ≤ r.id ∧ r.id ≤ 9999
  plan : dC r.plan = 0
  len : (r.tasks.length : Int) = r.plan.tasks
  task : ∀ k, k < r.tasks.length → kA r k
  state : r.state = fL r.tasks
  ne : ¬ r.state = 0
theorem runIs {r : Run} : dY r = true ↔ RunIs r := by
  unfold dY
  rw [pB_iff]
  exact ⟨fun ⟨a, b, c, d, e, f⟩ => ⟨a, b, c, d, e, f⟩, fun h => ⟨h.id, h.plan, h.len, h.task, h.state, h.ne⟩⟩
theorem RunIs.live {r : Run} (h : RunIs r) {t : Task} (ht : t ∈ r.tasks) (h3 : t.state = 3) : r.state = 1 ∧ dA r.tasks 5 = 0 ∧ dA r.tasks 6 = 0 := by
  have hs := h.state
  have hn := h.ne
  have c3 := uR ht h3
  have c4 := tS (s := 4) ht (by omega)
  have p1 := eI r.tasks 1
  have p2 := eI r.tasks 2
  rw [hs] at hn
  rw [hs]
  unfold fL at hn ⊢
  rw [if_neg c4, if_neg (by omega), if_neg (by omega)] at hn ⊢
  by_cases h1 : dA r.tasks 5 = 0 ∧ dA r.tasks 6 = 0
  · rw [if_pos h1]; exact ⟨rfl, h1.1, h1.2⟩
  · rw [if_neg h1] at hn; exact absurd rfl hn
theorem RunIs.none5 {r : Run} (h : RunIs r) {t : Task} (ht : t ∈ r.tasks) (h3 : t.state = 3) : ∀ u ∈ r.tasks, ¬ u.state = 5 ∧ ¬ u.state = 6 := fun u hu => ⟨tF (h.live ht h3).2.1 u hu, tF (h.live ht h3).2.2 u hu⟩
def gD (t : Task) : Task := if t.state = 4 ∨ t.state = 5 then t else iR t
def fP (ts : List Task) : List Task := ts.map gD
theorem rE {ts : List Task} {i : Nat} {x : Task} (hi : i < ts.length) (hx : x.state = 5) (h : ∀ u ∈ ts, ¬ u.state = 5) : jK (ts.set i x) (i : Int) = fP (ts.set i x) := by
  apply List.ext_getElem?
  intro k
  unfold jK fP
  rw [List.getElem?_mapIdx, List.getElem?_map, List.getElem?_set]
  by_cases e : i = k
  · subst e
    simp [hi, iC, gD, hx]
  · rw [if_neg e]
    cases hk : ts[k]? with
    | none => rfl
    | some u =>
      have h5 := h u (List.mem_of_getElem? hk)
      have e' : ¬ (k : Int) = (i : Int) := by omega
      simp [iC, gD, h5, e']
def rL (r : Run) (i : Nat) : Run := match r.tasks[i]? with
  | some t => if t.try_ < r.plan.most then ⟨r.id, r.plan, r.state, r.tasks.set i ⟨2, t.need, t.try_, 0⟩⟩ else ⟨r.id, r.plan, 3, fP (r.tasks.set i ⟨5, t.need, t.try_, 0⟩)⟩
  | none => r
theorem failsS_eq {r : Run} (h : RunIs r) {i : Nat} {t : Task} (ht : r.tasks[i]? = some t) (h3 : t.state = 3) : rL r i = eW r i := by
  unfold rL eW
  rw [ht]
  simp only [nU]
  have hm := List.mem_of_getElem? ht
  rw [rE (List.getElem?_eq_some_iff.1 ht).1 rfl (fun u hu => (h.none5 hm h3 u hu).1)]
theorem isDone_of {r r' : Run} (h : ∀ k : Nat, (r'.tasks[k]?).map (fun t => decide (t.state = 4)) = (r.tasks[k]?).map (fun t => decide (t.state = 4))) (x : Int) : lF r' x = lF r x := by
  unfold lF
  have := h x.toNat
  cases h1 : r'.tasks[x.toNat]? <;> cases h2 : r.tasks[x.toNat]? <;> simp [h1, h2] at this ⊢
  exact this
theorem sL {r r' : Run} (hp : r'.plan = r.plan) (h : ∀ k : Nat, (r'.tasks[k]?).map (fun t => decide (t.state = 4)) = (r.tasks[k]?).map (fun t => decide (t.state = 4))) (x : Int) : jJ r' x = jJ r x := by
  unfold jJ cP
  rw [hp]
  congr 2
  apply List.filter_congr
  intro b _
  rw [isDone_of h]
theorem taskOkT_left {r r' : Run} {need : Int} {t : Task} (hp : r'.plan = r.plan) (h : cB r need t) : cB r' need (iR t) := by
  obtain ⟨h1, h2, h3, _⟩ := h
  refine ⟨⟨by simp [iR], by simp [iR]⟩, h2, by rw [hp]; exact h3, ?_, ?_, ?_, ?_, ?_⟩ <;> simp [iR]
theorem oB {r r' : Run} {need : Int} {t : Task} (hp : r'.plan = r.plan) (h : cB r need t) : cB r' need t := by
  unfold cB at h ⊢
  rw [hp]; exact h
theorem RunIs.fails {r : Run} (h : RunIs r) {i : Nat} {t : Task} (ht : r.tasks[i]? = some t) (h3 : t.state = 3) : RunIs (eW r i) := by
  obtain ⟨hi, rfl⟩ := List.getElem?_eq_some_iff.1 ht
  have hm : r.tasks[i] ∈ r.tasks := List.getElem_mem hi
  have hlive := h.live hm h3
  have hn5 := h.none5 hm h3
  have htk := h.task i hi hi
  obtain ⟨t1, t2, t3, t4, t5, t6, t7, t8⟩ := htk
  have t8' := t8 (.inl h3)
  rw [pS ht]
  unfold nU
  split
  · next hlt =>
    refine ⟨h.id, h.plan, by show ((r.tasks.set i _).length : Int) = _; rw [List.length_set]; exact h.len, ?_, ?_, by show ¬ r.state = 0; omega⟩
    · intro k hk hk'
      have hk2 : k < r.tasks.length := by simpa using hk
      rw [sL (r := r) (r' := ⟨r.id, r.plan, r.state, r.tasks.set i ⟨2, r.tasks[i].need, r.tasks[i].try_, 0⟩⟩) rfl (fun j => by
        show ((r.tasks.set i _)[j]?).map _ = _
        rw [List.getElem?_set]
        by_cases e : i = j
        · subst e; simp [hi, h3]
        · rw [if_neg e])]
      show cB _ _ ((r.tasks.set i _)[k]'hk')
      rw [List.getElem_set]
      split
      · next e =>
        subst e
        refine ⟨⟨by show (1 : Int) ≤ 2; omega, by show (2 : Int) ≤ 6; omega⟩, t2, t3, ?_, fun _ => rfl, ?_, fun _ => ⟨t8'.1, hlt⟩, ?_⟩
        · intro e; exact absurd (show (2 : Int) = 3 from e) (by omega)
        · intro e; exact absurd (show (2 : Int) = 1 from e) (by omega)
        · rintro (e | e | e)
          · exact absurd (show (2 : Int) = 3 from e) (by omega)
          · exact absurd (show (2 : Int) = 4 from e) (by omega)
          · exact absurd (show (2 : Int) = 5 from e) (by omega)
      · exact oB rfl (h.task k hk2 hk2)
    · show r.state = fL (r.tasks.set i _)
      have hmem : (⟨2, r.tasks[i].need, r.tasks[i].try_, 0⟩ : Task) ∈ r.tasks.set i ⟨2, r.tasks[i].need, r.tasks[i].try_, 0⟩ := List.mem_set hi _
      have c4 := tS (s := 4) hmem (by show ¬ (2 : Int) = 4; omega)
      have c5 : dA (r.tasks.set i ⟨2, r.tasks[i].need, r.tasks[i].try_, 0⟩) 5 = 0 := by rw [rR hi, h3, hlive.2.1]; rfl
      have c6 : dA (r.tasks.set i ⟨2, r.tasks[i].need, r.tasks[i].try_, 0⟩) 6 = 0 := by rw [rR hi, h3, hlive.2.2]; rfl
      unfold fL
      rw [if_neg c4, if_neg (by rw [c5]; omega), if_neg (by rw [c6]; omega), if_pos ⟨c5, c6⟩]
      exact hlive.1
  · next hge =>
    rw [rE hi rfl (fun u hu => (hn5 u hu).1)]
    have hset : ∀ j, (fP (r.tasks.set i ⟨5, r.tasks[i].need, r.tasks[i].try_, 0⟩))[j]? = (if i = j then some ⟨5, r.tasks[i].need, r.tasks[i].try_, 0⟩ else (r.tasks[j]?).map gD) := by
      intro j
      unfold fP
      rw [List.getElem?_map, List.getElem?_set]
      by_cases e : i = j
      · subst e; simp [hi, gD]
      · rw [if_neg e, if_neg e]
    have hlen : (fP (r.tasks.set i ⟨5, r.tasks[i].need, r.tasks[i].try_, 0⟩)).length = r.tasks.length := by unfold fP; simp
    refine ⟨h.id, h.plan, by show ((fP _).length : Int) = _; rw [hlen]; exact h.len, ?_, ?_, by show ¬ (3 : Int) = 0; omega⟩
    · intro k hk hk'
      have hk2 : k < r.tasks.length := by rw [← hlen]; exact hk
      rw [sL (r := r) (r' := ⟨r.id, r.plan, 3, fP (r.tasks.set i ⟨5, r.tasks[i].need, r.tasks[i].try_, 0⟩)⟩) rfl (fun j => by
        show ((fP _)[j]?).map _ = _
        rw [hset j]
        by_cases e : i = j
        · subst e; simp [hi, h3]
        · rw [if_neg e]
          cases hj : r.tasks[j]? with
          | none => rfl
          | some u =>
            simp only [Option.map_some, gD]
            split
            · rfl
            · next hne => simp [iR]; intro e4; exact hne (.inl e4))]
      have hg : (fP (r.tasks.set i ⟨5, r.tasks[i].need, r.tasks[i].try_, 0⟩))[k]? = some ((fP (r.tasks.set i ⟨5, r.tasks[i].need, r.tasks[i].try_, 0⟩))[k]'hk') := List.getElem?_eq_getElem hk'
      rw [hset k] at hg
      show cB _ _ ((fP (r.tasks.set i _))[k]'hk')
      by_cases e : i = k
      · rw [if_pos e] at hg
        have := Option.some.inj hg
        rw [← this]
        subst e
        refine ⟨⟨by show (1 : Int) ≤ 5; omega, by show (5 : Int) ≤ 6; omega⟩, t2, t3, ?_, fun _ => rfl, ?_, ?_, fun _ => t8'⟩
        · intro e; exact absurd (show (5 : Int) = 3 from e) (by omega)
        · intro e; exact absurd (show (5 : Int) = 1 from e) (by omega)
        · intro e; exact absurd (show (5 : Int) = 2 from e) (by omega)
      · rw [if_neg e, List.getElem?_eq_getElem hk2, Option.map_some] at hg
        have := Option.some.inj hg
        rw [← this]
        unfold gD
        split
        · exact oB rfl (h.task k hk2 hk2)
        · exact taskOkT_left rfl (h.task k hk2 hk2)
    · show (3 : Int) = fL (fP _)
      have hst : ∀ s : Int, s = 1 ∨ s = 2 ∨ s = 3 → dA (fP (r.tasks.set i ⟨5, r.tasks[i].need, r.tasks[i].try_, 0⟩)) s = 0 := by
        intro s hs
        apply cntI_zero
        intro u hu e
        unfold fP at hu
        obtain ⟨v, _, rfl⟩ := List.mem_map.1 hu
        unfold gD at e
        split at e
        · next hc => omega
        · have : (6 : Int) = s := e
          omega
      have c5 : dA (fP (r.tasks.set i ⟨5, r.tasks[i].need, r.tasks[i].try_, 0⟩)) 5 = 1 := by
        unfold fP
        rw [cntI_map (fun u _ => by
          unfold gD
          split
          · exact Iff.rfl
          · next hc =>
            simp only [not_or] at hc
            exact ⟨fun e => absurd (show (6 : Int) = 5 from e) (by omega), fun e => absurd e hc.2⟩), rR hi, h3, hlive.2.1]
        rfl
      have c4 : ¬ dA (fP (r.tasks.set i ⟨5, r.tasks[i].need, r.tasks[i].try_, 0⟩)) 4 = (fP (r.tasks.set i ⟨5, r.tasks[i].need, r.tasks[i].try_, 0⟩)).length := by
        apply tS (t := ⟨5, r.tasks[i].need, r.tasks[i].try_, 0⟩)
        · exact List.mem_of_getElem? (i := i) (by rw [hset i, if_pos rfl])
        · show ¬ (5 : Int) = 4
          omega
      unfold fL
      rw [if_neg c4, if_pos ⟨c5, by rw [hst 1 (.inl rfl), hst 2 (.inr (.inl rfl)), hst 3 (.inr (.inr rfl))]; rfl⟩]
theorem failsR_keeps (r : Run) (i : Nat) : (eW r i).id = r.id ∧ (eW r i).plan = r.plan ∧ (eW r i).tasks.length = r.tasks.length ∧ ∀ (j : Nat) (t : Task), r.tasks[j]? = some t → ∃ t2, (eW r i).tasks[j]? = some t2 ∧ t2.try_ = t.try_ := by
  unfold eW
  cases hi : r.tasks[i]? with
  | none => exact ⟨rfl, rfl, rfl, fun j t h => ⟨t, h, rfl⟩⟩
  | some u =>
    obtain ⟨hl, rfl⟩ := List.getElem?_eq_some_iff.1 hi
    simp only [nU]
    split
    · refine ⟨rfl, rfl, by simp, fun j t h => ?_⟩
      show ∃ t2, (r.tasks.set i _)[j]? = some t2 ∧ _
      rw [List.getElem?_set]
      by_cases e : i = j
      · subst e
        rw [h] at hi
        rw [if_pos rfl, if_pos hl]
        exact ⟨_, rfl, by have := Option.some.inj hi; rw [this]⟩
      · rw [if_neg e]; exact ⟨t, h, rfl⟩
    · refine ⟨rfl, rfl, by simp [leaveT_len], fun j t h => ?_⟩
      show ∃ t2, (jK (r.tasks.set i _) _)[j]? = some t2 ∧ _
      unfold jK
      rw [List.getElem?_mapIdx, List.getElem?_set]
      have hli : ∀ (b : Int) (k : Nat) (x : Task), (iC b k x).try_ = x.try_ := by intro b k x; unfold iC; split <;> rfl
      by_cases e : i = j
      · subst e
        rw [h] at hi
        rw [if_pos rfl, if_pos hl]
        exact ⟨_, rfl, by rw [hli]; have := Option.some.inj hi; rw [this]⟩
      · rw [if_neg e, h]; exact ⟨_, rfl, hli _ _ _⟩
end Go.Proofs.YtchnllpegfbleaaGreat
