/-
  A crew's turns, of both.
  A crew's turns, many of them, of both.
  A field of a struct value. Theory alone.
  Whether a crew is done, of both.
  The law on Finishes, walked.
  What is handed to a law, taken out of the row's reading: it is data in memory, as the walks want it.
  A law's arguments, taken out of the row's reading.
-/
import Derived.ProofKit
import Derived.OpenShut
import Derived.Test.YtchnllpegfbleaaGreatQ01
import Derived.Test.YtchnllpegfbleaaGreatQ02
import Derived.Test.YtchnllpegfbleaaGreatQ06
namespace Go.Proofs.YtchnllpegfbleaaGreat
set_option linter.unusedSimpArgs false
set_option linter.unusedVariables false
set_option maxRecDepth 100000
set_option maxHeartbeats 2000000
open Go.RowKit
theorem wO (w : World) {x : Crew} {cs : List Value} {fp : List Nat} (hc : Shape.C w cs x fp) (hw : x.yard.wt + x.holds.length ≤ 1048576) :
  Calls Tryz.prog 67 #[.agg cs.toArray] w fun e w' => ∃ (cs' : List Value) (fp' : List Nat), e = .returned (.agg cs'.toArray) ∧ St w w' [Res.own (.agg cs'.toArray) x fp'] := by
 refine cO Tryz.func67 rfl Tryz.ntmps67 aW (wp_seq (aA (sg (aJ (cs := cs) rfl (St.start w) ?_)))); intro b1 W2 hb3 st4
 refine sg (aP gU st4 ?_); intro b6 W7 hb8 st9
 refine aB (wp_seq (aA ?_))
 have hk12 := hc
 obtain ⟨v12_0, v12_1, v12_2, g12_0, g12_1, g12_2, rfl, hok12, h12_0, h12_1, h12_2, rfl⟩ := hk12
 refine sg (aH lY rfl (sg (aT (cs := [I x.yard.now, I x.yard.seq, v12_0, v12_1]) bC rfl rfl (st9.get 1 rfl) rfl rfl (sg (bE Tryz.func108 rfl rfl ((kN W7 (show Shape.C _ [I x.yard.now, I x.yard.seq, v12_0, v12_1] x.yard _ from ⟨_, _, _, _, rfl, eT, (h12_0.below st9.below), (h12_1.below st9.below), rfl⟩) aD).mono ?_)))))); rintro _ W16 ⟨cs14, fp14, rfl, hk17⟩; refine ⟨_, rfl, ?_⟩
 have st18 := St.call st9 hk17
 refine sg (aH lY rfl ?_)
 have hq_ := dQ st18
 obtain ⟨v22_0, v22_1, g22_0, g22_1, he22, hok22, st23⟩ := hq_
 subst he22
 refine sg (aK (cs := [I x.yard.now, I x.yard.seq, v22_0, v22_1]) (C' := [I x.yard.now, I x.yard.seq, v22_0, v22_1, v12_2, I x.turns, I x.did]) aE rfl rfl (aF rfl (aF rfl (aF (Sl.one (aI (st23.f3.get 1 rfl))) (aF (Sl.one (aI (st23.f3.get 2 rfl))) bG)))) st23.f3 bM rfl ?_); intro W27 st28
 refine aB (wp_seq (aA (sg (aH oK rfl (sg (aU vN rfl rfl (st28.get 0 rfl) (i := 4) rfl rfl ?_))))))
 have st31 := st28.row_nil (α := Reply) 75
 refine sg (cB sH jO rfl rfl h12_2 st31.below st31 (by simp only [List.length_nil]; unfold maxLen; omega) (by simp only [List.length_nil]; omega) ?_); intro v33 W34 st35
 refine sg (aH oK rfl (sg (aR (v := v33) (C' := [I x.yard.now, I x.yard.seq, v22_0, v22_1, v33, I x.turns, I x.did]) aE rfl rfl (Sl.cells (bS (st35.f1.get 1 rfl))) (Sl.one (bS (st35.f1.get 1 rfl))) st35.f1 bM rfl ?_))); intro W39 st40
 refine aB (wp_seq (aA (sg (aT (cs := [I x.yard.now, I x.yard.seq, v22_0, v22_1, v33, I x.turns, I x.did]) bR rfl rfl (st40.get 0 rfl) rfl rfl (sg (aK (cs := [I x.yard.now, I x.yard.seq, v22_0, v22_1, v33, I x.turns, I x.did]) (C' := [I x.yard.now, I x.yard.seq, v22_0, v22_1, v33, I x.turns, I x.did]) aE rfl rfl (aF rfl (aF rfl (aF (Sl.one (aI (st40.f4.get 3 rfl))) (aF (Sl.one (aI (st40.f4.get 4 rfl))) (aF (Sl.one (bS (st40.f4.get 2 rfl))) (aF rfl (aF rfl bG))))))) st40.f4 bM rfl ?_)))))); intro W44 st45
 refine aB (wr (dR bR rfl Tryz.results67 rfl (st45.get 0 rfl) rfl ?_))
 have hq_ := st45.f2.shut
 obtain ⟨fp48, st47⟩ := hq_
 have st51 := eS (x := x) st47.f4.f4 (by assumption)
 exact ⟨_, _, rfl, st51.only 0 rfl⟩
theorem wN (w : World) {x : Crew} {cs : List Value} {fp : List Nat} (hc : Shape.C w cs x fp) (hw : x.yard.wt + x.holds.length ≤ 1048576) :
  Calls Tryz.prog 64 #[.agg cs.toArray] w fun e w' => ∃ (cs' : List Value) (fp' : List Nat), e = .returned (.agg cs'.toArray) ∧ St w w' [Res.own (.agg cs'.toArray) x fp'] := by
 refine cO Tryz.func64 rfl Tryz.ntmps64 aW (wp_seq (aA (sg (aJ (cs := cs) rfl (St.start w) ?_)))); intro b1 W2 hb3 st4
 refine sg (aP gU st4 ?_); intro b6 W7 hb8 st9
 refine aB (wp_seq (aA ?_))
 have hk12 := hc
 obtain ⟨v12_0, v12_1, v12_2, g12_0, g12_1, g12_2, rfl, hok12, h12_0, h12_1, h12_2, rfl⟩ := hk12
 refine sg (aH lY rfl (sg (aT (cs := [I x.yard.now, I x.yard.seq, v12_0, v12_1]) bC rfl rfl (st9.get 1 rfl) rfl rfl (sg (bE Tryz.func71 rfl rfl ((kM W7 (show Shape.C _ [I x.yard.now, I x.yard.seq, v12_0, v12_1] x.yard _ from ⟨_, _, _, _, rfl, eT, (h12_0.below st9.below), (h12_1.below st9.below), rfl⟩) aD).mono ?_)))))); rintro _ W16 ⟨cs14, fp14, rfl, hk17⟩; refine ⟨_, rfl, ?_⟩
 have st18 := St.call st9 hk17
 refine sg (aH lY rfl ?_)
 have hq_ := dQ st18
 obtain ⟨v22_0, v22_1, g22_0, g22_1, he22, hok22, st23⟩ := hq_
 subst he22
 refine sg (aK (cs := [I x.yard.now, I x.yard.seq, v22_0, v22_1]) (C' := [I x.yard.now, I x.yard.seq, v22_0, v22_1, v12_2, I x.turns, I x.did]) aE rfl rfl (aF rfl (aF rfl (aF (Sl.one (aI (st23.f3.get 1 rfl))) (aF (Sl.one (aI (st23.f3.get 2 rfl))) bG)))) st23.f3 bM rfl ?_); intro W27 st28
 refine aB (wp_seq (aA (sg (aS (cs := []) (e := 75) dM (bO jO _) st28 ?_)))); intro b29 W30 hb31 st32
 have st32 := st32.row_empty (α := Reply)
 refine sg (aH oK rfl (sg (aU vN rfl rfl (st32.get 1 rfl) (i := 4) rfl rfl (sg (cB sH jO rfl rfl h12_2 st32.below st32 (by simp only [List.length_nil]; unfold maxLen; omega) (by simp only [List.length_nil]; omega) ?_))))); intro v36 W37 st38
 refine sg (aH oK rfl (sg (aR (v := v36) (C' := [I x.yard.now, I x.yard.seq, v22_0, v22_1, v36, I x.turns, I x.did]) aE rfl rfl (Sl.cells (bS (st38.f1.get 1 rfl))) (Sl.one (bS (st38.f1.get 1 rfl))) st38.f1 bM rfl ?_))); intro W42 st43
 refine aB (wp_seq (aA (sg (aT (cs := [I x.yard.now, I x.yard.seq, v22_0, v22_1, v36, I x.turns, I x.did]) bR rfl rfl (st43.get 0 rfl) rfl rfl (sg (aK (cs := [I x.yard.now, I x.yard.seq, v22_0, v22_1, v36, I x.turns, I x.did]) (C' := [I x.yard.now, I x.yard.seq, v22_0, v22_1, v36, I x.turns, I x.did]) aE rfl rfl (aF rfl (aF rfl (aF (Sl.one (aI (st43.f4.get 3 rfl))) (aF (Sl.one (aI (st43.f4.get 4 rfl))) (aF (Sl.one (bS (st43.f4.get 2 rfl))) (aF rfl (aF rfl bG))))))) st43.f4 bM rfl ?_)))))); intro W47 st48
 refine aB (wr (dR bR rfl Tryz.results64 rfl (st48.get 0 rfl) rfl ?_))
 have hq_ := st48.f2.shut
 obtain ⟨fp51, st50⟩ := hq_
 have st54 := eS (x := x) st50.f4.f4 (by assumption)
 exact ⟨_, _, rfl, st54.only 0 rfl⟩
theorem TurnI_ (w : World) {x : Crew} {cs : List Value} {fp : List Nat} (hc : Shape.C w cs x fp) (pick : Int) (hpk : I64 pick) (hw : x.yard.wt + x.holds.length ≤ 1048576) :
  Calls Tryz.prog 28 #[.agg cs.toArray, I pick] w fun e w' => ∃ (cs' : List Value) (fp' : List Nat), e = .returned (.agg cs'.toArray) ∧ St w w' [Res.own (.agg cs'.toArray) (gM x pick) fp'] := by
 have hpk2 := hpk
 unfold I64 at hpk2
 have hxw : x.wt ≤ 1048576 := hw
 have hw2 : x.yard.wt ≤ 1048576 := by omega
 refine bX Tryz.func28 rfl Tryz.ntmps28 aW (wp_seq (aA (sg (aJ (cs := cs) rfl (St.start w) ?_)))); intro b1 W2 hb3 st4
 refine sg (aP gU st4 ?_); intro b6 W7 hb8 st9
 refine aB (wp_seq (aA (sg (bA bR rfl rfl (st9.get 1 rfl) (Shape.len hc) (sg (bE Tryz.func67 rfl rfl ((wO W7 (aV hc st9.below) aD).mono ?_))))))); rintro _ W15 ⟨cs13, fp13, rfl, hk16⟩; refine ⟨_, rfl, ?_⟩
 have st17 := St.call st9 hk16
 refine sg (aP gU st17 ?_); intro b19 W20 hb21 st22
 refine sg (aL (cs := cs13) bR (bK (st22.get 1 rfl) rfl) rfl rfl st22 rfl ?_); intro W24 st25
 refine aB (wp_seq (wp_seq (aA ?_)))
 rcases bd (!(fQ x)) with h27 | h27
 ·have hk28 := hc
  obtain ⟨v28_0, v28_1, v28_2, g28_0, g28_1, g28_2, rfl, hok28, h28_0, h28_1, h28_2, rfl⟩ := hk28
  rcases nem (x.turns = 1000000000) with h29p | h29p
  ·have h29 := decide_eq_false h29p
   refine rc st25 13 Ag.nil.put.put.put.put.put.put.put [] [(25, .bool (decide (x.did = 1000000000)))] [qb 3 rfl 0, qc Tryz.func13 rfl (fun W s b => xE W (aV hc s.below) aD), qk h27, qb 3 rfl 5, qk h29, qb 3 rfl 6, .o] aE fun f30 W31 h30_ st32 hb33 => (aB (aM (h30_.at 25) (fun h34p => ?_) (fun h34p => ?_)))
   ·refine wp_seq (aA (sg (bA bR rfl (h30_.at 5) (st32.get 0 rfl) (Shape.len (bK (st32.get 1 rfl) rfl)) (sg (aL (cs := cs13) bR (bK (st32.f2.get 2 rfl) rfl) (h30_.at 4) rfl st32.f2 rfl ?_))))); intro W38 st39
    refine aB (wr (dR bR rfl Tryz.results28 (h30_.at 4) (st39.get 0 rfl) (Shape.len (bK (st39.get 2 rfl) rfl)) ?_))
    have hfe : gM x pick = x := jF (.inr (.inr h34p)) pick
    rw [hfe]
    exact ⟨_, _, rfl, st39.f2.d1.d1.d1⟩
   ·refine wp_skip (wp_seq ?_)
    have hcr := yZ (bB h27)
    obtain ⟨hyo, hhl, htn, hdd, hho⟩ := hcr
    have hnb : ¬ lB x := by unfold lB; rintro (h | h | h); rw [(bB h27)] at h; cases h; exact absurd h h29p; exact absurd h h34p
    have hwr : 0 ≤ (bL x pick) ∧ (bL x pick) < (x.holds.length : Int) := by unfold bL; exact ⟨Int.emod_nonneg _ aD, Int.emod_lt_of_pos _ aD⟩
    have hq_ := fJ (xs := x.holds) (i := (bL x pick).toNat) aD
    obtain ⟨h, hh⟩ := hq_
    have hhr := hho h (List.mem_of_getElem? hh)
    unfold kA at hhr
    refine aA (sg (aG (v := I pick) (h30_.at 1) (sg (zL rfl rfl (rn st32 5 h30_.put.put [] [(6, I ((max pick 0) % (x.holds.length : Int)))] [qb 3 rfl 4, ql h28_2, qq (max pick 0) (x.holds.length : Int)] aE fun f47 h47_ => (aB (wp_seq (aA ?_))))))))
    have hic53e7 : (bL x pick).toNat < x.holds.length := (List.getElem?_eq_some_iff.1 hh).1
    have hq_ := gC h28_2 (i := (bL x pick).toNat) hh
    obtain ⟨b49, o49, cs49, f49, hp49, hr49, hc49, hm49⟩ := hq_
    refine rn st32 5 h47_ [] [(37, .agg cs49.toArray)] [qb 3 rfl 4, qxe hp49 (e := bL x pick) aD, qrw hr49 (Shape.len hc49)] aE fun f50 h50_ => (sg (aP kO st32 ?_)); intro b51 W52 hb53 st54
    refine sg (aL (cs := cs49) gR hc49 rfl (h50_.at 37) st54 rfl ?_); intro W56 st57
    refine aB (wp_seq (aA (sg (aC (v := I 0) rfl (aB (wp_seq (wp_seq (aA ?_))))))))
    have hk61 := hc49
    obtain ⟨he61, rfl, hok61⟩ := hk61
    have he61 : _ = [I h.code, I h.run, I h.task, I h.try_] := he61
    subst he61
    refine lw h50_.put.put [(2, .pointer (some ⟨b1, 0, none⟩)), (4, .pointer (some ⟨b6, 0, none⟩)), (5, .pointer (some ⟨b19, 0, none⟩)), (6, I (bL x pick)), (7, .pointer (some ⟨b51, 0, none⟩))] aE fun h63_ => (rn st57 3 h63_ [] [(40, .bool (decide (0 < h.try_)))] [qb 0 rfl 3, .o] aE fun f62 h62_ => (aB (aM (h62_.at 40) (fun h64p => ?_) (fun h64p => ?_))))
    ·refine wp_seq ?_
     have st65 := st57.f2
     have hq_ := lV st65
     obtain ⟨v66_0, v66_1, v66_2, g66_0, g66_1, g66_2, he66, hok66, st67⟩ := hq_
     subst he66
     have hq_ := St.lendx (α := Reply) aW st67.f2 (x := h) hh
     obtain ⟨b72, e72, pre72, cs72, post72, fi72, fr72, hPA72, hC72, st73⟩ := hq_
     obtain ⟨he72, hf72, hok72⟩ := hC72; have he72 : _ = [I h.code, I h.run, I h.task, I h.try_] := he72; subst he72
     refine aA (rn st73.d1 3 h62_ [] [(42, v66_2), (43, I (bL x pick))] [qb 5 rfl 4] aE fun f79 h79_ => (sg (dC (vs := []) (cs := [I 0, I 0, I 0, I 0]) dM aE (sg (aN rH (h79_.at 42) hPA72 (h79_.at 43) aD (sg (dY (i := 0) (cs := [I 0, I 0, I 0, I 0]) (C' := [I 0, I 0, I 0, I 0]) aE rfl rfl (aF rfl (aF rfl (aF rfl (aF rfl bG)))) st73.d1 rfl bM rfl ?_))))))); intro W82 st83
     refine aB ?_
     have st84 := st83.cs0 (cs := [I 0, I 0, I 0, I 0]) (x := zR) ⟨rfl, rfl, (by first | assumption | simp [zR, Reply.ok, I64])⟩
     have hq_ := St.give (α := Reply) st84.f2.f1.f2
     obtain ⟨fp89, st90⟩ := hq_
     refine aA (rn st90 8 h79_.put.put [] [(48, .agg #[I x.yard.now, I x.yard.seq, v28_0, v28_1]), (50, I h.run), (52, I h.task), (54, I h.try_)] [qb 6 rfl 0, qb 3 rfl 1, qb 3 rfl 2, qb 3 rfl 3] aE fun f92 h92_ => (sg (vF Tryz.func68 rfl (h92_.at 48) (h92_.at 50) (h92_.at 52) (h92_.at 54) ((CompleteI W82 (show Shape.C _ [I x.yard.now, I x.yard.seq, v28_0, v28_1] x.yard _ from ⟨_, _, _, _, rfl, eT, (h28_0.below st90.below), (h28_1.below st90.below), rfl⟩) h.run h.task h.try_ aD).mono ?_)))); rintro _ W95 ⟨cs93, fp93, rfl, hk96⟩; refine ⟨_, rfl, ?_⟩
     have st97 := St.call st90 hk96
     refine rn st97 4 h92_.put [] [(56, .agg cs93.toArray), (57, I (gS x.yard h.run h.task h.try_)), (58, .pointer (some ⟨b19, 0, none⟩))] [] aE fun f100 h100_ => ?_
     have hq_ := dQ st97
     obtain ⟨v101_0, v101_1, g101_0, g101_1, he101, hok101, st102⟩ := hq_
     subst he101
     refine sg (aK (cs := [I (bI x.yard h.run h.task h.try_).now, I (bI x.yard h.run h.task h.try_).seq, v101_0, v101_1]) (C' := [I (bI x.yard h.run h.task h.try_).now, I (bI x.yard h.run h.task h.try_).seq, v101_0, v101_1, v66_2, I x.turns, I x.did]) aE (h100_.at 58) (h100_.at 56) (aF rfl (aF rfl (aF (Sl.one (aI (st102.f6.get 1 rfl))) (aF (Sl.one (aI (st102.f6.get 2 rfl))) bG)))) st102.f6 bM rfl ?_); intro W106 st107
     refine sg (aC (v := I (gS x.yard h.run h.task h.try_)) (h100_.at 57) (aB (wp_seq (aA (rn st107 4 h100_.put [] [(82, I (x.turns + 1)), (83, .pointer (some ⟨b19, 5, none⟩))] [qb 0 rfl 5, qad x.turns 1] aE fun f111 h111_ => (sg (aR (v := I (x.turns + 1)) (C' := [I (bI x.yard h.run h.task h.try_).now, I (bI x.yard h.run h.task h.try_).seq, v101_0, v101_1, v66_2, I (x.turns + 1), I x.did]) aE (h111_.at 83) (h111_.at 82) rfl rfl st107 bM rfl ?_))))))); intro W112 st113
     refine aB (wp_seq (wp_seq (aA (sg (aG (v := I (gS x.yard h.run h.task h.try_)) (h111_.at 8) (sg (dI rfl rfl (aB (aM rfl (fun h116p => ?_) (fun h116p => ?_))))))))))
     ·refine aA (rn st113 4 h111_.put.put [] [(88, I (x.did + 1)), (89, .pointer (some ⟨b19, 6, none⟩))] [qb 0 rfl 6, qad x.did 1] aE fun f118 h118_ => (sg (aR (v := I (x.did + 1)) (C' := [I (bI x.yard h.run h.task h.try_).now, I (bI x.yard h.run h.task h.try_).seq, v101_0, v101_1, v66_2, I (x.turns + 1), I (x.did + 1)]) aE (h118_.at 89) (h118_.at 88) rfl rfl st113 bM rfl ?_))); intro W119 st120
      refine aB (wp_seq (aA (sg (aT (cs := [I (bI x.yard h.run h.task h.try_).now, I (bI x.yard h.run h.task h.try_).seq, v101_0, v101_1, v66_2, I (x.turns + 1), I (x.did + 1)]) bR rfl (h118_.at 5) (st120.get 0 rfl) rfl rfl (sg (aK (cs := [I (bI x.yard h.run h.task h.try_).now, I (bI x.yard h.run h.task h.try_).seq, v101_0, v101_1, v66_2, I (x.turns + 1), I (x.did + 1)]) (C' := [I (bI x.yard h.run h.task h.try_).now, I (bI x.yard h.run h.task h.try_).seq, v101_0, v101_1, v66_2, I (x.turns + 1), I (x.did + 1)]) aE (h118_.at 4) rfl (aF rfl (aF rfl (aF (Sl.one (aI (st120.f7.get 2 rfl))) (aF (Sl.one (aI (st120.f7.get 3 rfl))) (aF (Sl.one (aI (st120.f7.get 4 rfl))) (aF rfl (aF rfl bG))))))) st120.f7 bM rfl ?_)))))); intro W124 st125
      refine aB (wr (dR bR rfl Tryz.results28 (h118_.at 4) (st125.get 0 rfl) rfl ?_))
      have st129 := eS (x := (⟨bI x.yard h.run h.task h.try_, x.holds.set (bL x pick).toNat zR, x.turns + 1, x.did + 1⟩ : Crew)) st125.f4.f4.f4 (show Crew.ok _ from ⟨(by assumption), by unfold I64; simp only; omega, by unfold I64; simp only; omega⟩)
      try dsimp only at st129
      have st131 := st129.d1
      have hfe : gM x pick = (⟨bI x.yard h.run h.task h.try_, x.holds.set (bL x pick).toNat zR, x.turns + 1, x.did + 1⟩ : Crew) := by rw [iX hnb hh]; unfold lR; rw [if_pos h64p, if_pos h116p]
      rw [hfe]
      exact ⟨_, _, rfl, st131.d1.d1.d1.d1.d1⟩
     ·refine wp_skip (wp_seq (aA (sg (aT (cs := [I (bI x.yard h.run h.task h.try_).now, I (bI x.yard h.run h.task h.try_).seq, v101_0, v101_1, v66_2, I (x.turns + 1), I x.did]) bR rfl (h111_.at 5) (st113.get 0 rfl) rfl rfl (sg (aK (cs := [I (bI x.yard h.run h.task h.try_).now, I (bI x.yard h.run h.task h.try_).seq, v101_0, v101_1, v66_2, I (x.turns + 1), I x.did]) (C' := [I (bI x.yard h.run h.task h.try_).now, I (bI x.yard h.run h.task h.try_).seq, v101_0, v101_1, v66_2, I (x.turns + 1), I x.did]) aE (h111_.at 4) rfl (aF rfl (aF rfl (aF (Sl.one (aI (st113.f7.get 2 rfl))) (aF (Sl.one (aI (st113.f7.get 3 rfl))) (aF (Sl.one (aI (st113.f7.get 4 rfl))) (aF rfl (aF rfl bG))))))) st113.f7 bM rfl ?_)))))); intro W140 st141
      refine aB (wr (dR bR rfl Tryz.results28 (h111_.at 4) (st141.get 0 rfl) rfl ?_))
      have st145 := eS (x := (⟨bI x.yard h.run h.task h.try_, x.holds.set (bL x pick).toNat zR, x.turns + 1, x.did⟩ : Crew)) st141.f4.f4.f4 (show Crew.ok _ from ⟨(by assumption), by unfold I64; simp only; omega, by unfold I64; simp only; omega⟩)
      try dsimp only at st145
      have st147 := st145.d1
      have hfe : gM x pick = (⟨bI x.yard h.run h.task h.try_, x.holds.set (bL x pick).toNat zR, x.turns + 1, x.did⟩ : Crew) := by rw [iX hnb hh]; unfold lR; rw [if_pos h64p, if_neg h116p]
      rw [hfe]
      exact ⟨_, _, rfl, st147.d1.d1.d1.d1.d1⟩
    ·refine wp_seq (aA (rn st57 6 h62_ [] [(61, .agg #[I x.yard.now, I x.yard.seq, v28_0, v28_1]), (62, I (bL x pick)), (65, I (x.turns % 1000))] [qb 4 rfl 0, qb 4 rfl 5, qq x.turns 1000] aE fun f154 h154_ => (sg (gH Tryz.func69 rfl (h154_.at 61) (h154_.at 62) (h154_.at 65) ((PollI W56 (show Shape.C _ [I x.yard.now, I x.yard.seq, v28_0, v28_1] x.yard _ from ⟨_, _, _, _, rfl, eT, (h28_0.below st57.below), (h28_1.below st57.below), rfl⟩) (bL x pick) (x.turns % 1000) aD dJ).mono ?_))))); rintro _ W157 ⟨cs155, fp155, rfl, hokf160, hk158⟩; refine ⟨_, rfl, ?_⟩
     have st159 := St.call st57 hk158
     refine rn st159 3 h154_.put [] [(67, .agg cs155.toArray), (68, .agg #[I (aQ x.yard (bL x pick) (x.turns % 1000)).2.code, I (aQ x.yard (bL x pick) (x.turns % 1000)).2.run, I (aQ x.yard (bL x pick) (x.turns % 1000)).2.task, I (aQ x.yard (bL x pick) (x.turns % 1000)).2.try_])] [] aE fun f162 h162_ => (sg (aP eG st159 ?_)); intro b163 W164 hb165 st166
     refine sg (aP kO st166 ?_); intro b168 W169 hb170 st171
     refine sg (aL (cs := cs155) bC (bK (st171.f1.get 2 rfl) rfl) rfl (h162_.at 67) st171.f1 rfl ?_); intro W174 st175
     refine sg (aK (cs := [I (aQ x.yard (bL x pick) (x.turns % 1000)).2.code, I (aQ x.yard (bL x pick) (x.turns % 1000)).2.run, I (aQ x.yard (bL x pick) (x.turns % 1000)).2.task, I (aQ x.yard (bL x pick) (x.turns % 1000)).2.try_]) (C' := [I (aQ x.yard (bL x pick) (x.turns % 1000)).2.code, I (aQ x.yard (bL x pick) (x.turns % 1000)).2.run, I (aQ x.yard (bL x pick) (x.turns % 1000)).2.task, I (aQ x.yard (bL x pick) (x.turns % 1000)).2.try_]) aE rfl (h162_.at 68) (aF rfl (aF rfl (aF rfl (aF rfl bG)))) st175.f1 bM rfl ?_); intro W177 st178
     refine aB (wp_seq ?_)
     have hq_ := lV st178.f5
     obtain ⟨v180_0, v180_1, v180_2, g180_0, g180_1, g180_2, he180, hok180, st181⟩ := hq_
     subst he180
     have hq_ := dQ st181.f5
     obtain ⟨v186_0, v186_1, g186_0, g186_1, he186, hok186, st187⟩ := hq_
     subst he186
     refine wT 5 [4] (fun q => match q with | 0 => Res.bx b19 [I x.yard.now, I x.yard.seq, v180_0, v180_1, v180_2, I x.turns, I x.did] 37 | _ => Res.bx b19 [I (aQ x.yard (bL x pick) (x.turns % 1000)).1.now, I (aQ x.yard (bL x pick) (x.turns % 1000)).1.seq, v186_0, v186_1, v180_2, I x.turns, I x.did] 37) [Pl.is (.agg #[I (aQ x.yard (bL x pick) (x.turns % 1000)).1.now, I (aQ x.yard (bL x pick) (x.turns % 1000)).1.seq, v186_0, v186_1]), Pl.is (.pointer (some ⟨b168, 0 + 0, none⟩)), Pl.is (I (aQ x.yard (bL x pick) (x.turns % 1000)).2.code), Pl.is (.pointer (some ⟨b19, 0 + 0, none⟩)), Pl.off] mix (by rfl) (by rfl) (by rfl) st187.f8 ⟨fun _ _ _ h => h, fun _ _ _ h => h, fun _ _ _ h => h, fun _ _ _ h => h, fun _ _ _ h => h, trivial⟩ ⟨(fun f W r_ hst hd hf => aT (cs := [I (aQ x.yard (bL x pick) (x.turns % 1000)).1.now, I (aQ x.yard (bL x pick) (x.turns % 1000)).1.seq, v186_0, v186_1]) bC rfl ((hf 9 rfl).trans (show _ = (.pointer (some ⟨b163, 0, none⟩) : Value) from rfl)) (hst.get 7 rfl) rfl rfl ⟨hst, rfl⟩), (fun f W r_ hst hd hf => aH fa_Reply_0 ((hf 10 rfl).trans (show _ = (.pointer (some ⟨b168, 0, none⟩) : Value) from rfl)) ⟨hst, rfl⟩), (fun f W r_ hst hd hf => aU eA rfl (hd 1 70 rfl rfl) (hst.get 6 rfl) (i := 0) rfl rfl ⟨hst, rfl⟩), (fun f W r_ hst hd hf => aH lY ((hf 5 rfl).trans (h162_.at 5)) ⟨hst, rfl⟩), (⟨rfl, fun f W hst hd hf => aK (cs := [I (aQ x.yard (bL x pick) (x.turns % 1000)).1.now, I (aQ x.yard (bL x pick) (x.turns % 1000)).1.seq, v186_0, v186_1]) (C' := [I (aQ x.yard (bL x pick) (x.turns % 1000)).1.now, I (aQ x.yard (bL x pick) (x.turns % 1000)).1.seq, v186_0, v186_1, v180_2, I x.turns, I x.did]) aE (hd 3 72 rfl rfl) (hd 0 69 rfl rfl) (aF rfl (aF rfl (aF (Sl.one (aI (hst.get 1 rfl))) (aF (Sl.one (aI (hst.get 2 rfl))) bG)))) hst bM rfl (fun W2 st2 => ⟨st2, rfl⟩)⟩), trivial⟩ ?_
     intro f191 W192 st193 hv195 hf196
     refine sg (aC (v := I (aQ x.yard (bL x pick) (x.turns % 1000)).2.code) (hv195 2 71 aW rfl) (aB (wp_seq (aA (sg (aG (v := I (aQ x.yard (bL x pick) (x.turns % 1000)).2.code) rfl (sg (dI rfl rfl (aB (aM rfl (fun h202p => ?_) (fun h202p => ?_)))))))))))
     ·have h202 := decide_eq_true h202p
      have hq_ := St.lendx (α := Reply) aW st193.f5 (x := h) hh
      obtain ⟨b204, e204, pre204, cs204, post204, fi204, fr204, hPA204, hC204, st205⟩ := hq_
      obtain ⟨he204, hf204, hok204⟩ := hC204; have he204 : _ = [I h.code, I h.run, I h.task, I h.try_] := he204; subst he204
      refine aA (rn st205.d1 5 (Ag.cons (show f191 4 = .pointer (some ⟨b6, 0, none⟩) from ((hf196 4 rfl).trans (h162_.at 4))) (Ag.cons (show f191 5 = .pointer (some ⟨b19, 0, none⟩) from ((hf196 5 rfl).trans (h162_.at 5))) (Ag.cons (show f191 6 = I (bL x pick) from ((hf196 6 rfl).trans (h162_.at 6))) (Ag.cons (show f191 10 = .pointer (some ⟨b168, 0, none⟩) from ((hf196 10 rfl).trans (show _ = (.pointer (some ⟨b168, 0, none⟩) : Value) from rfl))) Ag.nil)))).put.put.put [] [(78, .agg #[I (aQ x.yard (bL x pick) (x.turns % 1000)).2.code, I (aQ x.yard (bL x pick) (x.turns % 1000)).2.run, I (aQ x.yard (bL x pick) (x.turns % 1000)).2.task, I (aQ x.yard (bL x pick) (x.turns % 1000)).2.try_]), (79, .pointer (some ⟨b204, pre204.length, none⟩))] [qb 2 rfl 4, qb 7 rfl 0, qxe hPA204 (e := bL x pick) aD] aE fun f211 h211_ => (sg (dY (i := 0) (cs := [I (aQ x.yard (bL x pick) (x.turns % 1000)).2.code, I (aQ x.yard (bL x pick) (x.turns % 1000)).2.run, I (aQ x.yard (bL x pick) (x.turns % 1000)).2.task, I (aQ x.yard (bL x pick) (x.turns % 1000)).2.try_]) (C' := [I (aQ x.yard (bL x pick) (x.turns % 1000)).2.code, I (aQ x.yard (bL x pick) (x.turns % 1000)).2.run, I (aQ x.yard (bL x pick) (x.turns % 1000)).2.task, I (aQ x.yard (bL x pick) (x.turns % 1000)).2.try_]) aE (h211_.at 79) (h211_.at 78) (aF rfl (aF rfl (aF rfl (aF rfl bG)))) st205.d1 rfl bM rfl ?_))); intro W212 st213
      refine aB (wp_seq ?_)
      have st214 := st213.cs0 (cs := [I (aQ x.yard (bL x pick) (x.turns % 1000)).2.code, I (aQ x.yard (bL x pick) (x.turns % 1000)).2.run, I (aQ x.yard (bL x pick) (x.turns % 1000)).2.task, I (aQ x.yard (bL x pick) (x.turns % 1000)).2.try_]) (x := (aQ x.yard (bL x pick) (x.turns % 1000)).2) ⟨rfl, rfl, (by first | assumption | simp [zR, Reply.ok, I64])⟩
      have hq_ := St.give (α := Reply) st214.f2.f1.f2
      obtain ⟨fp219, st220⟩ := hq_
      refine aA (rn st220 4 h211_ [] [(82, I (x.turns + 1)), (83, .pointer (some ⟨b19, 5, none⟩))] [qb 1 rfl 5, qad x.turns 1] aE fun f222 h222_ => (sg (aR (v := I (x.turns + 1)) (C' := [I (aQ x.yard (bL x pick) (x.turns % 1000)).1.now, I (aQ x.yard (bL x pick) (x.turns % 1000)).1.seq, v186_0, v186_1, v180_2, I (x.turns + 1), I x.did]) aE (h222_.at 83) (h222_.at 82) rfl rfl st220.f1 bM rfl ?_))); intro W224 st225
      refine aB (wp_seq (wp_seq (aA (sg (aG (v := I (aQ x.yard (bL x pick) (x.turns % 1000)).2.code) (h222_.at 8) (sg (dI rfl rfl (aB (fA rfl h202 (aA (rn st225 4 h222_.put.put [] [(88, I (x.did + 1)), (89, .pointer (some ⟨b19, 6, none⟩))] [qb 0 rfl 6, qad x.did 1] aE fun f229 h229_ => (sg (aR (v := I (x.did + 1)) (C' := [I (aQ x.yard (bL x pick) (x.turns % 1000)).1.now, I (aQ x.yard (bL x pick) (x.turns % 1000)).1.seq, v186_0, v186_1, v180_2, I (x.turns + 1), I (x.did + 1)]) aE (h229_.at 89) (h229_.at 88) rfl rfl st225 bM rfl ?_))))))))))))); intro W230 st231
      refine aB (wp_seq (aA (sg (aT (cs := [I (aQ x.yard (bL x pick) (x.turns % 1000)).1.now, I (aQ x.yard (bL x pick) (x.turns % 1000)).1.seq, v186_0, v186_1, v180_2, I (x.turns + 1), I (x.did + 1)]) bR rfl (h229_.at 5) (st231.get 0 rfl) rfl rfl (sg (aK (cs := [I (aQ x.yard (bL x pick) (x.turns % 1000)).1.now, I (aQ x.yard (bL x pick) (x.turns % 1000)).1.seq, v186_0, v186_1, v180_2, I (x.turns + 1), I (x.did + 1)]) (C' := [I (aQ x.yard (bL x pick) (x.turns % 1000)).1.now, I (aQ x.yard (bL x pick) (x.turns % 1000)).1.seq, v186_0, v186_1, v180_2, I (x.turns + 1), I (x.did + 1)]) aE (h229_.at 4) rfl (aF rfl (aF rfl (aF (Sl.one (aI (st231.f9.get 3 rfl))) (aF (Sl.one (aI (st231.f9.get 4 rfl))) (aF (Sl.one (aI (st231.f9.get 2 rfl))) (aF rfl (aF rfl bG))))))) st231.f9 bM rfl ?_)))))); intro W235 st236
      refine aB (wr (dR bR rfl Tryz.results28 (h229_.at 4) (st236.get 0 rfl) rfl ?_))
      have st240 := eS (x := (⟨(aQ x.yard (bL x pick) (x.turns % 1000)).1, x.holds.set (bL x pick).toNat (aQ x.yard (bL x pick) (x.turns % 1000)).2, x.turns + 1, x.did + 1⟩ : Crew)) st236.f2.f4.f4 (show Crew.ok _ from ⟨(by assumption), by unfold I64; simp only; omega, by unfold I64; simp only; omega⟩)
      try dsimp only at st240
      have st242 := st240.d1
      have hfe : gM x pick = (⟨(aQ x.yard (bL x pick) (x.turns % 1000)).1, x.holds.set (bL x pick).toNat (aQ x.yard (bL x pick) (x.turns % 1000)).2, x.turns + 1, x.did + 1⟩ : Crew) := by rw [iX hnb hh]; unfold lR; rw [if_neg h64p, if_pos h202p, if_pos h202p]
      rw [hfe]
      exact ⟨_, _, rfl, st242.d1.d1.d1.d1.d1.d1.d1⟩
     ·have h202 := decide_eq_false h202p
      refine wp_skip (wp_seq (aA (rn st193 4 (Ag.cons (show f191 4 = .pointer (some ⟨b6, 0, none⟩) from ((hf196 4 rfl).trans (h162_.at 4))) (Ag.cons (show f191 5 = .pointer (some ⟨b19, 0, none⟩) from ((hf196 5 rfl).trans (h162_.at 5))) (Ag.cons (show f191 6 = I (bL x pick) from ((hf196 6 rfl).trans (h162_.at 6))) (Ag.cons (show f191 10 = .pointer (some ⟨b168, 0, none⟩) from ((hf196 10 rfl).trans (show _ = (.pointer (some ⟨b168, 0, none⟩) : Value) from rfl))) Ag.nil)))).put.put.put [] [(82, I (x.turns + 1)), (83, .pointer (some ⟨b19, 5, none⟩))] [qb 0 rfl 5, qad x.turns 1] aE fun f251 h251_ => (sg (aR (v := I (x.turns + 1)) (C' := [I (aQ x.yard (bL x pick) (x.turns % 1000)).1.now, I (aQ x.yard (bL x pick) (x.turns % 1000)).1.seq, v186_0, v186_1, v180_2, I (x.turns + 1), I x.did]) aE (h251_.at 83) (h251_.at 82) rfl rfl st193 bM rfl ?_))))); intro W252 st253
      refine aB (wp_seq (wp_seq (aA (sg (aG (v := I (aQ x.yard (bL x pick) (x.turns % 1000)).2.code) (h251_.at 8) (sg (dI rfl rfl (aB (gQ rfl h202 (wp_skip (wp_seq (aA (sg (aT (cs := [I (aQ x.yard (bL x pick) (x.turns % 1000)).1.now, I (aQ x.yard (bL x pick) (x.turns % 1000)).1.seq, v186_0, v186_1, v180_2, I (x.turns + 1), I x.did]) bR rfl (h251_.at 5) (st253.get 0 rfl) rfl rfl ?_))))))))))))))
      refine sg (aK (cs := [I (aQ x.yard (bL x pick) (x.turns % 1000)).1.now, I (aQ x.yard (bL x pick) (x.turns % 1000)).1.seq, v186_0, v186_1, v180_2, I (x.turns + 1), I x.did]) (C' := [I (aQ x.yard (bL x pick) (x.turns % 1000)).1.now, I (aQ x.yard (bL x pick) (x.turns % 1000)).1.seq, v186_0, v186_1, v180_2, I (x.turns + 1), I x.did]) aE (h251_.at 4) rfl (aF rfl (aF rfl (aF (Sl.one (aI (st253.f9.get 2 rfl))) (aF (Sl.one (aI (st253.f9.get 3 rfl))) (aF (Sl.one (aI (st253.f9.get 6 rfl))) (aF rfl (aF rfl bG))))))) st253.f9 bM rfl ?_); intro W259 st260
      refine aB (wr (dR bR rfl Tryz.results28 (h251_.at 4) (st260.get 0 rfl) rfl ?_))
      have st264 := eS (x := (⟨(aQ x.yard (bL x pick) (x.turns % 1000)).1, x.holds, x.turns + 1, x.did⟩ : Crew)) st260.f6.f4.f4 (show Crew.ok _ from ⟨(by assumption), by unfold I64; simp only; omega, by unfold I64; simp only; omega⟩)
      try dsimp only at st264
      have st266 := st264.d1
      have hfe : gM x pick = (⟨(aQ x.yard (bL x pick) (x.turns % 1000)).1, x.holds, x.turns + 1, x.did⟩ : Crew) := by rw [iX hnb hh]; unfold lR; rw [if_neg h64p, if_neg h202p, if_neg h202p]
      rw [hfe]
      exact ⟨_, _, rfl, st266.d1.d1.d1.d1.d1.d1.d1⟩
  ·have h29 := decide_eq_true h29p
   refine rc st25 13 Ag.nil.put.put.put.put.put.put.put [] [(25, .bool true)] [qb 3 rfl 0, qc Tryz.func13 rfl (fun W s b => xE W (aV hc s.below) aD), qk h27, qb 3 rfl 5, qk h29] aE fun f274 W275 h274_ st276 hb277 => (aB (fA (h274_.at 25) rfl (wp_seq (aA (sg (bA bR rfl (h274_.at 5) (st276.get 0 rfl) (Shape.len (bK (st276.get 1 rfl) rfl)) (sg (aL (cs := cs13) bR (bK (st276.f2.get 2 rfl) rfl) (h274_.at 4) rfl st276.f2 rfl ?_)))))))); intro W281 st282
   refine aB (wr (dR bR rfl Tryz.results28 (h274_.at 4) (st282.get 0 rfl) (Shape.len (bK (st282.get 2 rfl) rfl)) ?_))
   have hfe : gM x pick = x := jF (.inr (.inl h29p)) pick
   rw [hfe]
   exact ⟨_, _, rfl, st282.f2.d1.d1.d1⟩
 ·refine rc st25 13 Ag.nil.put.put.put.put.put.put.put [] [(25, .bool true)] [qw 3 rfl (Shape.len hc), qc Tryz.func13 rfl (fun W s b => xE W (aV hc s.below) aD), qk h27] aE fun f287 W288 h287_ st289 hb290 => (aB (fA (h287_.at 25) rfl (wp_seq (aA (sg (bA bR rfl (h287_.at 5) (st289.get 0 rfl) (Shape.len (bK (st289.get 1 rfl) rfl)) (sg (aL (cs := cs13) bR (bK (st289.f2.get 2 rfl) rfl) (h287_.at 4) rfl st289.f2 rfl ?_)))))))); intro W294 st295
  refine aB (wr (dR bR rfl Tryz.results28 (h287_.at 4) (st295.get 0 rfl) (Shape.len (bK (st295.get 2 rfl) rfl)) ?_))
  have hfe : gM x pick = x := jF (.inl (aX h27)) pick
  rw [hfe]
  exact ⟨_, _, rfl, st295.f2.d1.d1.d1⟩
theorem TurnS_ (w : World) {x : Crew} {cs : List Value} {fp : List Nat} (hc : Shape.C w cs x fp) (pick : Int) (hpk : I64 pick) (hw : x.yard.wt + x.holds.length ≤ 1048576) :
  Calls Tryz.prog 27 #[.agg cs.toArray, I pick] w fun e w' => ∃ (cs' : List Value) (fp' : List Nat), e = .returned (.agg cs'.toArray) ∧ St w w' [Res.own (.agg cs'.toArray) (gM x pick) fp'] := by
 have hpk2 := hpk
 unfold I64 at hpk2
 have hxw : x.wt ≤ 1048576 := hw
 have hw2 : x.yard.wt ≤ 1048576 := by omega
 refine bX Tryz.func27 rfl Tryz.ntmps27 aW (wp_seq (aA (sg (aJ (cs := cs) rfl (St.start w) ?_)))); intro b1 W2 hb3 st4
 refine sg (aP gU st4 ?_); intro b6 W7 hb8 st9
 refine aB (wp_seq (aA (sg (bA bR rfl rfl (st9.get 1 rfl) (Shape.len hc) (sg (bE Tryz.func64 rfl rfl ((wN W7 (aV hc st9.below) aD).mono ?_))))))); rintro _ W15 ⟨cs13, fp13, rfl, hk16⟩; refine ⟨_, rfl, ?_⟩
 have st17 := St.call st9 hk16
 refine sg (aP gU st17 ?_); intro b19 W20 hb21 st22
 refine sg (aL (cs := cs13) bR (bK (st22.get 1 rfl) rfl) rfl rfl st22 rfl ?_); intro W24 st25
 refine aB (wp_seq (wp_seq (aA ?_)))
 rcases bd (!(fQ x)) with h27 | h27
 ·have hk28 := hc
  obtain ⟨v28_0, v28_1, v28_2, g28_0, g28_1, g28_2, rfl, hok28, h28_0, h28_1, h28_2, rfl⟩ := hk28
  rcases nem (x.turns = 1000000000) with h29p | h29p
  ·have h29 := decide_eq_false h29p
   refine rc st25 13 Ag.nil.put.put.put.put.put.put.put [] [(24, .bool (decide (x.did = 1000000000)))] [qb 3 rfl 0, qc Tryz.func11 rfl (fun W s b => xD W (aV hc s.below) aD), qk h27, qb 3 rfl 5, qk h29, qb 3 rfl 6, .o] aE fun f30 W31 h30_ st32 hb33 => (aB (aM (h30_.at 24) (fun h34p => ?_) (fun h34p => ?_)))
   ·refine wp_seq (aA (sg (bA bR rfl (h30_.at 5) (st32.get 0 rfl) (Shape.len (bK (st32.get 1 rfl) rfl)) (sg (aL (cs := cs13) bR (bK (st32.f2.get 2 rfl) rfl) (h30_.at 4) rfl st32.f2 rfl ?_))))); intro W38 st39
    refine aB (wr (dR bR rfl Tryz.results27 (h30_.at 4) (st39.get 0 rfl) (Shape.len (bK (st39.get 2 rfl) rfl)) ?_))
    have hfe : gM x pick = x := jF (.inr (.inr h34p)) pick
    rw [hfe]
    exact ⟨_, _, rfl, st39.f2.d1.d1.d1⟩
   ·refine wp_skip (wp_seq (wp_seq (aA (sg (aG (v := I pick) (h30_.at 1) (sg (bV rfl rfl (aB (sx_joinc (fun (f : Nat → Value) (W : World) => Ag [(1, I (max pick 0)), (2, .pointer (some ⟨b1, 0, none⟩)), (4, .pointer (some ⟨b6, 0, none⟩)), (5, .pointer (some ⟨b19, 0, none⟩))] f ∧ St w W ([Res.bx b19 cs13 37, Res.own (α := Crew) (.agg cs13.toArray) x fp13, Res.bx b6 [I 0, I 0, .slice none 0 0, .slice none 0 0, .slice none 0 0, I 0, I 0] 37, Res.bx b1 [I x.yard.now, I x.yard.seq, v28_0, v28_1, v28_2, I x.turns, I x.did] 37])) ?_ (fun f46 W47 hJ48 => ?_))))))))))
    ·refine aM rfl (fun h51p => ?_) (fun h51p => ?_)
     ·refine aA (sg (aC (v := I 0) rfl (aB ?_)))
      exact ⟨_, rfl, (Ag.cons (Eq.trans (show _ = I 0 from rfl) (congrArg I aD)) (Ag.cons (h30_.at 2) (Ag.cons (h30_.at 4) (Ag.cons (h30_.at 5) Ag.nil)))), st32⟩
     ·refine wp_skip ?_
      exact ⟨_, rfl, (Ag.cons (Eq.trans (show _ = I pick from (h30_.at 1)) (congrArg I aD)) (Ag.cons (h30_.at 2) (Ag.cons (h30_.at 4) (Ag.cons (h30_.at 5) Ag.nil)))), st32⟩
    obtain ⟨hA50, st49⟩ := hJ48
    refine wp_seq ?_
    have hcr := yZ (bB h27)
    obtain ⟨hyo, hhl, htn, hdd, hho⟩ := hcr
    have hnb : ¬ lB x := by unfold lB; rintro (h | h | h); rw [(bB h27)] at h; cases h; exact absurd h h29p; exact absurd h h34p
    have hwr : 0 ≤ (bL x pick) ∧ (bL x pick) < (x.holds.length : Int) := by unfold bL; exact ⟨Int.emod_nonneg _ aD, Int.emod_lt_of_pos _ aD⟩
    have hq_ := fJ (xs := x.holds) (i := (bL x pick).toNat) aD
    obtain ⟨h, hh⟩ := hq_
    have hhr := hho h (List.mem_of_getElem? hh)
    unfold kA at hhr
    refine aA (rn st49 6 hA50 [] [(6, I ((max pick 0) % (x.holds.length : Int)))] [qb 3 rfl 4, ql h28_2, qq (max pick 0) (x.holds.length : Int)] aE fun f55 h55_ => (aB (wp_seq (aA ?_))))
    have hq_ := lV st49.f1
    obtain ⟨v58_0, v58_1, v58_2, g58_0, g58_1, g58_2, he58, hok58, st59⟩ := hq_
    subst he58
    have hic53e7 : (bL x pick).toNat < x.holds.length := (List.getElem?_eq_some_iff.1 hh).1
    have hq_ := gC (aI (st59.get 2 rfl)) (i := (bL x pick).toNat) hh
    obtain ⟨b63, o63, cs63, f63, hp63, hr63, hc63, hm63⟩ := hq_
    refine rn st59 5 h55_ [] [(37, .agg cs63.toArray)] [qb 3 rfl 4, qxe hp63 (e := bL x pick) aD, qtw hr63 (Below.refl _ _) (Shape.len hc63)] aE fun f64 h64_ => (sg (aP kO st59 ?_)); intro b65 W66 hb67 st68
    refine sg (aL (cs := cs63) gR hc63 rfl (h64_.at 37) st68 rfl ?_); intro W70 st71
    refine aB (wp_seq (aA (sg (aC (v := I 0) rfl (aB (wp_seq (wp_seq (aA ?_))))))))
    have hk75 := hc63
    obtain ⟨he75, rfl, hok75⟩ := hk75
    have he75 : _ = [I h.code, I h.run, I h.task, I h.try_] := he75
    subst he75
    refine rn st71 3 h64_.put.put [] [(40, .bool (decide (0 < h.try_)))] [qb 0 rfl 3, .o] aE fun f76 h76_ => (aB (aM (h76_.at 40) (fun h77p => ?_) (fun h77p => ?_)))
    ·refine wp_seq (aA (rn st71 8 h76_ [] [(43, .agg #[I x.yard.now, I x.yard.seq, v58_0, v58_1]), (45, I h.run), (47, I h.task), (49, I h.try_)] [qb 4 rfl 0, qb 0 rfl 1, qb 0 rfl 2, qb 0 rfl 3] aE fun f79 h79_ => (sg (vF Tryz.func65 rfl (h79_.at 43) (h79_.at 45) (h79_.at 47) (h79_.at 49) ((CompleteS W70 (show Shape.C _ [I x.yard.now, I x.yard.seq, v58_0, v58_1] x.yard _ from ⟨_, _, _, _, rfl, eT, (aI (st71.get 1 rfl)), (aI (st71.get 2 rfl)), rfl⟩) h.run h.task h.try_ aD).mono ?_))))); rintro _ W82 ⟨cs80, fp80, rfl, hk83⟩; refine ⟨_, rfl, ?_⟩
     have st84 := St.call st71 hk83
     refine rn st84 4 h79_.put [] [(51, .agg cs80.toArray), (52, I (gS x.yard h.run h.task h.try_)), (53, .pointer (some ⟨b19, 0, none⟩))] [] aE fun f87 h87_ => ?_
     have hq_ := dQ st84
     obtain ⟨v88_0, v88_1, g88_0, g88_1, he88, hok88, st89⟩ := hq_
     subst he88
     refine sg (aK (cs := [I (bI x.yard h.run h.task h.try_).now, I (bI x.yard h.run h.task h.try_).seq, v88_0, v88_1]) (C' := [I (bI x.yard h.run h.task h.try_).now, I (bI x.yard h.run h.task h.try_).seq, v88_0, v88_1, v58_2, I x.turns, I x.did]) aE (h87_.at 53) (h87_.at 51) (aF rfl (aF rfl (aF (Sl.one (aI (st89.f6.get 1 rfl))) (aF (Sl.one (aI (st89.f6.get 2 rfl))) bG)))) st89.f6 bM rfl ?_); intro W93 st94
     refine sg (aC (v := I (gS x.yard h.run h.task h.try_)) (h87_.at 52) (aB ?_))
     have hq_ := St.lendx (α := Reply) aW st94.f6 (x := h) hh
     obtain ⟨b98, e98, pre98, cs98, post98, fi98, fr98, hPA98, hC98, st99⟩ := hq_
     obtain ⟨he98, hf98, hok98⟩ := hC98; have he98 : _ = [I h.code, I h.run, I h.task, I h.try_] := he98; subst he98
     refine aA (rn st99.d1 3 h87_.put [] [(55, v58_2), (56, I (bL x pick))] [qb 2 rfl 4] aE fun f105 h105_ => (sg (dC (vs := []) (cs := [I 0, I 0, I 0, I 0]) dM aE (sg (aN rH (h105_.at 55) hPA98 (h105_.at 56) aD (sg (dY (i := 0) (cs := [I 0, I 0, I 0, I 0]) (C' := [I 0, I 0, I 0, I 0]) aE rfl rfl (aF rfl (aF rfl (aF rfl (aF rfl bG)))) st99.d1 rfl bM rfl ?_))))))); intro W108 st109
     refine aB (wp_seq ?_)
     have st110 := st109.cs0 (cs := [I 0, I 0, I 0, I 0]) (x := zR) ⟨rfl, rfl, (by first | assumption | simp [zR, Reply.ok, I64])⟩
     have hq_ := St.give (α := Reply) st110.f2.f1.f2
     obtain ⟨fp115, st116⟩ := hq_
     refine aA (lw h105_.put.put [(4, .pointer (some ⟨b6, 0, none⟩)), (5, .pointer (some ⟨b19, 0, none⟩)), (8, I (gS x.yard h.run h.task h.try_))] aE fun h119_ => (rn st116 4 h119_ [] [(82, I (x.turns + 1)), (83, .pointer (some ⟨b19, 5, none⟩))] [qb 1 rfl 5, qad x.turns 1] aE fun f118 h118_ => (sg (aR (v := I (x.turns + 1)) (C' := [I (bI x.yard h.run h.task h.try_).now, I (bI x.yard h.run h.task h.try_).seq, v88_0, v88_1, v58_2, I (x.turns + 1), I x.did]) aE (h118_.at 83) (h118_.at 82) rfl rfl st116.f1 bM rfl ?_)))); intro W121 st122
     refine aB (wp_seq (wp_seq (aA (sg (aG (v := I (gS x.yard h.run h.task h.try_)) (h118_.at 8) (sg (dI rfl rfl (aB (aM rfl (fun h125p => ?_) (fun h125p => ?_))))))))))
     ·refine aA (rn st122 4 h118_.put.put [] [(88, I (x.did + 1)), (89, .pointer (some ⟨b19, 6, none⟩))] [qb 0 rfl 6, qad x.did 1] aE fun f127 h127_ => (sg (aR (v := I (x.did + 1)) (C' := [I (bI x.yard h.run h.task h.try_).now, I (bI x.yard h.run h.task h.try_).seq, v88_0, v88_1, v58_2, I (x.turns + 1), I (x.did + 1)]) aE (h127_.at 89) (h127_.at 88) rfl rfl st122 bM rfl ?_))); intro W128 st129
      refine aB (wp_seq (aA (sg (aT (cs := [I (bI x.yard h.run h.task h.try_).now, I (bI x.yard h.run h.task h.try_).seq, v88_0, v88_1, v58_2, I (x.turns + 1), I (x.did + 1)]) bR rfl (h127_.at 5) (st129.get 0 rfl) rfl rfl (sg (aK (cs := [I (bI x.yard h.run h.task h.try_).now, I (bI x.yard h.run h.task h.try_).seq, v88_0, v88_1, v58_2, I (x.turns + 1), I (x.did + 1)]) (C' := [I (bI x.yard h.run h.task h.try_).now, I (bI x.yard h.run h.task h.try_).seq, v88_0, v88_1, v58_2, I (x.turns + 1), I (x.did + 1)]) aE (h127_.at 4) rfl (aF rfl (aF rfl (aF (Sl.one (aI (st129.f7.get 3 rfl))) (aF (Sl.one (aI (st129.f7.get 4 rfl))) (aF (Sl.one (aI (st129.f7.get 2 rfl))) (aF rfl (aF rfl bG))))))) st129.f7 bM rfl ?_)))))); intro W133 st134
      refine aB (wr (dR bR rfl Tryz.results27 (h127_.at 4) (st134.get 0 rfl) rfl ?_))
      have st138 := eS (x := (⟨bI x.yard h.run h.task h.try_, x.holds.set (bL x pick).toNat zR, x.turns + 1, x.did + 1⟩ : Crew)) st134.f2.f4.f4 (show Crew.ok _ from ⟨(by assumption), by unfold I64; simp only; omega, by unfold I64; simp only; omega⟩)
      try dsimp only at st138
      have st140 := st138.d1
      have hfe : gM x pick = (⟨bI x.yard h.run h.task h.try_, x.holds.set (bL x pick).toNat zR, x.turns + 1, x.did + 1⟩ : Crew) := by rw [iX hnb hh]; unfold lR; rw [if_pos h77p, if_pos h125p]
      rw [hfe]
      exact ⟨_, _, rfl, st140.d1.d1.d1.d1.d1⟩
     ·refine wp_skip (wp_seq (aA (sg (aT (cs := [I (bI x.yard h.run h.task h.try_).now, I (bI x.yard h.run h.task h.try_).seq, v88_0, v88_1, v58_2, I (x.turns + 1), I x.did]) bR rfl (h118_.at 5) (st122.get 0 rfl) rfl rfl (sg (aK (cs := [I (bI x.yard h.run h.task h.try_).now, I (bI x.yard h.run h.task h.try_).seq, v88_0, v88_1, v58_2, I (x.turns + 1), I x.did]) (C' := [I (bI x.yard h.run h.task h.try_).now, I (bI x.yard h.run h.task h.try_).seq, v88_0, v88_1, v58_2, I (x.turns + 1), I x.did]) aE (h118_.at 4) rfl (aF rfl (aF rfl (aF (Sl.one (aI (st122.f7.get 3 rfl))) (aF (Sl.one (aI (st122.f7.get 4 rfl))) (aF (Sl.one (aI (st122.f7.get 2 rfl))) (aF rfl (aF rfl bG))))))) st122.f7 bM rfl ?_)))))); intro W149 st150
      refine aB (wr (dR bR rfl Tryz.results27 (h118_.at 4) (st150.get 0 rfl) rfl ?_))
      have st154 := eS (x := (⟨bI x.yard h.run h.task h.try_, x.holds.set (bL x pick).toNat zR, x.turns + 1, x.did⟩ : Crew)) st150.f2.f4.f4 (show Crew.ok _ from ⟨(by assumption), by unfold I64; simp only; omega, by unfold I64; simp only; omega⟩)
      try dsimp only at st154
      have st156 := st154.d1
      have hfe : gM x pick = (⟨bI x.yard h.run h.task h.try_, x.holds.set (bL x pick).toNat zR, x.turns + 1, x.did⟩ : Crew) := by rw [iX hnb hh]; unfold lR; rw [if_pos h77p, if_neg h125p]
      rw [hfe]
      exact ⟨_, _, rfl, st156.d1.d1.d1.d1.d1⟩
    ·refine wp_seq (aA (sg (dC (vs := []) (cs := [I 0, I 0, I 0, I 0]) dM aE (sg (aP kO st71 ?_))))); intro b162 W163 hb164 st165
     refine sg (aK (cs := [I 0, I 0, I 0, I 0]) (C' := [I 0, I 0, I 0, I 0]) aE rfl rfl (aF rfl (aF rfl (aF rfl (aF rfl bG)))) st165 bM rfl ?_); intro W167 st168
     refine aB (wp_seq (aA (rn st168 6 h76_.put.put [] [(62, .agg #[I x.yard.now, I x.yard.seq, v58_0, v58_1]), (63, I (bL x pick)), (66, I (x.turns % 1000))] [qb 5 rfl 0, qb 7 rfl 5, qq x.turns 1000] aE fun f170 h170_ => (sg (gH Tryz.func66 rfl (h170_.at 62) (h170_.at 63) (h170_.at 66) ((PollS W167 (show Shape.C _ [I x.yard.now, I x.yard.seq, v58_0, v58_1] x.yard _ from ⟨_, _, _, _, rfl, eT, (aI (st168.get 2 rfl)), (aI (st168.get 3 rfl)), rfl⟩) (bL x pick) (x.turns % 1000) aD dJ).mono ?_)))))); rintro _ W173 ⟨cs171, fp171, rfl, hokf176, hk174⟩; refine ⟨_, rfl, ?_⟩
     have st175 := St.call st168 hk174
     refine rn st175 4 h170_.put [] [(68, .agg cs171.toArray), (69, .agg #[I (aQ x.yard (bL x pick) (x.turns % 1000)).2.code, I (aQ x.yard (bL x pick) (x.turns % 1000)).2.run, I (aQ x.yard (bL x pick) (x.turns % 1000)).2.task, I (aQ x.yard (bL x pick) (x.turns % 1000)).2.try_]), (70, .pointer (some ⟨b19, 0, none⟩))] [] aE fun f178 h178_ => ?_
     have hq_ := dQ st175
     obtain ⟨v179_0, v179_1, g179_0, g179_1, he179, hok179, st180⟩ := hq_
     subst he179
     refine sg (aK (cs := [I (aQ x.yard (bL x pick) (x.turns % 1000)).1.now, I (aQ x.yard (bL x pick) (x.turns % 1000)).1.seq, v179_0, v179_1]) (C' := [I (aQ x.yard (bL x pick) (x.turns % 1000)).1.now, I (aQ x.yard (bL x pick) (x.turns % 1000)).1.seq, v179_0, v179_1, v58_2, I x.turns, I x.did]) aE (h178_.at 70) (h178_.at 68) (aF rfl (aF rfl (aF (Sl.one (aI (st180.f7.get 1 rfl))) (aF (Sl.one (aI (st180.f7.get 2 rfl))) bG)))) st180.f7 bM rfl ?_); intro W184 st185
     refine sg (aK (cs := [I (aQ x.yard (bL x pick) (x.turns % 1000)).2.code, I (aQ x.yard (bL x pick) (x.turns % 1000)).2.run, I (aQ x.yard (bL x pick) (x.turns % 1000)).2.task, I (aQ x.yard (bL x pick) (x.turns % 1000)).2.try_]) (C' := [I (aQ x.yard (bL x pick) (x.turns % 1000)).2.code, I (aQ x.yard (bL x pick) (x.turns % 1000)).2.run, I (aQ x.yard (bL x pick) (x.turns % 1000)).2.task, I (aQ x.yard (bL x pick) (x.turns % 1000)).2.try_]) aE (h178_.at 9) (h178_.at 69) (aF rfl (aF rfl (aF rfl (aF rfl bG)))) st185.f3 bM rfl ?_); intro W187 st188
     refine aB (wp_seq (aA (rn st188 3 h178_ [8] [(8, I (aQ x.yard (bL x pick) (x.turns % 1000)).2.code)] [qb 0 rfl 0] aE fun f190 h190_ => (aB (wp_seq (aA (sg (aG (v := I (aQ x.yard (bL x pick) (x.turns % 1000)).2.code) (h190_.at 8) (sg (dI rfl rfl (aB (aM rfl (fun h193p => ?_) (fun h193p => ?_)))))))))))))
     ·have h193 := decide_eq_true h193p
      have hq_ := St.lendx (α := Reply) aW st188.f7 (x := h) hh
      obtain ⟨b195, e195, pre195, cs195, post195, fi195, fr195, hPA195, hC195, st196⟩ := hq_
      obtain ⟨he195, hf195, hok195⟩ := hC195; have he195 : _ = [I h.code, I h.run, I h.task, I h.try_] := he195; subst he195
      refine aA (lw h190_.put.put [(4, .pointer (some ⟨b6, 0, none⟩)), (5, .pointer (some ⟨b19, 0, none⟩)), (6, I (bL x pick)), (8, I (aQ x.yard (bL x pick) (x.turns % 1000)).2.code), (9, .pointer (some ⟨b162, 0, none⟩))] aE fun h203_ => (rn st196.d1 5 h203_ [] [(78, .agg #[I (aQ x.yard (bL x pick) (x.turns % 1000)).2.code, I (aQ x.yard (bL x pick) (x.turns % 1000)).2.run, I (aQ x.yard (bL x pick) (x.turns % 1000)).2.task, I (aQ x.yard (bL x pick) (x.turns % 1000)).2.try_]), (79, .pointer (some ⟨b195, pre195.length, none⟩))] [qb 3 rfl 4, qb 2 rfl 0, qxe hPA195 (e := bL x pick) aD] aE fun f202 h202_ => (sg (dY (i := 0) (cs := [I (aQ x.yard (bL x pick) (x.turns % 1000)).2.code, I (aQ x.yard (bL x pick) (x.turns % 1000)).2.run, I (aQ x.yard (bL x pick) (x.turns % 1000)).2.task, I (aQ x.yard (bL x pick) (x.turns % 1000)).2.try_]) (C' := [I (aQ x.yard (bL x pick) (x.turns % 1000)).2.code, I (aQ x.yard (bL x pick) (x.turns % 1000)).2.run, I (aQ x.yard (bL x pick) (x.turns % 1000)).2.task, I (aQ x.yard (bL x pick) (x.turns % 1000)).2.try_]) aE (h202_.at 79) (h202_.at 78) (aF rfl (aF rfl (aF rfl (aF rfl bG)))) st196.d1 rfl bM rfl ?_)))); intro W204 st205
      refine aB (wp_seq ?_)
      have st206 := st205.cs0 (cs := [I (aQ x.yard (bL x pick) (x.turns % 1000)).2.code, I (aQ x.yard (bL x pick) (x.turns % 1000)).2.run, I (aQ x.yard (bL x pick) (x.turns % 1000)).2.task, I (aQ x.yard (bL x pick) (x.turns % 1000)).2.try_]) (x := (aQ x.yard (bL x pick) (x.turns % 1000)).2) ⟨rfl, rfl, (by first | assumption | simp [zR, Reply.ok, I64])⟩
      have hq_ := St.give (α := Reply) st206.f2.f1.f2
      obtain ⟨fp211, st212⟩ := hq_
      refine aA (rn st212 4 h202_ [] [(82, I (x.turns + 1)), (83, .pointer (some ⟨b19, 5, none⟩))] [qb 2 rfl 5, qad x.turns 1] aE fun f214 h214_ => (sg (aR (v := I (x.turns + 1)) (C' := [I (aQ x.yard (bL x pick) (x.turns % 1000)).1.now, I (aQ x.yard (bL x pick) (x.turns % 1000)).1.seq, v179_0, v179_1, v58_2, I (x.turns + 1), I x.did]) aE (h214_.at 83) (h214_.at 82) rfl rfl st212.f2 bM rfl ?_))); intro W216 st217
      refine aB (wp_seq (wp_seq (aA (sg (aG (v := I (aQ x.yard (bL x pick) (x.turns % 1000)).2.code) (h214_.at 8) (sg (dI rfl rfl (aB (fA rfl h193 (aA (rn st217 4 h214_.put.put [] [(88, I (x.did + 1)), (89, .pointer (some ⟨b19, 6, none⟩))] [qb 0 rfl 6, qad x.did 1] aE fun f221 h221_ => (sg (aR (v := I (x.did + 1)) (C' := [I (aQ x.yard (bL x pick) (x.turns % 1000)).1.now, I (aQ x.yard (bL x pick) (x.turns % 1000)).1.seq, v179_0, v179_1, v58_2, I (x.turns + 1), I (x.did + 1)]) aE (h221_.at 89) (h221_.at 88) rfl rfl st217 bM rfl ?_))))))))))))); intro W222 st223
      refine aB (wp_seq (aA (sg (aT (cs := [I (aQ x.yard (bL x pick) (x.turns % 1000)).1.now, I (aQ x.yard (bL x pick) (x.turns % 1000)).1.seq, v179_0, v179_1, v58_2, I (x.turns + 1), I (x.did + 1)]) bR rfl (h221_.at 5) (st223.get 0 rfl) rfl rfl (sg (aK (cs := [I (aQ x.yard (bL x pick) (x.turns % 1000)).1.now, I (aQ x.yard (bL x pick) (x.turns % 1000)).1.seq, v179_0, v179_1, v58_2, I (x.turns + 1), I (x.did + 1)]) (C' := [I (aQ x.yard (bL x pick) (x.turns % 1000)).1.now, I (aQ x.yard (bL x pick) (x.turns % 1000)).1.seq, v179_0, v179_1, v58_2, I (x.turns + 1), I (x.did + 1)]) aE (h221_.at 4) rfl (aF rfl (aF rfl (aF (Sl.one (aI (st223.f8.get 4 rfl))) (aF (Sl.one (aI (st223.f8.get 5 rfl))) (aF (Sl.one (aI (st223.f8.get 2 rfl))) (aF rfl (aF rfl bG))))))) st223.f8 bM rfl ?_)))))); intro W227 st228
      refine aB (wr (dR bR rfl Tryz.results27 (h221_.at 4) (st228.get 0 rfl) rfl ?_))
      have st232 := eS (x := (⟨(aQ x.yard (bL x pick) (x.turns % 1000)).1, x.holds.set (bL x pick).toNat (aQ x.yard (bL x pick) (x.turns % 1000)).2, x.turns + 1, x.did + 1⟩ : Crew)) st228.f2.f5.f5 (show Crew.ok _ from ⟨(by assumption), by unfold I64; simp only; omega, by unfold I64; simp only; omega⟩)
      try dsimp only at st232
      have st234 := st232.d1
      have hfe : gM x pick = (⟨(aQ x.yard (bL x pick) (x.turns % 1000)).1, x.holds.set (bL x pick).toNat (aQ x.yard (bL x pick) (x.turns % 1000)).2, x.turns + 1, x.did + 1⟩ : Crew) := by rw [iX hnb hh]; unfold lR; rw [if_neg h77p, if_pos h193p, if_pos h193p]
      rw [hfe]
      exact ⟨_, _, rfl, st234.d1.d1.d1.d1.d1.d1⟩
     ·have h193 := decide_eq_false h193p
      refine wp_skip (wp_seq (aA (lw h190_.put.put [(4, .pointer (some ⟨b6, 0, none⟩)), (5, .pointer (some ⟨b19, 0, none⟩)), (8, I (aQ x.yard (bL x pick) (x.turns % 1000)).2.code)] aE fun h243_ => (rn st188 4 h243_ [] [(82, I (x.turns + 1)), (83, .pointer (some ⟨b19, 5, none⟩))] [qb 1 rfl 5, qad x.turns 1] aE fun f242 h242_ => (sg (aR (v := I (x.turns + 1)) (C' := [I (aQ x.yard (bL x pick) (x.turns % 1000)).1.now, I (aQ x.yard (bL x pick) (x.turns % 1000)).1.seq, v179_0, v179_1, v58_2, I (x.turns + 1), I x.did]) aE (h242_.at 83) (h242_.at 82) rfl rfl st188.f1 bM rfl ?_)))))); intro W245 st246
      refine aB (wp_seq (wp_seq (aA (sg (aG (v := I (aQ x.yard (bL x pick) (x.turns % 1000)).2.code) (h242_.at 8) (sg (dI rfl rfl (aB (gQ rfl h193 (wp_skip (wp_seq (aA (sg (aT (cs := [I (aQ x.yard (bL x pick) (x.turns % 1000)).1.now, I (aQ x.yard (bL x pick) (x.turns % 1000)).1.seq, v179_0, v179_1, v58_2, I (x.turns + 1), I x.did]) bR rfl (h242_.at 5) (st246.get 0 rfl) rfl rfl ?_))))))))))))))
      refine sg (aK (cs := [I (aQ x.yard (bL x pick) (x.turns % 1000)).1.now, I (aQ x.yard (bL x pick) (x.turns % 1000)).1.seq, v179_0, v179_1, v58_2, I (x.turns + 1), I x.did]) (C' := [I (aQ x.yard (bL x pick) (x.turns % 1000)).1.now, I (aQ x.yard (bL x pick) (x.turns % 1000)).1.seq, v179_0, v179_1, v58_2, I (x.turns + 1), I x.did]) aE (h242_.at 4) rfl (aF rfl (aF rfl (aF (Sl.one (aI (st246.f8.get 3 rfl))) (aF (Sl.one (aI (st246.f8.get 4 rfl))) (aF (Sl.one (aI (st246.f8.get 8 rfl))) (aF rfl (aF rfl bG))))))) st246.f8 bM rfl ?_); intro W252 st253
      refine aB (wr (dR bR rfl Tryz.results27 (h242_.at 4) (st253.get 0 rfl) rfl ?_))
      have st257 := eS (x := (⟨(aQ x.yard (bL x pick) (x.turns % 1000)).1, x.holds, x.turns + 1, x.did⟩ : Crew)) st253.f8.f5.f5 (show Crew.ok _ from ⟨(by assumption), by unfold I64; simp only; omega, by unfold I64; simp only; omega⟩)
      try dsimp only at st257
      have st259 := st257.d1
      have hfe : gM x pick = (⟨(aQ x.yard (bL x pick) (x.turns % 1000)).1, x.holds, x.turns + 1, x.did⟩ : Crew) := by rw [iX hnb hh]; unfold lR; rw [if_neg h77p, if_neg h193p, if_neg h193p]
      rw [hfe]
      exact ⟨_, _, rfl, st259.d1.d1.d1.d1.d1.d1⟩
  ·have h29 := decide_eq_true h29p
   refine rc st25 13 Ag.nil.put.put.put.put.put.put.put [] [(24, .bool true)] [qb 3 rfl 0, qc Tryz.func11 rfl (fun W s b => xD W (aV hc s.below) aD), qk h27, qb 3 rfl 5, qk h29] aE fun f266 W267 h266_ st268 hb269 => (aB (fA (h266_.at 24) rfl (wp_seq (aA (sg (bA bR rfl (h266_.at 5) (st268.get 0 rfl) (Shape.len (bK (st268.get 1 rfl) rfl)) (sg (aL (cs := cs13) bR (bK (st268.f2.get 2 rfl) rfl) (h266_.at 4) rfl st268.f2 rfl ?_)))))))); intro W273 st274
   refine aB (wr (dR bR rfl Tryz.results27 (h266_.at 4) (st274.get 0 rfl) (Shape.len (bK (st274.get 2 rfl) rfl)) ?_))
   have hfe : gM x pick = x := jF (.inr (.inl h29p)) pick
   rw [hfe]
   exact ⟨_, _, rfl, st274.f2.d1.d1.d1⟩
 ·refine rc st25 13 Ag.nil.put.put.put.put.put.put.put [] [(24, .bool true)] [qw 3 rfl (Shape.len hc), qc Tryz.func11 rfl (fun W s b => xD W (aV hc s.below) aD), qk h27] aE fun f279 W280 h279_ st281 hb282 => (aB (fA (h279_.at 24) rfl (wp_seq (aA (sg (bA bR rfl (h279_.at 5) (st281.get 0 rfl) (Shape.len (bK (st281.get 1 rfl) rfl)) (sg (aL (cs := cs13) bR (bK (st281.f2.get 2 rfl) rfl) (h279_.at 4) rfl st281.f2 rfl ?_)))))))); intro W286 st287
  refine aB (wr (dR bR rfl Tryz.results27 (h279_.at 4) (st287.get 0 rfl) (Shape.len (bK (st287.get 2 rfl) rfl)) ?_))
  have hfe : gM x pick = x := jF (.inl (aX h27)) pick
  rw [hfe]
  exact ⟨_, _, rfl, st287.f2.d1.d1.d1⟩
theorem take_600 (xs : List Int) : xs.take (min (xs.length : Int) 600).toNat = xs.take 600 := by
 apply List.ext_getElem?
 intro i
 simp only [List.getElem?_take]
 by_cases h : i < xs.length
 ·by_cases h2 : i < 600
  ·rw [if_pos h2, if_pos aD]
  ·rw [if_neg h2, if_neg aD]
 ·rw [List.getElem?_eq_none aD]; simp
theorem xH {xs : List Int} {k : Nat} (h : k ≤ 600) (h2 : ¬ (k : Int) < (xs.length : Int) ∨ ¬ (k : Int) < 600) : xs.take k = xs.take 600 := by
 rcases h2 with h2 | h2
 ·rw [List.take_of_length_le aD, List.take_of_length_le aD]
 ·rw [show k = 600 by omega]

theorem WorkOffI (w : World) {x : Crew} {cs : List Value} {fp : List Nat} (hc : Shape.C w cs x fp) {v : Value} {xs : List Int} {gp : List Nat} (hs : Sl w v xs gp) (hw : x.yard.wt + x.holds.length ≤ 1048576) :
  Calls Tryz.prog 30 #[.agg cs.toArray, v] w fun e w' => ∃ (cs' : List Value) (fp' : List Nat), e = .returned (.agg cs'.toArray) ∧ St w w' [Res.own (.agg cs'.toArray) (eZ x (xs.take 600)) fp'] := by
 refine bX Tryz.func30 rfl Tryz.ntmps30 aW (wp_seq (aA (sg (aJ (cs := cs) rfl (St.start w) ?_)))); intro b1 W2 hb3 st4
 refine sg (aP gU st4 ?_); intro b6 W7 hb8 st9
 refine aB (wp_seq (aA (sg (bA bR rfl rfl (st9.get 1 rfl) (Shape.len hc) (sg (bE Tryz.func67 rfl rfl ((wO W7 (aV hc st9.below) aD).mono ?_))))))); rintro _ W15 ⟨cs13, fp13, rfl, hk16⟩; refine ⟨_, rfl, ?_⟩
 have st17 := St.call st9 hk16
 refine sg (aP gU st17 ?_); intro b19 W20 hb21 st22
 refine sg (aL (cs := cs13) bR (bK (st22.get 1 rfl) rfl) rfl rfl st22 rfl ?_); intro W24 st25
 refine aB (wp_seq (wp_seq (aA (rn st25 4 Ag.nil.put.put.put.put.put.put.put [] [(10, v), (13, I (min (xs.length : Int) 600))] [ql hs] aE fun f27 h27_ => (sg (lE (h := (min (xs.length : Int) 600).toNat) eQ (h27_.at 10) hs (h27_.at 13) aD aD ?_)))))); intro v28 g29 h30 hm31
 refine sg (fR eQ rfl h30 (sg (aG (v := I 0) rfl (aB (wp_block (aZ (fun (m : Nat) (f : Nat → Value) (W : World) => ∃ (k : Nat) (cs34 : List Value) (fo35 : List Nat), k ≤ (xs.take (min (xs.length : Int) 600).toNat).length ∧ m = (xs.take (min (xs.length : Int) 600).toNat).length - k ∧ Ag [(4, .pointer (some ⟨b6, 0, none⟩)), (5, .pointer (some ⟨b19, 0, none⟩)), (14, v28), (15, I ((xs.take (min (xs.length : Int) 600).toNat).length : Int)), (16, I (k : Int))] f ∧ St w W ([Res.bx b19 cs34 37, Res.own (α := Crew) (.agg cs34.toArray) (eZ x ((xs.take (min (xs.length : Int) 600).toNat).take k)) fo35, Res.bx b6 [I 0, I 0, .slice none 0 0, .slice none 0 0, .slice none 0 0, I 0, I 0] 37, Res.bx b1 cs 37])) ((xs.take (min (xs.length : Int) 600).toNat).length - 0) ?_ ?_))))))
 ·exact ⟨0, cs13, fp13, Nat.zero_le _, rfl, (h27_.put.put.put.to aE), st25⟩
 intro m36 f37 W38 hJ39
 obtain ⟨k, cs34, fo35, hcd41_0, rfl, hA41, st40⟩ := hJ39
 have hmx : (xs.take (min (xs.length : Int) 600).toNat).length ≤ 600 := by rw [List.length_take]; omega
 refine wp_seq (aA (sg (bV (hA41.at 16) (hA41.at 15) (aB (wp_seq (aM rfl (fun h44p => ?_) (fun h44p => ?_)))))))
 ·refine wp_skip (wp_seq (wp_block (wp_seq ?_)))
  have hq_ := fJ (xs := (xs.take (min (xs.length : Int) 600).toNat)) (i := k) aD
  obtain ⟨p, hp⟩ := hq_
  have hwk := nA ((xs.take (min (xs.length : Int) 600).toNat).take k) hw
  refine aA ?_
  have hi52698 : k < (xs.take (min (xs.length : Int) 600).toNat).length := (List.getElem?_eq_some_iff.1 hp).1
  have hq_ := gC h30 (i := k) hp
  obtain ⟨b45, o45, cs45, f45, hp45, hr45, hc45, hm45⟩ := hq_
  have hk45 := hc45
  obtain ⟨rfl, rfl, hok45⟩ := hk45
  refine rn st40 3 hA41.put [] [(7, I p)] [qx hp45, qr hr45 0] aE fun f47 h47_ => (aB ?_)
  have hpk := hok45
  refine aA (sg (bA bR rfl (h47_.at 5) (st40.get 0 rfl) (Shape.len (bK (st40.get 1 rfl) rfl)) (sg (aG (v := I p) (h47_.at 7) (sg (bU Tryz.func28 rfl rfl rfl ((TurnI_ W38 (bK (st40.get 1 rfl) rfl) p hpk aD).mono ?_))))))); rintro _ W52 ⟨cs50, fp50, rfl, hk53⟩; refine ⟨_, rfl, ?_⟩
  have st54 := St.call st40 hk53
  refine sg (aL (cs := cs50) bR (bK (st54.f1.get 1 rfl) rfl) (h47_.at 5) rfl st54.f1 (Shape.len (bK (st54.f1.get 2 rfl) rfl)) ?_); intro W57 st58
  refine aB (aA (sg (bQ (h47_.at 16) rfl dJ (sg (aG (v := I ((k : Int) + 1)) rfl (aB ?_))))))
  exact ⟨_, (xs.take (min (xs.length : Int) 600).toNat).length - (k + 1), aD, rfl, k + 1, cs50, fp50, aD, rfl, (h47_.put.put.put.put.put.to aE), (by rw [xF hp]; exact st58.f4.f4.f3.f3.d4)⟩
 ·refine wp_exit (wp_seq (aA (sg (bA bR rfl (hA41.at 5) (st40.get 0 rfl) (Shape.len (bK (st40.get 1 rfl) rfl)) (sg (aL (cs := cs34) bR (bK (st40.f2.get 2 rfl) rfl) (hA41.at 4) rfl st40.f2 rfl ?_)))))); intro W70 st71
  refine aB (wr (dR bR rfl Tryz.results30 (hA41.at 4) (st71.get 0 rfl) (Shape.len (bK (st71.get 2 rfl) rfl)) ?_))
  have st75 := st71.f2.d1.d1.d1
  have hke : k = (xs.take (min (xs.length : Int) 600).toNat).length := by omega
  rw [hke, List.take_length, take_600] at st75
  exact ⟨_, _, rfl, st75⟩
theorem WorkOffS (w : World) {x : Crew} {cs : List Value} {fp : List Nat} (hc : Shape.C w cs x fp) {v : Value} {xs : List Int} {gp : List Nat} (hs : Sl w v xs gp) (hw : x.yard.wt + x.holds.length ≤ 1048576) :
  Calls Tryz.prog 29 #[.agg cs.toArray, v] w fun e w' => ∃ (cs' : List Value) (fp' : List Nat), e = .returned (.agg cs'.toArray) ∧ St w w' [Res.own (.agg cs'.toArray) (eZ x (xs.take 600)) fp'] := by
 refine bX Tryz.func29 rfl Tryz.ntmps29 aW (wp_seq (aA (sg (aJ (cs := cs) rfl (St.start w) ?_)))); intro b1 W2 hb3 st4
 refine sg (aP gU st4 ?_); intro b6 W7 hb8 st9
 refine aB (wp_seq (aA (sg (bA bR rfl rfl (st9.get 1 rfl) (Shape.len hc) (sg (bE Tryz.func64 rfl rfl ((wN W7 (aV hc st9.below) aD).mono ?_))))))); rintro _ W15 ⟨cs13, fp13, rfl, hk16⟩; refine ⟨_, rfl, ?_⟩
 have st17 := St.call st9 hk16
 refine sg (aP gU st17 ?_); intro b19 W20 hb21 st22
 refine sg (aL (cs := cs13) bR (bK (st22.get 1 rfl) rfl) rfl rfl st22 rfl ?_); intro W24 st25
 refine aB (wp_seq (wp_seq (aA (sg (aC (v := I 0) rfl (aB (wS (fun (f : Nat → Value) (W : World) => ∃ (cs28 : List Value) (fo29 : List Nat), Ag [(4, .pointer (some ⟨b6, 0, none⟩)), (5, .pointer (some ⟨b19, 0, none⟩))] f ∧ St w W ([Res.bx b19 cs28 37, Res.own (α := Crew) (.agg cs28.toArray) (eZ x (xs.take 600)) fo29, Res.bx b6 [I 0, I 0, .slice none 0 0, .slice none 0 0, .slice none 0 0, I 0, I 0] 37, Res.bx b1 cs 37])) ?_ (fun f30 W31 hJ32 => ?_))))))))
 ·refine wp_block (aZ (fun (m : Nat) (f : Nat → Value) (W : World) => ∃ (k : Nat) (cs35 : List Value) (fo36 : List Nat), k ≤ xs.length ∧ k ≤ 600 ∧ m = xs.length - k ∧ Ag [(1, v), (4, .pointer (some ⟨b6, 0, none⟩)), (5, .pointer (some ⟨b19, 0, none⟩)), (6, I (k : Int))] f ∧ St w W ([Res.bx b19 cs35 37, Res.own (α := Crew) (.agg cs35.toArray) (eZ x (xs.take k)) fo36, Res.bx b6 [I 0, I 0, .slice none 0 0, .slice none 0 0, .slice none 0 0, I 0, I 0] 37, Res.bx b1 cs 37])) (xs.length - 0) ?_ ?_)
  ·exact ⟨0, cs13, fp13, Nat.zero_le _, Nat.zero_le _, rfl, (Ag.nil.put.put.put.put.put.put.put.put.to aE), st25⟩
  intro m37 f38 W39 hJ40
  obtain ⟨k, cs35, fo36, hcd42_0, hcd42_1, rfl, hA42, st41⟩ := hJ40
  refine wp_seq (wp_seq (aA ?_))
  rcases nem ((k : Int) < (xs.length : Int)) with h44p | h44p
  ·have h44 := decide_eq_false h44p
   refine rn st41 8 hA42 [] [(16, .bool false)] [ql hs, qk h44] aE fun f45 h45_ => (aB (gQ (h45_.at 16) rfl (wp_exit ?_)))
   have hfin : xs.take k = xs.take 600 := xH aD (.inl h44p)
   exact ⟨_, rfl, cs35, fo36, (h45_.to aE), (by rw [← hfin]; exact st41)⟩
  ·have h44 := decide_eq_true h44p
   refine rn st41 8 hA42 [] [(16, .bool (decide ((k : Int) < 600)))] [ql hs, qk h44, .o] aE fun f46 h46_ => (aB (aM (h46_.at 16) (fun h47p => ?_) (fun h47p => ?_)))
   ·refine wp_skip (wp_seq (wp_block ?_))
    have hq_ := fJ (xs := xs) (i := k) aD
    obtain ⟨p, hp⟩ := hq_
    have hwk := nA (xs.take k) hw
    have hpk : I64 p := by obtain ⟨_, _, _, _, _, _, h_, _⟩ := gC hs hp; exact h_.2.2
    have hi51fab : k < xs.length := (List.getElem?_eq_some_iff.1 hp).1
    have hq_ := gC hs (i := k) hp
    obtain ⟨b49, o49, cs49, f49, hp49, hr49, hc49, hm49⟩ := hq_
    have hk49 := hc49
    obtain ⟨rfl, rfl, hok49⟩ := hk49
    refine rk 5 st41 h46_ [] [(19, .agg cs35.toArray), (23, I p)] [qw 0 rfl (Shape.len (bK (st41.get 1 rfl) rfl)), qx hp49, qr hr49 0] aE aE fun f50 W51 h50_ st52 hb53 => (sg (bU Tryz.func27 rfl (h50_.at 19) (h50_.at 23) ((TurnS_ W51 (bK (st52.get 1 rfl) rfl) p hpk aD).mono ?_))); rintro _ W56 ⟨cs54, fp54, rfl, hk57⟩; refine ⟨_, rfl, ?_⟩
    have st58 := St.call st52 hk57
    refine sg (aL (cs := cs54) bR (bK (st58.f1.get 1 rfl) rfl) (h50_.at 5) rfl st58.f1 (Shape.len (bK (st58.f1.get 2 rfl) rfl)) ?_); intro W61 st62
    refine aB (aA (rn st62 3 h50_.put [6] [(6, I ((k : Int) + 1))] [qad (k : Int) 1] aE fun f64 h64_ => (aB ?_)))
    exact ⟨_, xs.length - (k + 1), aD, rfl, k + 1, cs54, fp54, aD, aD, rfl, (h64_.to aE), (by rw [xF hp]; exact st62.f4.f4.f3.f3.d4)⟩
   ·refine wp_exit ?_
    have hfin : xs.take k = xs.take 600 := xH aD (.inr h47p)
    exact ⟨_, rfl, cs35, fo36, (h46_.to aE), (by rw [← hfin]; exact st41)⟩
 obtain ⟨cs28, fo29, hA34, st33⟩ := hJ32
 refine wp_seq (aA (sg (bA bR rfl (hA34.at 5) (st33.get 0 rfl) (Shape.len (bK (st33.get 1 rfl) rfl)) (sg (aL (cs := cs28) bR (bK (st33.f2.get 2 rfl) rfl) (hA34.at 4) rfl st33.f2 rfl ?_))))); intro W74 st75
 refine aB (wr (dR bR rfl Tryz.results29 (hA34.at 4) (st75.get 0 rfl) (Shape.len (bK (st75.get 2 rfl) rfl)) ?_))
 exact ⟨_, _, rfl, st75.f2.d1.d1.d1⟩
section
variable {P : Program} {n : Nat} {f : Nat → Value} {W : World} {Q : Exit → Act → World → Prop} {K : Value → World → Prop}
 {d : Option Tmp} {ty : TypeId} {pos : String} {af : Array Go.Edge} {g : Option (Nat × Bool)}
theorem vE {x : Operand} {t i : Nat} {C cs : List Value} (hx : ev n f x = .agg C.toArray) (hb : (Instr.field t (.agg C.toArray) i).run P W = .ok (.agg cs.toArray) W) (k : K (.agg cs.toArray) W) : Stp P n ⟨d, .field t x i, ty, pos, af, g⟩ f W Q K :=
 Stp.run (v := .agg cs.toArray) (by simp [execOp, hx, Sem.run_bind, hb]) k
end
noncomputable def gT (y : Yard) (many : Int) (l : List Int) : Bool := dV y many && kJ (eZ (cA y many) (l.take 600)).yard

theorem FinishesI (w : World) {y : Yard} {cs : List Value} {fp : List Nat} (hc : Shape.C w cs y fp) (many : Int) {v : Value} {xs : List Int} {gp : List Nat} (hs : Sl w v xs gp) (hw : y.wt ≤ 1048576) :
  Calls Tryz.prog 25 #[.agg cs.toArray, I many, v] w fun e w' => e = .returned (.bool (gT y many xs)) ∧ St w w' [] := by
 refine iN Tryz.func25 rfl Tryz.ntmps25 aW (wp_seq (aA (sg (aJ (cs := cs) rfl (St.start w) ?_)))); intro b1 W2 hb3 st4
 refine sg (aC (v := .bool false) rfl (aB (wp_seq (aA (sg (bA bC rfl rfl (st4.get 0 rfl) (Shape.len hc) (sg (aG (v := I many) rfl (sg (bU Tryz.func18 rfl rfl rfl ((CrewNewI W2 (aV hc st4.below) many aD).mono ?_))))))))))); rintro _ W12 ⟨cs10, fp10, rfl, hk13⟩; refine ⟨_, rfl, ?_⟩
 have st14 := St.call st4 hk13
 refine rn st14 3 Ag.nil.put.put.put.put.put.put.put.put [] [(13, .agg cs10.toArray), (14, .bool (dV y many))] [] aE fun f17 h17_ => (sg (aP gU st14 ?_)); intro b18 W19 hb20 st21
 refine sg (aL (cs := cs10) bR (bK (st21.get 1 rfl) rfl) rfl (h17_.at 13) st21 rfl ?_); intro W23 st24
 refine sg (aC (v := .bool (dV y many)) (h17_.at 14) (aB (wp_seq ?_)))
 have hcw := sK y many
 have hww := nA (xs.take 600) (c := cA y many) aD
 refine aA ?_
 rcases bd (dV y many) with h28 | h28
 ·refine rn st24 9 (h17_.put.put.kn 8 h28) [6] [(6, .bool false)] [] aE fun f29 h29_ => (aB (wr (aO Tryz.results25 (h29_.at 6) ?_)))
  exact ⟨(fB (by unfold gT; rw [h28]; rfl)), st24.bare⟩
 ·refine rn st24 4 (h17_.put.put.kn 8 h28) [] [(16, .bool true), (17, .agg cs10.toArray), (18, v)] [qw 0 rfl (Shape.len (bK (st24.get 1 rfl) rfl))] aE fun f30 h30_ => (sgo 16 rfl aW (zE (h30_.at 16) rfl) (bU Tryz.func30 rfl (h30_.at 17) (h30_.at 18) ((WorkOffI W23 (bK (st24.get 1 rfl) rfl) (hs.below st24.below) aD).mono ?_))); rintro _ W33 ⟨cs31, fp31, rfl, hk34⟩; refine ⟨_, rfl, ?_⟩
  have st35 := St.call st24 hk34
  have hq_ := lV st35
  obtain ⟨v37_0, v37_1, v37_2, g37_0, g37_1, g37_2, he37, hok37, st38⟩ := hq_
  subst he37
  refine sgo 16 rfl aW (zE (h30_.at 16) rfl) (vE (C := [I (eZ (cA y many) (xs.take 600)).yard.now, I (eZ (cA y many) (xs.take 600)).yard.seq, v37_0, v37_1, v37_2, I (eZ (cA y many) (xs.take 600)).turns, I (eZ (cA y many) (xs.take 600)).did]) (cs := [I (eZ (cA y many) (xs.take 600)).yard.now, I (eZ (cA y many) (xs.take 600)).yard.seq, v37_0, v37_1]) rfl aE (lw h30_.put.put [(16, .bool true), (20, .agg #[I (eZ (cA y many) (xs.take 600)).yard.now, I (eZ (cA y many) (xs.take 600)).yard.seq, v37_0, v37_1])] aE fun h44_ => (rc st38 3 h44_ [] [(6, .bool (kJ (eZ (cA y many) (xs.take 600)).yard))] [qc Tryz.func63 rfl (fun W s b => AllOverI W (show Shape.C _ [I (eZ (cA y many) (xs.take 600)).yard.now, I (eZ (cA y many) (xs.take 600)).yard.seq, v37_0, v37_1] (eZ (cA y many) (xs.take 600)).yard _ from ⟨_, _, _, _, rfl, eT, (aI (s.get 0 rfl)), (aI (s.get 1 rfl)), rfl⟩) aD)] aE fun f43 W45 h43_ st46 hb47 => (aB (wr (aO Tryz.results25 (h43_.at 6) ?_))))))
  exact ⟨(fB (by unfold gT; rw [h28]; rfl)), st46.bare⟩
theorem FinishesS (w : World) {y : Yard} {cs : List Value} {fp : List Nat} (hc : Shape.C w cs y fp) (many : Int) {v : Value} {xs : List Int} {gp : List Nat} (hs : Sl w v xs gp) (hw : y.wt ≤ 1048576) :
  Calls Tryz.prog 23 #[.agg cs.toArray, I many, v] w fun e w' => e = .returned (.bool (gT y many xs)) ∧ St w w' [] := by
 refine iN Tryz.func23 rfl Tryz.ntmps23 aW (wp_seq (aA (sg (aJ (cs := cs) rfl (St.start w) ?_)))); intro b1 W2 hb3 st4
 refine sg (aC (v := .bool false) rfl (aB (wp_seq (aA (sg (bA bC rfl rfl (st4.get 0 rfl) (Shape.len hc) (sg (aG (v := I many) rfl (sg (bU Tryz.func16 rfl rfl rfl ((CrewNewS W2 (aV hc st4.below) many aD).mono ?_))))))))))); rintro _ W12 ⟨cs10, fp10, rfl, hk13⟩; refine ⟨_, rfl, ?_⟩
 have st14 := St.call st4 hk13
 refine rn st14 3 Ag.nil.put.put.put.put.put.put.put.put [] [(13, .agg cs10.toArray), (14, .bool (dV y many))] [] aE fun f17 h17_ => (sg (aP gU st14 ?_)); intro b18 W19 hb20 st21
 refine sg (aL (cs := cs10) bR (bK (st21.get 1 rfl) rfl) rfl (h17_.at 13) st21 rfl ?_); intro W23 st24
 refine sg (aC (v := .bool (dV y many)) (h17_.at 14) (aB (wp_seq ?_)))
 have hcw := sK y many
 have hww := nA (xs.take 600) (c := cA y many) aD
 refine aA ?_
 rcases bd (dV y many) with h28 | h28
 ·refine rn st24 9 (h17_.put.put.kn 8 h28) [6] [(6, .bool false)] [] aE fun f29 h29_ => (aB (wr (aO Tryz.results23 (h29_.at 6) ?_)))
  exact ⟨(fB (by unfold gT; rw [h28]; rfl)), st24.bare⟩
 ·refine rn st24 4 (h17_.put.put.kn 8 h28) [] [(16, .bool true), (17, .agg cs10.toArray), (18, v)] [qw 0 rfl (Shape.len (bK (st24.get 1 rfl) rfl))] aE fun f30 h30_ => (sgo 16 rfl aW (zE (h30_.at 16) rfl) (bU Tryz.func29 rfl (h30_.at 17) (h30_.at 18) ((WorkOffS W23 (bK (st24.get 1 rfl) rfl) (hs.below st24.below) aD).mono ?_))); rintro _ W33 ⟨cs31, fp31, rfl, hk34⟩; refine ⟨_, rfl, ?_⟩
  have st35 := St.call st24 hk34
  have hq_ := lV st35
  obtain ⟨v37_0, v37_1, v37_2, g37_0, g37_1, g37_2, he37, hok37, st38⟩ := hq_
  subst he37
  refine sgo 16 rfl aW (zE (h30_.at 16) rfl) (vE (C := [I (eZ (cA y many) (xs.take 600)).yard.now, I (eZ (cA y many) (xs.take 600)).yard.seq, v37_0, v37_1, v37_2, I (eZ (cA y many) (xs.take 600)).turns, I (eZ (cA y many) (xs.take 600)).did]) (cs := [I (eZ (cA y many) (xs.take 600)).yard.now, I (eZ (cA y many) (xs.take 600)).yard.seq, v37_0, v37_1]) rfl aE (lw h30_.put.put [(16, .bool true), (20, .agg #[I (eZ (cA y many) (xs.take 600)).yard.now, I (eZ (cA y many) (xs.take 600)).yard.seq, v37_0, v37_1])] aE fun h44_ => (rc st38 3 h44_ [] [(6, .bool (kJ (eZ (cA y many) (xs.take 600)).yard))] [qc Tryz.func62 rfl (fun W s b => AllOverS W (show Shape.C _ [I (eZ (cA y many) (xs.take 600)).yard.now, I (eZ (cA y many) (xs.take 600)).yard.seq, v37_0, v37_1] (eZ (cA y many) (xs.take 600)).yard _ from ⟨_, _, _, _, rfl, eT, (aI (s.get 0 rfl)), (aI (s.get 1 rfl)), rfl⟩) aD)] aE fun f43 W45 h43_ st46 hb47 => (aB (wr (aO Tryz.results23 (h43_.at 6) ?_))))))
  exact ⟨(fB (by unfold gT; rw [h28]; rfl)), st46.bare⟩
theorem finishes_law (w : World) (cs0 : List Value) (x0 : Yard) (fp0 : List Nat) (hc0 : Shape.C w cs0 x0 fp0) (n1 : Int) (hn1 : I64 n1) (v2 : Value) (xs2 : List Int) (fp2 : List Nat) (hs2 : Sl w v2 xs2 fp2) :
  Calls Tryz.prog 5 #[.agg cs0.toArray, I n1, v2] w fun e w' => e = .returned (.bool true) ∧ Below w.heap.size w w' := by
 refine iN Tryz.func5 rfl Tryz.ntmps5 aW (wp_seq (aA (sg (aJ (cs := cs0) rfl (St.start w) ?_)))); intro b1 W2 hb3 st4
 refine sg (aC (v := .bool false) rfl (aB (wp_seq (wp_seq (aA (rn st4 3 Ag.nil.put.put.put.put.put [] [(14, .bool (decide (1048576 < (xs2.length : Int))))] [ql hs2, .o] aE fun f9 h9_ => (aB (aM (h9_.at 14) (fun h10p => ?_) (fun h10p => ?_)))))))))
 ·refine wp_seq (aA (sg (aC (v := .bool true) rfl (aB (wr (aO Tryz.results5 rfl ?_))))))
  exact ⟨rfl, st4.below⟩
 ·refine wp_skip (wp_seq (aA (sg (aC (v := I 1048576) rfl (aB (wp_seq (aA (rc st4 4 h9_.put [7] [(7, I (szL 1048576 x0.wt))] [qw 0 rfl (Shape.len hc0), qc Tryz.func15 rfl (fun W s b => szYard_n W (aV hc0 s.below) 1048576 aD aD)] aE fun f16 W17 h16_ st18 hb19 => (aB (wp_seq (wp_seq (aA ?_))))))))))))
  refine sg (aG (v := I (szL 1048576 x0.wt)) (h16_.at 7) (sg (bV rfl rfl (aB (aM rfl (fun h22p => ?_) (fun h22p => ?_))))))
  ·have h22q := nD h22p aD
   refine wp_seq (aA (sg (aC (v := .bool true) rfl (aB (wr (aO Tryz.results5 rfl ?_))))))
   exact ⟨rfl, st18.below⟩
  ·have h22q := nE h22p aD
   refine wp_skip (wp_seq (aA (sg (bA tY rfl (h16_.at 3) (st18.get 0 rfl) (Shape.len hc0) (sg (bE Tryz.func17 rfl rfl ((sX W17 (aV hc0 st18.below) (by first | exact hw | omega | (simp only [Plan.wt, Run.wt, Yard.wt, Deed.wt, Note.wt, File.wt, Disk.wt, Engine.wt, WorldD.wt, ActD.wt, Span.wt, Crew.wt] at *; omega))).mono ?_))))))); rintro _ W29 ⟨cs27, fp27, rfl, hk30⟩; refine ⟨_, rfl, ?_⟩
   have st31 := St.call st18 hk30
   refine sg (aG (v := I n1) (h16_.at 1) (sg (aG (v := v2) (h16_.at 2) (sg (bE Tryz.func24 rfl rfl ((sZ W29 (hs2.below st31.below) (by first | exact hw | omega | (simp only [Plan.wt, Run.wt, Yard.wt, Deed.wt, Note.wt, File.wt, Disk.wt, Engine.wt, WorldD.wt, ActD.wt, Span.wt, Crew.wt] at *; omega))).mono ?_)))))); rintro _ W37 ⟨v35, fp35, rfl, hk38⟩; refine ⟨_, rfl, ?_⟩
   have st39 := St.call st31 hk38
   refine lw h16_.put.put.put.put.put.put.put [(1, I n1), (2, v2), (3, .pointer (some ⟨b1, 0, none⟩)), (21, .agg cs27.toArray), (22, I n1), (24, v35)] aE fun h43_ => (rc st39 2 h43_ [] [(8, .bool (gT x0 n1 xs2))] [qc Tryz.func23 rfl (fun W s b => FinishesS W (bK (s.get 1 rfl) rfl) n1 (aI (s.get 0 rfl)) aD)] aE fun f42 W44 h42_ st45 hb46 => (aB (wp_seq (aA (sg (bA tY rfl (h42_.at 3) (st45.get 2 rfl) (Shape.len hc0) (sg (bE Tryz.func17 rfl rfl ((sX W44 (aV hc0 st45.below) (by first | exact hw | omega | (simp only [Plan.wt, Run.wt, Yard.wt, Deed.wt, Note.wt, File.wt, Disk.wt, Engine.wt, WorldD.wt, ActD.wt, Span.wt, Crew.wt] at *; omega))).mono ?_))))))))); rintro _ W51 ⟨cs49, fp49, rfl, hk52⟩; refine ⟨_, rfl, ?_⟩
   have st53 := St.call st45 hk52
   refine sg (aP eG st53 ?_); intro b55 W56 hb57 st58
   refine sg (aL (cs := cs49) bC (bK (st58.get 1 rfl) rfl) rfl rfl st58 rfl ?_); intro W60 st61
   refine aB (wp_seq (aA (sg (aG (v := v2) (h42_.at 2) (sg (bE Tryz.func24 rfl rfl ((sZ W60 (hs2.below st61.below) (by first | exact hw | omega | (simp only [Plan.wt, Run.wt, Yard.wt, Deed.wt, Note.wt, File.wt, Disk.wt, Engine.wt, WorldD.wt, ActD.wt, Span.wt, Crew.wt] at *; omega))).mono ?_))))))); rintro _ W66 ⟨v64, fp64, rfl, hk67⟩; refine ⟨_, rfl, ?_⟩
   have st68 := St.call st61 hk67
   refine sg (aC (v := v64) rfl (aB (wp_seq (aA (rc st68 5 h42_.put.put.put.put.put.put [] [(11, .bool (gT x0 n1 xs2))] [qw 1 rfl (Shape.len (bK (st68.get 2 rfl) rfl)), qc Tryz.func25 rfl (fun W s b => FinishesI W (bK (s.get 2 rfl) rfl) n1 (aI (s.get 0 rfl)) aD)] aE fun f73 W74 h73_ st75 hb76 => (aB (wp_seq (wp_seq (aA (sg (aG (v := .bool (gT x0 n1 xs2)) (h73_.at 11) (sg (aG (v := .bool (gT x0 n1 xs2)) (h73_.at 8) (sg (stp_bneq Tryz.underlying4 rfl rfl ?_)))))))))))))))
   refine aB (cM rfl (fun h79 => ?_) (fun h79 => ?_))
   ·exact absurd (aX h79) (by simp)
   ·refine wp_skip (wp_seq (wp_seq (oZ [Pl.is (.agg cs49.toArray), Pl.is (.agg cs0.toArray), Pl.sval (α := Yard) x0, Pl.bool (eqB x0 x0), Pl.bool (!(eqB x0 x0))] mix (by rfl) st75 ⟨(fun f W hst hbl hd hf => bA bC rfl ((hf 9 rfl).trans (h73_.at 9)) (hst.get 1 rfl) (Shape.len (bK (hst.get 2 rfl) rfl)) brq), (fun f W hst hbl hd hf => bA tY rfl ((hf 3 rfl).trans (h73_.at 3)) (hst.get 5 rfl) (Shape.len hc0) brq), (fun f W hst hbl hd hf => bE Tryz.func17 rfl (hd 1 38 rfl rfl) ((sX W (aV hc0 hst.below) (by first | exact hw | omega | (simp only [Plan.wt, Run.wt, Yard.wt, Deed.wt, Note.wt, File.wt, Disk.wt, Engine.wt, WorldD.wt, ActD.wt, Span.wt, Crew.wt] at *; omega))).mono (by rintro e W2 ⟨cs, fp, rfl, hk⟩; exact ⟨_, rfl, hk.below, fp, own_V (hk.get 0 rfl)⟩))), (fun f W hst hbl hd hf => by obtain ⟨fp82, cs82, e82, hc82⟩ := hd 2 39 rfl rfl; exact bU Tryz.func19 rfl (hd 0 37 rfl rfl) e82 ((eqYard_n W (bK (hst.get 2 rfl) rfl) hc82).mono (by rintro e W2 ⟨rfl, hk⟩; exact ⟨_, rfl, hk.below, rfl⟩))), (fun f W hst hbl hd hf => nY (hd 3 40 rfl rfl) brq), trivial⟩ ?_)))
    intro f83 W84 st85 hb86 hv87 hf88
    refine cM (hv87 4 41 aW rfl) (fun h90 => ?_) (fun h90 => ?_)
    ·exact absurd (aX h90) (by rw [eE rfl]; decide)
    ·refine wp_skip (wp_seq (wp_seq (aA (sg (aG (v := v64) ((hf88 10 rfl).trans (h73_.at 10)) (sg (aG (v := v2) ((hf88 2 rfl).trans (h73_.at 2)) (sg (bE Tryz.func24 rfl rfl ((sZ W84 (hs2.below st85.below) (by first | exact hw | omega | (simp only [Plan.wt, Run.wt, Yard.wt, Deed.wt, Note.wt, File.wt, Disk.wt, Engine.wt, WorldD.wt, ActD.wt, Span.wt, Crew.wt] at *; omega))).mono ?_)))))))))); rintro _ W95 ⟨v93, fp93, rfl, hk96⟩; refine ⟨_, rfl, ?_⟩
     have st97 := St.call st85 hk96
     refine rc st97 2 Ag.nil.put.put.put [] [(46, .bool (!(eqB xs2 xs2)))] [qc Tryz.func26 rfl (fun W s b => eqIntS_n W (aI (s.get 1 rfl)) (aI (s.get 0 rfl))), .o] aE fun f100 W101 h100_ st102 hb103 => (aB (cM (h100_.at 46) (fun h104 => ?_) (fun h104 => ?_)))
     ·exact absurd (aX h104) (by rw [eE rfl]; decide)
     ·refine wp_skip (wp_seq (aA (sg (aC (v := .bool true) rfl (aB (wr (aO Tryz.results5 rfl ?_)))))))
      exact ⟨rfl, st102.below⟩
end Go.Proofs.YtchnllpegfbleaaGreat
namespace Go.Proofs.YtchnllpegfbleaaGreat
set_option linter.unusedSimpArgs false
set_option linter.unusedVariables false
set_option maxRecDepth 100000
set_option maxHeartbeats 2000000
open Go.ChangeShapes Go.WideShapes Go.ChangeAt Go.RowKit Go.Deep
def jY (t : TypeId) (α : Type) [Shape α] : Prop := ∀ {H : Type} (enc : TypeId × Value → H) (w : World) (fuel : Nat) (cs : List Value) (x : DataW H × List MemPlace),
 DataW.trod enc Tryz.prog w 0 (fun _ => true) true fuel t cs = some x → ∃ (a : α) (fp : List Nat), Shape.C w cs a fp

theorem gE {n : Int} (h : (Lit.int .i64 n).wf = true) : I64 n := by
 have := bounds_i64 h
 exact this

theorem opens_int : jY 3 Int := by
 intro H enc w fuel cs x h
 obtain ⟨n, rfl, _, hw⟩ := DataW.trod_int Tryz.underlying3 h
 exact ⟨n, [], rfl, rfl, gE hw⟩

theorem iR {t e : TypeId} {α : Type} [Shape α] (ht : Tryz.prog.underlying t = some (.slice e)) (hC : Tryz.prog.cellsOf e = Shape.size α) (hp : 0 < Shape.size α) (he : jY e α) : jY t (List α) := by
 intro H enc w fuel cs x h
 rcases open_slice ht h with ⟨rfl, _⟩ | ⟨a, len, cap, m, n, D, Pl, rfl, _, hl, hm, hmm, _, hi⟩
 ·exact ⟨[], [], _, rfl, none, 0, rfl, Nat.le_refl _, by omega, .inl ⟨rfl, rfl⟩⟩
 ·simp only [if_true] at hmm
  subst hmm
  unfold maxLen at hm
  have key : ∀ k, k ≤ len → 0 < len → ∃ (xs : List α) (fp : List Nat), xs.length = k ∧ a.spot = none ∧ SlAt w a.block a.off xs fp := by
   intro k
   induction k with
   | zero =>
    intro _ hlp
    obtain ⟨cs', hc, _⟩ := hi 0 aD
    obtain ⟨_, hcl, hat⟩ := World.cells?_some hc
    rw [hC] at hcl hat
    have h0 := hat 0 hp
    have : a.spot = none := by
     have hlt : 0 < cs'.length := by omega
     rw [List.getElem?_eq_getElem hlt] at h0
     simpa [Addr.add] using World.cell?_spot h0
    exact ⟨[], [], rfl, this, rfl⟩
   | succ k ih =>
    intro hk hlp
    obtain ⟨xs, fp, hxl, hsp, hS⟩ := ih aD hlp
    obtain ⟨cs', hc, ht'⟩ := hi k aD
    obtain ⟨_, hcl, hat⟩ := World.cells?_some hc
    rw [hC] at hcl hat
    obtain ⟨x, f, hx⟩ := he enc w n cs' _ ht'
    refine ⟨xs ++ [x], fp ++ f, by simp [hxl], hsp, SlAt.snoc hS ?_ hx⟩
    intro j v hj
    have hjl : j < cs'.length := (List.getElem?_eq_some_iff.1 hj).1
    have := hat j aD
    rw [hj] at this
    rw [← this, hxl]
    obtain ⟨ab, ao, asp⟩ := a
    simp only at hsp
    subst hsp
    rw [Addr.add_mid, Addr.add_mid]
  by_cases hlp : 0 < len
  ·obtain ⟨xs, fp, hxl, hsp, hS⟩ := key len (Nat.le_refl _) hlp
   obtain ⟨ab, ao, asp⟩ := a
   simp only at hsp
   subst hsp
   subst hxl
   have hne : xs ≠ [] := by rintro rfl; simp at hlp
   refine ⟨xs, ab :: fp, _, rfl, _, m, rfl, hl, hm, .inr ⟨ab, ao, fp, hne, rfl, rfl, ?_, hS⟩⟩
   cases xs with
   | nil => exact absurd rfl hne
   | cons x xs =>
    obtain ⟨cs', f1, f2, hr, hc, _, _⟩ := hS
    have hl' := Shape.len hc
    have h0 := hr 0 _ (List.getElem?_eq_getElem aD)
    exact World.block_lt_of_cell? w _ h0
  ·obtain rfl : len = 0 := by omega
   exact ⟨[], [], _, rfl, _, m, rfl, by simp, hm, .inl ⟨rfl, rfl⟩⟩

theorem oO {H : Type} {enc : TypeId × Value → H} {W W' : World} (hl : laidOutB Tryz.prog = true) (hb : Below W.heap.size W W') : ∀ {ts : List TypeId} {vs : List Value} {ds : List (DataW H)} {p : List MemPlace},
  (∀ t ∈ ts, Tryz.prog.readableRec t = true ∧ t < Tryz.prog.types.size) → DataW.TrodAll enc Tryz.prog W 0 (fun _ => true) true ts vs ds p → (∀ x ∈ p, x.block < W.heap.size) →
  DataW.TrodAll enc Tryz.prog W' 0 (fun b => decide (b < W.heap.size)) true ts vs ds p
 | [], _, _, _, _, h, _ => by
  obtain ⟨rfl, rfl, rfl⟩ := trodAll_nil h
  exact trodAll_mk0
 | t :: ts, _, _, _, ht, h, hp => by
  obtain ⟨v1, vs1, d1, ds1, p1, q1, rfl, rfl, rfl, h1, r1⟩ := trodAll_cons h
  exact trodAll_cons_mk (Below.trod hl (ht t (by simp)).1 (ht t (by simp)).2 h1 hb (fun x hx => hp x (by simp [hx]))) (oO hl hb (fun t' h' => ht t' (by simp [h'])) r1 (fun x hx => hp x (by simp [hx])))

theorem open_param_slice {H : Type} {enc : TypeId × Value → H} {W : World} {base : Nat} {t e : TypeId} {α : Type} [Shape α] (ht : Tryz.prog.underlying t = some (.slice e)) (ho : jY t (List α)) {v : Value} {d : DataW H} {p : List MemPlace}
  (hv : Value.okWide Tryz.prog W .any base t v) (h : DataW.Trod enc Tryz.prog W 0 (fun _ => true) true t v d p) : ∃ (xs : List α) (fp : List Nat), Sl W v xs fp := by
 obtain ⟨a, len, cap, rfl⟩ := okWide_slice ht hv
 obtain ⟨fuel, hf⟩ := h
 obtain ⟨xs, fp, v', hv', hs⟩ := ho enc W fuel _ _ hf
 have : v' = .slice a len cap := (List.singleton_inj.1 hv').symm
 subst this
 exact ⟨xs, fp, hs⟩
theorem open_param_struct {H : Type} {enc : TypeId × Value → H} {W : World} {base : Nat} {t : TypeId} {fs : Array Field} {α : Type} [Shape α] (ht : Tryz.prog.underlying t = some (.struct fs)) (ho : jY t α) {v : Value} {d : DataW H} {p : List MemPlace}
  (hv : Value.okWide Tryz.prog W .any base t v) (h : DataW.Trod enc Tryz.prog W 0 (fun _ => true) true t v d p) : ∃ (cs : List Value) (x : α) (fp : List Nat), v = .agg cs.toArray ∧ Shape.C W cs x fp := by
 obtain ⟨cs, rfl, hsz⟩ := okWide_struct ht hv
 obtain ⟨fuel, hf⟩ := h
 obtain ⟨x, fp, hc⟩ := ho enc W fuel _ _ hf
 exact ⟨cs.toList, x, fp, rfl, hc⟩
theorem open_param_int {H : Type} {enc : TypeId × Value → H} {W : World} {base : Nat} {v : Value} {d : DataW H} {p : List MemPlace}
  (hv : Value.okWide Tryz.prog W .any base 3 v) (h : DataW.Trod enc Tryz.prog W 0 (fun _ => true) true 3 v d p) : ∃ n : Int, v = .int .i64 n ∧ I64 n := by
 obtain ⟨n, rfl, _, _, wn⟩ := open_int Tryz.underlying3 hv h
 exact ⟨n, rfl, gE wn⟩
theorem ownKnobTry : ownKnob Tryz.prog.godebug = none := by kernel_rfl
theorem laidOutTry : laidOutB Tryz.prog = true := by kernel_rfl
end Go.Proofs.YtchnllpegfbleaaGreat
namespace Go.Proofs.YtchnllpegfbleaaGreat
set_option linter.unusedSimpArgs false
set_option linter.unusedVariables false
set_option maxRecDepth 100000
set_option maxHeartbeats 2000000
open Go.ChangeShapes Go.WideShapes Go.ChangeAt Go.RowKit Go.Deep
theorem opens_intS : jY 49 (List Int) := iR Tryz.underlying49 aE aW opens_int
theorem opens_Edge : jY 228 Edge := by
 intro H enc w fuel cs x h
 obtain ⟨xs, n, _, hx, hl, hlen, hf⟩ := DataW.trod_struct Tryz.underlying228 h
 have hl' : cs.length = 2 := hl
 have hlen' : xs.length = 2 := hlen
 match cs, hl', xs, hlen' with
 | [c0, c1], _, [y0, y1], _ =>
  obtain ⟨n0, e0, _, w0⟩ := DataW.trod_int Tryz.underlying3 (hf 0 _ rfl)
  have e0' : [c0] = [I n0] := e0
  obtain rfl := List.singleton_inj.1 e0'
  obtain ⟨n1, e1, _, w1⟩ := DataW.trod_int Tryz.underlying3 (hf 1 _ rfl)
  have e1' : [c1] = [I n1] := e1
  obtain rfl := List.singleton_inj.1 e1'
  exact ⟨⟨n0, n1⟩, [], rfl, rfl, ⟨gE w0, gE w1⟩⟩
theorem opens_EdgeS : jY 94 (List Edge) := iR Tryz.underlying94 aE aW opens_Edge
theorem opens_Plan : jY 96 Plan := by
 intro H enc w fuel cs x h
 obtain ⟨xs, n, _, hx, hl, hlen, hf⟩ := DataW.trod_struct Tryz.underlying96 h
 have hl' : cs.length = 5 := hl
 have hlen' : xs.length = 5 := hlen
 match cs, hl', xs, hlen' with
 | [c0, c1, c2, c3, c4], _, [y0, y1, y2, y3, y4], _ =>
  obtain ⟨n0, e0, _, w0⟩ := DataW.trod_int Tryz.underlying3 (hf 0 _ rfl)
  have e0' : [c0] = [I n0] := e0
  obtain rfl := List.singleton_inj.1 e0'
  obtain ⟨n1, e1, _, w1⟩ := DataW.trod_int Tryz.underlying3 (hf 1 _ rfl)
  have e1' : [c1] = [I n1] := e1
  obtain rfl := List.singleton_inj.1 e1'
  obtain ⟨n2, e2, _, w2⟩ := DataW.trod_int Tryz.underlying3 (hf 2 _ rfl)
  have e2' : [c2] = [I n2] := e2
  obtain rfl := List.singleton_inj.1 e2'
  obtain ⟨n3, e3, _, w3⟩ := DataW.trod_int Tryz.underlying3 (hf 3 _ rfl)
  have e3' : [c3] = [I n3] := e3
  obtain rfl := List.singleton_inj.1 e3'
  obtain ⟨l4, g4, u4, e4, s4⟩ := opens_EdgeS enc w n _ _ (hf 4 _ rfl)
  have e4' : [c4] = [u4] := e4
  obtain rfl := List.singleton_inj.1 e4'
  exact ⟨⟨n0, n1, n2, n3, l4⟩, _, _, g4, rfl, ⟨gE w0, gE w1, gE w2, gE w3⟩, s4, rfl⟩
theorem opens_Entry : jY 188 Entry := by
 intro H enc w fuel cs x h
 obtain ⟨xs, n, _, hx, hl, hlen, hf⟩ := DataW.trod_struct Tryz.underlying188 h
 have hl' : cs.length = 4 := hl
 have hlen' : xs.length = 4 := hlen
 match cs, hl', xs, hlen' with
 | [c0, c1, c2, c3], _, [y0, y1, y2, y3], _ =>
  obtain ⟨n0, e0, _, w0⟩ := DataW.trod_int Tryz.underlying3 (hf 0 _ rfl)
  have e0' : [c0] = [I n0] := e0
  obtain rfl := List.singleton_inj.1 e0'
  obtain ⟨n1, e1, _, w1⟩ := DataW.trod_int Tryz.underlying3 (hf 1 _ rfl)
  have e1' : [c1] = [I n1] := e1
  obtain rfl := List.singleton_inj.1 e1'
  obtain ⟨n2, e2, _, w2⟩ := DataW.trod_int Tryz.underlying3 (hf 2 _ rfl)
  have e2' : [c2] = [I n2] := e2
  obtain rfl := List.singleton_inj.1 e2'
  obtain ⟨n3, e3, _, w3⟩ := DataW.trod_int Tryz.underlying3 (hf 3 _ rfl)
  have e3' : [c3] = [I n3] := e3
  obtain rfl := List.singleton_inj.1 e3'
  exact ⟨⟨n0, n1, n2, n3⟩, [], rfl, rfl, ⟨gE w0, gE w1, gE w2, gE w3⟩⟩
theorem opens_EntryS : jY 134 (List Entry) := iR Tryz.underlying134 aE aW opens_Entry
theorem opens_Task : jY 218 Task := by
 intro H enc w fuel cs x h
 obtain ⟨xs, n, _, hx, hl, hlen, hf⟩ := DataW.trod_struct Tryz.underlying218 h
 have hl' : cs.length = 4 := hl
 have hlen' : xs.length = 4 := hlen
 match cs, hl', xs, hlen' with
 | [c0, c1, c2, c3], _, [y0, y1, y2, y3], _ =>
  obtain ⟨n0, e0, _, w0⟩ := DataW.trod_int Tryz.underlying3 (hf 0 _ rfl)
  have e0' : [c0] = [I n0] := e0
  obtain rfl := List.singleton_inj.1 e0'
  obtain ⟨n1, e1, _, w1⟩ := DataW.trod_int Tryz.underlying3 (hf 1 _ rfl)
  have e1' : [c1] = [I n1] := e1
  obtain rfl := List.singleton_inj.1 e1'
  obtain ⟨n2, e2, _, w2⟩ := DataW.trod_int Tryz.underlying3 (hf 2 _ rfl)
  have e2' : [c2] = [I n2] := e2
  obtain rfl := List.singleton_inj.1 e2'
  obtain ⟨n3, e3, _, w3⟩ := DataW.trod_int Tryz.underlying3 (hf 3 _ rfl)
  have e3' : [c3] = [I n3] := e3
  obtain rfl := List.singleton_inj.1 e3'
  exact ⟨⟨n0, n1, n2, n3⟩, [], rfl, rfl, ⟨gE w0, gE w1, gE w2, gE w3⟩⟩
theorem opens_TaskS : jY 136 (List Task) := iR Tryz.underlying136 aE aW opens_Task
theorem opens_Run : jY 138 Run := by
 intro H enc w fuel cs x h
 obtain ⟨xs, n, _, hx, hl, hlen, hf⟩ := DataW.trod_struct Tryz.underlying138 h
 have hl' : cs.length = 8 := hl
 have hlen' : xs.length = 4 := hlen
 match cs, hl', xs, hlen' with
 | [c0, c1, c2, c3, c4, c5, c6, c7], _, [y0, y1, y2, y3], _ =>
  obtain ⟨n0, e0, _, w0⟩ := DataW.trod_int Tryz.underlying3 (hf 0 _ rfl)
  have e0' : [c0] = [I n0] := e0
  obtain rfl := List.singleton_inj.1 e0'
  obtain ⟨z1, gz1, u1_0, g1_0, e1, ok1, s1_0, _⟩ := opens_Plan enc w n _ _ (hf 1 _ rfl)
  have e1' : [c1, c2, c3, c4, c5] = [I z1.prio, I z1.most, I z1.wait, I z1.tasks, u1_0] := e1
  simp only [List.cons.injEq, and_true] at e1'
  obtain ⟨rfl, rfl, rfl, rfl, rfl⟩ := e1'
  obtain ⟨n2, e2, _, w2⟩ := DataW.trod_int Tryz.underlying3 (hf 2 _ rfl)
  have e2' : [c6] = [I n2] := e2
  obtain rfl := List.singleton_inj.1 e2'
  obtain ⟨l3, g3, u3, e3, s3⟩ := opens_TaskS enc w n _ _ (hf 3 _ rfl)
  have e3' : [c7] = [u3] := e3
  obtain rfl := List.singleton_inj.1 e3'
  exact ⟨⟨n0, z1, n2, l3⟩, _, _, _, g1_0, g3, rfl, ⟨gE w0, ok1, gE w2⟩, s1_0, s3, rfl⟩
theorem opens_RunS : jY 23 (List Run) := iR Tryz.underlying23 aE aW opens_Run
theorem opens_EntrySS : jY 22 (List (List Entry)) := iR Tryz.underlying22 aE aW opens_EntryS
theorem opens_Yard : jY 25 Yard := by
 intro H enc w fuel cs x h
 obtain ⟨xs, n, _, hx, hl, hlen, hf⟩ := DataW.trod_struct Tryz.underlying25 h
 have hl' : cs.length = 4 := hl
 have hlen' : xs.length = 4 := hlen
 match cs, hl', xs, hlen' with
 | [c0, c1, c2, c3], _, [y0, y1, y2, y3], _ =>
  obtain ⟨n0, e0, _, w0⟩ := DataW.trod_int Tryz.underlying3 (hf 0 _ rfl)
  have e0' : [c0] = [I n0] := e0
  obtain rfl := List.singleton_inj.1 e0'
  obtain ⟨n1, e1, _, w1⟩ := DataW.trod_int Tryz.underlying3 (hf 1 _ rfl)
  have e1' : [c1] = [I n1] := e1
  obtain rfl := List.singleton_inj.1 e1'
  obtain ⟨l2, g2, u2, e2, s2⟩ := opens_EntrySS enc w n _ _ (hf 2 _ rfl)
  have e2' : [c2] = [u2] := e2
  obtain rfl := List.singleton_inj.1 e2'
  obtain ⟨l3, g3, u3, e3, s3⟩ := opens_RunS enc w n _ _ (hf 3 _ rfl)
  have e3' : [c3] = [u3] := e3
  obtain rfl := List.singleton_inj.1 e3'
  exact ⟨⟨n0, n1, l2, l3⟩, _, _, _, g2, g3, rfl, ⟨gE w0, gE w1⟩, s2, s3, rfl⟩
end Go.Proofs.YtchnllpegfbleaaGreat
