/-
  What a worker is given, of both.
  A task that is done: what becomes of a right run. Theory alone.
  A task that is done, of both.
  What is told of a task, of both.
  When a crew is right: of the program and of the reference.
  A new crew, of both.
  What a crew's turn makes of it, and many turns; how heavy it becomes. Theory alone.
  A crew's turns, of both.
  A crew's turns, many of them, of both.
-/
import Derived.Test.YtchnllpegfbleaaGreatQ02
import Derived.Test.YtchnllpegfbleaaGreatQ03
import Derived.Test.YtchnllpegfbleaaGreatQ05
namespace Go.Proofs.YtchnllpegfbleaaGreat
set_option linter.unusedSimpArgs false
set_option linter.unusedVariables false
set_option maxRecDepth 100000
set_option maxHeartbeats 2000000
open Go.RowKit
theorem pU {α : Type} (f : α → Nat) (m : Nat) : ∀ xs : List α, (∀ x ∈ xs, f x ≤ m) → (xs.map f).sum ≤ xs.length * m
 | [], _ => by simp
 | x :: xs, h => by
  have h1 := h x (by simp)
  have h2 := pU f m xs (fun z hz => h z (by simp [hz]))
  simp only [List.map_cons, List.sum_cons, List.length_cons, Nat.succ_mul]
  omega
theorem wS {y : Yard} {s : List (List Entry)} {rr : List Run} {a b : Int} (h4 : s.length = 4) (he : ∀ j, j < 4 → (s.getD j []).length ≤ 80) (h8 : rr.length ≤ 8) (hr : ∀ r ∈ rr, r.wt ≤ 42) : (⟨a, b, s, rr⟩ : Yard).wt ≤ 100000 := by
 have hs := pU (fun z : List Entry => z.length) 80 s (fun z hz => by
  obtain ⟨j, hj, rfl⟩ := List.getElem_of_mem hz
  have := he j aD
  rw [List.getD_eq_getElem?_getD, List.getElem?_eq_getElem hj] at this
  simpa using this)
 have hq := pU (fun z : Run => z.wt) 42 rr hr
 rw [h4] at hs
 have : rr.length * 42 ≤ 8 * 42 := Nat.mul_le_mul_right _ h8
 unfold Yard.wt wtL
 simp only
 omega
theorem qD {y : Yard} (h : YardIs y) : ∀ r ∈ y.runs, r.wt ≤ 42 := by
 intro r hr
 obtain ⟨j, hj, rfl⟩ := List.getElem_of_mem hr
 exact ((h.run j _ (List.getElem?_eq_getElem hj)).1).wt
theorem PI.wt {y out : Yard} {home : Nat} (hy : YardIs y) (h : PI y out home) : out.wt ≤ 100000 :=
 wS (y := y) h.len h.each (by rw [h.runs]; exact hy.runs) (by rw [h.runs]; exact qD hy)
theorem PI.wtS {y out : Yard} {home : Nat} (hy : YardIs y) (h : PI y out home) {l : List Entry} (hl : l.length ≤ 80) : (iE out home l).wt ≤ 100000 :=
 wS (y := y) (by show (out.shelf.set _ _).length = 4; rw [List.length_set]; exact h.len) (kS h.each hl h.len) (by rw [h.runs]; exact hy.runs) (by rw [h.runs]; exact qD hy)
theorem PI.ok {y out : Yard} {home : Nat} (hy : YardIs y) (h : PI y out home) : out.ok := by
 have h1 := hy.now; have h2 := hy.seq
 unfold Yard.ok I64
 rw [h.now, h.seq]; omega
theorem PI.sw {y out : Yard} {home : Nat} (h : PI y out home) {o : Int} (ho : 0 ≤ o ∧ o ≤ 3) : (aZ out o).shelf.length = 4 ∧ ∀ s, s < 4 → ((aZ out o).shelf.getD s []).length ≤ 80 := by
 rw [rM ho h.len]
 exact ⟨by show (out.shelf.set _ _).length = 4; rw [List.length_set]; exact h.len, kS h.each (Nat.le_trans (List.length_filter_le _ _) (h.each _ aD)) h.len⟩
theorem RunIs.tries {r : Run} (h : RunIs r) {i : Nat} {t : Task} (ht : r.tasks[i]? = some t) : (0 ≤ t.try_ ∧ t.try_ ≤ 5) ∧ 1 ≤ r.plan.wait ∧ r.plan.wait ≤ 20 := by
 obtain ⟨hi, rfl⟩ := List.getElem?_eq_some_iff.1 ht
 have h1 := (h.task i hi hi).2.2.1
 have h2 := (lU h.plan).1
 unfold cU at h2
 omega
theorem tJ {y y' : Yard} (h : y'.runs = y.runs) (id : Int) : dY y' id = dY y id := by unfold dY; rw [h]
theorem dne {p : Prop} [Decidable p] (h : (!(!decide p)) = true) : p := by simpa using h
theorem dnf {p : Prop} [Decidable p] (h : (!(!decide p)) = false) : ¬ p := by simpa using h
theorem aA2 {xs : List Entry} (h : ¬ xs = []) : ∃ e rest, xs = e :: rest := by cases xs with | nil => exact absurd rfl h | cons e r => exact ⟨e, r, rfl⟩
theorem gt_ne {xs : List Entry} (h : (0 : Int) < (xs.length : Int)) : ¬ xs = [] := fun e => by rw [e] at h; simp at h
theorem ne_nil0 {xs : List Entry} (h : ¬ (xs.length : Int) = 0) : ¬ xs = [] := fun e => h (by rw [e]; rfl)
theorem nil0 {xs : List Entry} (h : (xs.length : Int) = 0) : xs = [] := List.eq_nil_of_length_eq_zero aD
theorem ng_nil {xs : List Entry} (h : ¬ (0 : Int) < (xs.length : Int)) : xs = [] := List.eq_nil_of_length_eq_zero aD

theorem PollI (w : World) {y : Yard} {cs : List Value} {fp : List Nat} (hc : Shape.C w cs y fp) (worker draw : Int) (hw : y.wt ≤ 1048576) (hdw : I64 draw) :
  Calls Tryz.prog 69 #[.agg cs.toArray, I worker, I draw] w fun e w' => ∃ (cs' : List Value) (fp' : List Nat), e = .returned (.tuple #[.agg cs'.toArray, .agg #[I (aP y worker draw).2.code, I (aP y worker draw).2.run, I (aP y worker draw).2.task, I (aP y worker draw).2.try_]]) ∧ (aP y worker draw).2.ok ∧ St w w' [Res.own (.agg cs'.toArray) (aP y worker draw).1 fp'] := by
 have hdw2 := hdw
 unfold I64 at hdw2
 refine jX Tryz.func69 rfl Tryz.ntmps69 aX (wp_seq (aA (sg (aJ (cs := cs) rfl (St.start w) ?_)))); intro b1 W2 hb3 st4
 refine sg (aR fA st4 ?_); intro b6 W7 hb8 st9
 refine sg (aR iV st9 ?_); intro b11 W12 hb13 st14
 refine aB (wp_seq (wp_block (wp_seq (aA (rc st14 4 Ag.nil.put.put.put.put.put.put [] [(19, .bool (!(dR y)))] [qw 2 rfl (Shape.len hc), qc Tryz.func46 rfl (fun W s b => oN W (bA hc s.below) aD), .o] aE fun f17 W18 h17_ st19 hb20 => (aB (cT (h17_.at 19) (fun h21 => ?_) (fun h21 => ?_))))))))
 ·refine wp_seq (aA (sg (bB bM rfl (h17_.at 3) (st19.get 2 rfl) (Shape.len hc) (sg (bF Tryz.func108 rfl rfl ((mF W18 (bA hc st19.below) aD).mono ?_)))))); rintro _ W26 ⟨cs24, fp24, rfl, hk27⟩; refine ⟨_, rfl, ?_⟩
  have st28 := St.call st19 hk27
  refine sg (eJ (vs := [(0, I 8)]) (cs := [I 8, I 0, I 0, I 0]) (cY (v := I 8) rfl eA) aE (sgn (aO (cs := cs24) bM (bO (st28.f2.get 1 rfl) rfl) (h17_.at 6) rfl st28.f2 rfl ?_))); intro W31 st32
  refine sgn (aM (cs := [I 8, I 0, I 0, I 0]) (C' := [I 8, I 0, I 0, I 0]) aE (h17_.at 7) rfl (aG rfl (aG rfl (aG rfl (aG rfl bK)))) st32.f2 bP rfl ?_); intro W34 st35
  refine aB (wr (sJ bM rfl fZ rfl Tryz.results69 (h17_.at 6) (st35.get 1 rfl) (Shape.len (bO (st35.get 2 rfl) rfl)) (h17_.at 7) (st35.get 0 rfl) rfl ?_))
  have hfe : aP y worker draw = (y, ⟨8, 0, 0, 0⟩) := by unfold aP; rw [if_pos (by rw [(aW h21)]; decide)]
  rw [hfe]
  exact ⟨_, _, rfl, (by simp only [Reply.ok, I64]; omega), st35.f2.d1.d1.d1⟩
 ·refine wp_seq (aA (rc st19 4 h17_ [] [(26, .bool (!(inB worker 0 99)))] [qc Tryz.func47 rfl (fun W s b => bZ W worker 0 99), .o] aE fun f41 W42 h41_ st43 hb44 => (aB (cT (h41_.at 26) (fun h45 => ?_) (fun h45 => ?_)))))
  ·have h45p := cJ (aW h45)
   refine wp_seq (aA (sg (bB bM rfl (h41_.at 3) (st43.get 2 rfl) (Shape.len hc) (sg (bF Tryz.func108 rfl rfl ((mF W42 (bA hc st43.below) aD).mono ?_)))))); rintro _ W50 ⟨cs48, fp48, rfl, hk51⟩; refine ⟨_, rfl, ?_⟩
   have st52 := St.call st43 hk51
   refine sg (eJ (vs := [(0, I 5)]) (cs := [I 5, I 0, I 0, I 0]) (cY (v := I 5) rfl eA) aE (sgn (aO (cs := cs48) bM (bO (st52.f2.get 1 rfl) rfl) (h41_.at 6) rfl st52.f2 rfl ?_))); intro W55 st56
   refine sgn (aM (cs := [I 5, I 0, I 0, I 0]) (C' := [I 5, I 0, I 0, I 0]) aE (h41_.at 7) rfl (aG rfl (aG rfl (aG rfl (aG rfl bK)))) st56.f2 bP rfl ?_); intro W58 st59
   refine aB (wr (sJ bM rfl fZ rfl Tryz.results69 (h41_.at 6) (st59.get 1 rfl) (Shape.len (bO (st59.get 2 rfl) rfl)) (h41_.at 7) (st59.get 0 rfl) rfl ?_))
   have hfe : aP y worker draw = (y, ⟨5, 0, 0, 0⟩) := by unfold aP; rw [if_neg (by rw [(bG h21)]; decide), if_pos (by rw [(aW h45)]; decide)]
   rw [hfe]
   exact ⟨_, _, rfl, (by simp only [Reply.ok, I64]; omega), st59.f2.d1.d1.d1⟩
  ·have h45p := inB_iff'.1 (bG h45)
   refine wp_skip (wp_seq ?_)
   have hY := wT (bG h21)
   have hwk := inB_iff'.1 (bG h45)
   have hHN : (((worker % 4).toNat : Nat) : Int) = (worker % 4) := by omega
   have hh4 : (worker % 4).toNat < 4 := by omega
   have hvr : ∀ o ∈ (cI (worker % 4) draw), 0 ≤ o ∧ o ≤ 3 ∧ o ≠ (((worker % 4).toNat : Nat) : Int) := by rw [hHN]; exact mZ aD
   have hvl : (cI (worker % 4) draw).length = 3 := rfl
   refine aA (rn st43 3 h41_ [] [(8, I (worker % 4))] [qq worker 4] aE fun f65 h65_ => (aB (wp_seq (aA (sg (bB bM rfl (h65_.at 3) (st43.get 2 rfl) (Shape.len hc) (sg (aF (v := I (worker % 4)) (h65_.at 8) (sg (bJ Tryz.func130 rfl rfl rfl ((aC0 W42 (bA hc st43.below) (worker % 4) aD).mono ?_))))))))))); rintro _ W70 ⟨cs68, fp68, rfl, hk71⟩; refine ⟨_, rfl, ?_⟩
   have st72 := St.call st43 hk71
   refine sg (aR fA st72 ?_); intro b74 W75 hb76 st77
   refine sgn (aO (cs := cs68) bM (bO (st77.get 1 rfl) rfl) rfl rfl st77 rfl ?_); intro W79 st80
   refine aB (wp_seq (wp_seq (aA (sg (aF (v := I (worker % 4)) (h65_.at 8) (sg (aF (v := I draw) (h65_.at 2) (sg (bJ Tryz.func131 rfl rfl rfl ((VictimsI W79 (worker % 4) draw aD dX).mono ?_)))))))))); rintro _ W85 ⟨v83, fp83, rfl, hk86⟩; refine ⟨_, rfl, ?_⟩
   have st87 := St.call st80 hk86
   refine sg (fK eP rfl (aI (st87.get 0 rfl)) (sg (aF (v := I 0) rfl (aB (wW (fun (f : Nat → Value) (W : World) => ∃ (cs91 : List Value) (fo92 : List Nat), Ag [(6, .pointer (some ⟨b6, 0, none⟩)), (7, .pointer (some ⟨b11, 0, none⟩)), (8, I (worker % 4)), (9, .pointer (some ⟨b74, 0, none⟩))] f ∧ St w W ([Res.own (α := List Int) v83 (cI (worker % 4) draw) fp83, Res.bx b74 cs91 34, Res.own (α := Yard) (.agg cs91.toArray) (eR (worker % 4).toNat (aZ y (worker % 4)) (cI (worker % 4) draw)) fo92, Res.bx b11 [I 0, I 0, I 0, I 0] 75, Res.bx b6 [I 0, I 0, .slice none 0 0, .slice none 0 0] 34, Res.bx b1 cs 34])) ?_ (fun f93 W94 hJ95 => ?_))))))
   ·refine wp_block (aY (fun (m : Nat) (f : Nat → Value) (W : World) => ∃ (k : Nat) (cs98 : List Value) (fo99 : List Nat), k ≤ 3 ∧ m = 3 - k ∧ Ag [(6, .pointer (some ⟨b6, 0, none⟩)), (7, .pointer (some ⟨b11, 0, none⟩)), (8, I (worker % 4)), (9, .pointer (some ⟨b74, 0, none⟩)), (40, v83), (41, I ((cI (worker % 4) draw).length : Int)), (42, I (k : Int))] f ∧ St w W ([Res.own (α := List Int) v83 (cI (worker % 4) draw) fp83, Res.bx b74 cs98 34, Res.own (α := Yard) (.agg cs98.toArray) (eR (worker % 4).toNat (aZ y (worker % 4)) ((cI (worker % 4) draw).take k)) fo99, Res.bx b11 [I 0, I 0, I 0, I 0] 75, Res.bx b6 [I 0, I 0, .slice none 0 0, .slice none 0 0] 34, Res.bx b1 cs 34])) (3 - 0) ?_ ?_)
    ·exact ⟨0, cs68, fp68, Nat.zero_le _, rfl, (h65_.put.put.put.put.put.put.put.put.put.to aE), st87⟩
    intro m100 f101 W102 hJ103
    obtain ⟨k, cs98, fo99, hcd105_0, rfl, hA105, st104⟩ := hJ103
    refine wp_seq ?_
    have hPI := PI.take hY (home := (worker % 4).toNat) hh4 (l := (cI (worker % 4) draw)) hvr k
    rw [hHN] at hPI
    obtain ⟨out, hout⟩ : ∃ o, o = eR (worker % 4).toNat (aZ y (worker % 4)) ((cI (worker % 4) draw).take k) := ⟨_, rfl⟩
    rw [← hout] at hPI st104
    have hwo := hPI.wt hY
    have hoo := hPI.ok hY
    have hol := hPI.len
    have hgh : out.shelf[(worker % 4).toNat]? = some (out.shelf.getD (worker % 4).toNat []) := getD_some aD
    have hx8 := hPI.each (worker % 4).toNat aD
    have hnow := hPI.now
    have hynow := hY.now
    refine aA (sg (bS (hA105.at 42) (hA105.at 41) (aB (wp_seq (aK rfl (fun h108p => ?_) (fun h108p => ?_))))))
    ·refine wp_skip (wp_seq (wp_block (wp_seq ?_)))
     have hq_ := eH (xs := (cI (worker % 4) draw)) (i := k) aD
     obtain ⟨o, hko⟩ := hq_
     have hor := hvr o (List.mem_of_getElem? hko)
     rw [hHN] at hor
     refine aA ?_
     have hi5551f : k < (cI (worker % 4) draw).length := (List.getElem?_eq_some_iff.1 hko).1
     have hq_ := gT (aI (st104.get 0 rfl)) (i := k) hko
     obtain ⟨b109, o109, cs109, f109, hp109, hr109, hc109, hm109⟩ := hq_
     have hk109 := hc109
     obtain ⟨rfl, rfl, hok109⟩ := hk109
     refine rn st104 3 hA105.put [] [(11, I o)] [qx hp109, qn hr109 0] aE fun f111 h111_ => (aB (wp_seq (wp_seq (aA ?_))))
     have st113 := st104.f2
     have hq_ := eB st113
     obtain ⟨v114_0, v114_1, g114_0, g114_1, he114, hok114, st115⟩ := hq_
     subst he114
     have hi95ef1 : (worker % 4).toNat < out.shelf.length := (List.getElem?_eq_some_iff.1 hgh).1
     have hq_ := gT (aI (st115.get 0 rfl)) (i := (worker % 4).toNat) hgh
     obtain ⟨b118, o118, cs118, f118, hp118, hr118, hc118, hm118⟩ := hq_
     have hk118 := hc118
     obtain ⟨v119, rfl, h120⟩ := hk118
     refine rn st115 7 h111_ [] [(52, .bool (decide (0 < ((out.shelf.getD (worker % 4).toNat []).length : Int))))] [qb 3 rfl 2, qxe hp118 (e := worker % 4) aD, qn hr118 0, ql h120, .o] aE fun f121 h121_ => (aB (aK (h121_.at 52) (fun h122p => ?_) (fun h122p => ?_)))
     ·refine wp_exit ?_
      have st125 := eN (x := out) st115.f1.f1 hoo
      have hfin : out = eR (worker % 4).toNat (aZ y (worker % 4)) (cI (worker % 4) draw) := by rw [hout]; exact (tO (by rw [← hout]; exact gt_ne h122p)).symm
      exact ⟨_, rfl, [I out.now, I out.seq, v114_0, v114_1], _, (h121_.to aE), (by rw [← hfin]; exact st125.f5.f5.f5.f3.f5.f5)⟩
     ·refine wp_skip (wp_seq ?_)
      have hemp := ng_nil h122p
      have hsw := hPI.sw (o := o) aD
      refine aA (sg (aV (cs := [I out.now, I out.seq, v114_0, v114_1]) bM rfl (h121_.at 9) (st115.get 3 rfl) rfl rfl (sg (aF (v := I o) (h121_.at 11) (sg (bJ Tryz.func130 rfl rfl rfl ((aC0 W102 (show Shape.C _ [I out.now, I out.seq, v114_0, v114_1] out _ from ⟨_, _, _, _, rfl, hok114, (aI (st115.get 0 rfl)), (aI (st115.get 1 rfl)), rfl⟩) o aD).mono ?_))))))); rintro _ W137 ⟨cs135, fp135, rfl, hk138⟩; refine ⟨_, rfl, ?_⟩
      have st139 := St.call st115 hk138
      refine sgn (aO (cs := cs135) bM (bO (st139.f4.get 1 rfl) rfl) (h121_.at 9) rfl st139.f4 rfl ?_); intro W142 st143
      refine aB (wp_seq ?_)
      have hsl4 := hsw.1
      have hgo : (aZ out o).shelf[(o).toNat]? = some ((aZ out o).shelf.getD (o).toNat []) := getD_some aD
      have hgs : (aZ out o).shelf[(worker % 4).toNat]? = some ((aZ out o).shelf.getD (worker % 4).toNat []) := getD_some aD
      have hso8 := hsw.2 (o).toNat aD
      have hsh8 := hsw.2 (worker % 4).toNat aD
      have htk8 : (((aZ out o).shelf.getD (o).toNat []).take (eU ((aZ out o).shelf.getD (o).toNat []))).length ≤ 80 := by rw [List.length_take]; omega
      refine aA ?_
      have hq_ := eB st143.f1
      obtain ⟨v146_0, v146_1, g146_0, g146_1, he146, hok146, st147⟩ := hq_
      subst he146
      have hie288b : (o).toNat < (aZ out o).shelf.length := (List.getElem?_eq_some_iff.1 hgo).1
      have hq_ := gT (aI (st147.get 0 rfl)) (i := (o).toNat) hgo
      obtain ⟨b150, o150, cs150, f150, hp150, hr150, hc150, hm150⟩ := hq_
      have hk150 := hc150
      obtain ⟨v151, rfl, h152⟩ := hk150
      refine rn st147 5 h121_.put.put.put [] [(61, v151)] [qb 2 rfl 2, qxe hp150 (e := o) aD, qn hr150 0] aE fun f153 h153_ => (sg (bF Tryz.func132 rfl (h153_.at 61) ((HalfOfI W142 h152 aD).mono ?_))); rintro _ W158 ⟨v154, fp154, v156, fp156, rfl, hk159⟩; refine ⟨_, rfl, ?_⟩
      have st160 := St.call st147 hk159
      refine rn st160 5 h153_.put [] [(12, v154), (13, v156)] [] aE fun f163 h163_ => (aB (wp_seq ?_))
      have hq_ := St.lendx (α := List Entry) aX st160.f2 (x := ((aZ out o).shelf.getD (worker % 4).toNat [])) hgs
      obtain ⟨b165, e165, pre165, cs165, post165, fi165, fr165, hPA165, hC165, st166⟩ := hq_
      have hq_ := st166.f1.uncs1
      obtain ⟨v165, he165, st171⟩ := hq_; subst he165
      refine eX 10 [9] [[], [9]] [[(0, 1)]] (w1 := W158) (rs := [Res.own (α := List Entry) v165 ((aZ out o).shelf.getD (worker % 4).toNat []) fi165, Res.bx b165 (pre165 ++ [v165] ++ post165) e165, Res.rest (α := (List Entry)) v146_0 b165 pre165 post165 (aZ out o).shelf (worker % 4).toNat fr165, Res.own (α := List Entry) v154 (((aZ out o).shelf.getD (o).toNat []).take (eU ((aZ out o).shelf.getD (o).toNat []))) fp154, Res.own (α := List Entry) v156 (((aZ out o).shelf.getD (o).toNat []).drop (eU ((aZ out o).shelf.getD (o).toNat []))) fp156, Res.own (α := List Run) v146_1 (aZ out o).runs g146_1, Res.bx b74 [I (aZ out o).now, I (aZ out o).seq, v146_0, v146_1] 34, Res.own (α := List (List Entry)) v114_0 out.shelf g114_0, Res.own (α := List Run) v114_1 out.runs g114_1, Res.own (α := List Int) v83 (cI (worker % 4) draw) fp83, Res.bx b11 [I 0, I 0, I 0, I 0] 75, Res.bx b6 [I 0, I 0, .slice none 0 0, .slice none 0 0] 34, Res.bx b1 cs 34]) (fun q => match q with | 0 => Cp.fr (ι := Unit) (fun _ => []) (fun _ => []) | _ => Cp.fr (ι := Value × List Nat) (fun ⟨v173, fp173⟩ => [v173]) (fun ⟨v173, fp173⟩ => [Res.own (α := List Entry) v173 (fD ((aZ out o).shelf.getD (worker % 4).toNat []) (((aZ out o).shelf.getD (o).toNat []).take (eU ((aZ out o).shelf.getD (o).toNat [])))) fp173])) [Pq.is (.pointer (some ⟨b74, 0 + 2, none⟩)), Pq.is (v146_0) (oW hPA165), Pq.is (I (worker % 4)), Pq.is (.pointer (some ⟨b74, 0 + 2, none⟩)), Pq.is (v146_0) (oW hPA165), Pq.is (I (worker % 4)), Pq.is (.pointer (some ⟨b165, pre165.length, none⟩)), Pq.is (v165) (Sl.yl (aI (st171.get 0 rfl))), Pq.is (v154) (Sl.yl (aI (st171.get 3 rfl))), Pq.none] mix (by rfl) (by rfl) (by rfl) ⟨(), rfl, st171, (Below.refl _ _)⟩ (by rfl) ⟨(fun f W hst hbl hd hf => aH eE ((hf 9 rfl).trans (h163_.at 9)) brq), (fun f W hst hbl hd hf => aU eG rfl (hd 0 65 rfl rfl) (hst.get 6 rfl) (i := 2) rfl rfl brq), (fun f W hst hbl hd hf => aF (v := I (worker % 4)) ((hf 8 rfl).trans (h163_.at 8)) brq), (fun f W hst hbl hd hf => aH eE ((hf 9 rfl).trans (h163_.at 9)) brq), (fun f W hst hbl hd hf => aU eG rfl (hd 3 68 rfl rfl) (hst.get 6 rfl) (i := 2) rfl rfl brq), (fun f W hst hbl hd hf => aF (v := I (worker % 4)) ((hf 8 rfl).trans (h163_.at 8)) brq), (fun f W hst hbl hd hf => aN eM (hd 4 69 rfl rfl) hPA165 (hd 5 70 rfl rfl) aD brq), (fun f W hst hbl hd hf => gY iS rfl (hd 6 71 rfl rfl) (hst.get 1 rfl) (i := 0) rfl rfl brq), (fun f W hst hbl hd hf => aF (v := v154) ((hf 12 rfl).trans (h163_.at 12)) brq), ⟨rfl, ?_, True.intro⟩, trivial⟩ ?_
      ·intro f W hC hd hf
       have hC_ := hC
       obtain ⟨_, hu, st172, hbl⟩ := hC_
       try dsimp only [cap_, dP] at st172
       refine (bJ Tryz.func133 rfl (hd 7 72 rfl rfl) (hd 8 73 rfl rfl) ((MergedI W (aI (st172.get 0 rfl)) (aI (st172.get 3 rfl)) aD aD).mono ?_)); rintro _ W175 ⟨v173, fp173, rfl, hk176⟩; refine ⟨_, rfl, ?_⟩
       have st177 := St.call st172 hk176
       exact ⟨⟨(v173, fp173), (ce rfl rfl), st177, (hbl.trans (Below.mono hk176.below hbl.size))⟩, Sl.yl (aI (st177.get 0 rfl))⟩
      intro f179 W180 hC hv181 hf182
      have hC_ := hC
      obtain ⟨⟨v173, fp173⟩, hu, st183, hbl184⟩ := hC_
      try dsimp only [cap_, dP] at st183
      have hu185 : f179 74 = v173 := congrArg (fun l => l.getD 0 undef) hu
      refine sg (aN eM (hv181 1 66 aX rfl) hPA165 (hv181 2 67 aX rfl) aD ?_)
      have st189 := st183.f2
      refine sgn (bE (i := 0) (v := v173) (C' := [v173]) aE rfl hu185 (Sl.cells (aI (st189.get 1 rfl))) (Sl.one (aI (st189.get 1 rfl))) st189 rfl bP rfl ?_); intro W190 st191
      refine aB ?_
      have st193 := st191.f1.cs1
      have hq_ := St.give (α := List Entry) st193.f3.f1.f2
      obtain ⟨fp197, st198⟩ := hq_
      have hgo2 : ((aZ out o).shelf.set (worker % 4).toNat (fD ((aZ out o).shelf.getD (worker % 4).toNat []) (((aZ out o).shelf.getD (o).toNat []).take (eU ((aZ out o).shelf.getD (o).toNat [])))))[(o).toNat]? = some ((aZ out o).shelf.getD (o).toNat []) := by rw [List.getElem?_set_ne aD]; exact hgo
      have hq_ := St.lendx (α := List Entry) aX st198 (x := ((aZ out o).shelf.getD (o).toNat [])) hgo2
      obtain ⟨b199, e199, pre199, cs199, post199, fi199, fr199, hPA199, hC199, st200⟩ := hq_
      have hq_ := st200.f1.uncs1
      obtain ⟨v199, he199, st205⟩ := hq_; subst he199
      refine aA (rn st205 5 (Ag.cons (show f179 6 = .pointer (some ⟨b6, 0, none⟩) from ((hf182 6 rfl).trans (h163_.at 6))) (Ag.cons (show f179 7 = .pointer (some ⟨b11, 0, none⟩) from ((hf182 7 rfl).trans (h163_.at 7))) (Ag.cons (show f179 8 = I (worker % 4) from ((hf182 8 rfl).trans (h163_.at 8))) (Ag.cons (show f179 9 = .pointer (some ⟨b74, 0, none⟩) from ((hf182 9 rfl).trans (h163_.at 9))) (Ag.cons (show f179 11 = I o from ((hf182 11 rfl).trans (h163_.at 11))) (Ag.cons (show f179 13 = v156 from ((hf182 13 rfl).trans (h163_.at 13))) (Ag.cons (show f179 40 = v83 from ((hf182 40 rfl).trans (h163_.at 40))) (Ag.cons (show f179 41 = I ((cI (worker % 4) draw).length : Int) from ((hf182 41 rfl).trans (h163_.at 41))) (Ag.cons (show f179 42 = I (k : Int) from ((hf182 42 rfl).trans (h163_.at 42))) Ag.nil))))))))).put [] [(79, v156), (80, .pointer (some ⟨b199, pre199.length, none⟩))] [qb 7 rfl 2, qxe hPA199 (e := o) aD] aE fun f207 h207_ => (sgn (bE (i := 0) (v := v156) (C' := [v156]) aE (h207_.at 80) (h207_.at 79) (Sl.cells (aI (st205.f1.get 5 rfl))) (Sl.one (aI (st205.f1.get 5 rfl))) st205.f1 rfl bP rfl ?_))); intro W209 st210
      refine aB (aA (sg (bY (h207_.at 42) rfl dX (sg (aF (v := I ((k : Int) + 1)) rfl (aB ?_))))))
      have st214 := st210.f5.cs1
      have hq_ := St.give (α := List Entry) st214.f3.f1.f2
      obtain ⟨fp218, st219⟩ := hq_
      have st222 := eN (x := (xW (aZ out o) (worker % 4).toNat (o).toNat)) st219.f4.f1 (by assumption)
      exact ⟨_, 3 - (k + 1), aD, rfl, k + 1, [I (aZ out o).now, I (aZ out o).seq, v146_0, v146_1], _, aD, rfl, (h207_.put.put.to aE), (by rw [vO hko (by rw [← hout]; exact hemp), ← hout]; exact st222.f10.f10.f10.f3.f7.f10.d6.d6.d6.d6.d6)⟩
    ·refine wp_exit ?_
     have hfin : out = eR (worker % 4).toNat (aZ y (worker % 4)) (cI (worker % 4) draw) := by rw [hout]; exact tP aD
     exact ⟨_, rfl, cs98, fo99, (hA105.put.to aE), (by rw [← hfin]; exact st104)⟩
   obtain ⟨cs91, fo92, hA97, st96⟩ := hJ95
   refine wp_seq ?_
   have hPI := PI.all hY hh4 hvr (PI.start hY hh4)
   rw [hHN] at hPI
   obtain ⟨out, hout⟩ : ∃ o, o = eR (worker % 4).toNat (aZ y (worker % 4)) (cI (worker % 4) draw) := ⟨_, rfl⟩
   rw [← hout] at hPI st96
   have hwo := hPI.wt hY
   have hoo := hPI.ok hY
   have hol := hPI.len
   have hgh : out.shelf[(worker % 4).toNat]? = some (out.shelf.getD (worker % 4).toNat []) := getD_some aD
   have hx8 := hPI.each (worker % 4).toNat aD
   have hnow := hPI.now
   have hynow := hY.now
   refine aA ?_
   have st236 := st96.f2
   have hq_ := eB st236
   obtain ⟨v237_0, v237_1, g237_0, g237_1, he237, hok237, st238⟩ := hq_
   subst he237
   have hi95ef1 : (worker % 4).toNat < out.shelf.length := (List.getElem?_eq_some_iff.1 hgh).1
   have hq_ := gT (aI (st238.get 0 rfl)) (i := (worker % 4).toNat) hgh
   obtain ⟨b241, o241, cs241, f241, hp241, hr241, hc241, hm241⟩ := hq_
   have hk241 := hc241
   obtain ⟨v242, rfl, h243⟩ := hk241
   refine rn st238 5 hA97 [] [(87, v242)] [qb 3 rfl 2, qxe hp241 (e := worker % 4) aD, qn hr241 0] aE fun f244 h244_ => (sg (bF Tryz.func134 rfl (h244_.at 87) ((TakeI W94 h243 aD).mono ?_))); rintro _ W247 ⟨v245, fp245, rfl, hokf250, hk248⟩; refine ⟨_, rfl, ?_⟩
   have st249 := St.call st238 hk248
   refine rn st249 4 h244_.put [] [(89, .agg #[I ((out.shelf.getD (worker % 4).toNat []).headD gJ).prio, I ((out.shelf.getD (worker % 4).toNat []).headD gJ).seq, I ((out.shelf.getD (worker % 4).toNat []).headD gJ).run, I ((out.shelf.getD (worker % 4).toNat []).headD gJ).task]), (90, v245), (91, .bool (!decide ((out.shelf.getD (worker % 4).toNat []) = [])))] [] aE fun f252 h252_ => (sg (aR gX st249 ?_)); intro b253 W254 hb255 st256
   refine sgn (aM (cs := [I ((out.shelf.getD (worker % 4).toNat []).headD gJ).prio, I ((out.shelf.getD (worker % 4).toNat []).headD gJ).seq, I ((out.shelf.getD (worker % 4).toNat []).headD gJ).run, I ((out.shelf.getD (worker % 4).toNat []).headD gJ).task]) (C' := [I ((out.shelf.getD (worker % 4).toNat []).headD gJ).prio, I ((out.shelf.getD (worker % 4).toNat []).headD gJ).seq, I ((out.shelf.getD (worker % 4).toNat []).headD gJ).run, I ((out.shelf.getD (worker % 4).toNat []).headD gJ).task]) aE rfl (h252_.at 89) (aG rfl (aG rfl (aG rfl (aG rfl bK)))) st256 bP rfl ?_); intro W258 st259
   refine sg (aC (v := v245) (h252_.at 90) (sg (aC (v := .bool (!decide ((out.shelf.getD (worker % 4).toNat []) = []))) (h252_.at 91) (aB (wp_seq (wp_seq (aA (sg (aF (v := .bool (!decide ((out.shelf.getD (worker % 4).toNat []) = []))) rfl (sg (nU rfl (aB (cT rfl (fun h264 => ?_) (fun h264 => ?_))))))))))))))
   ·refine wp_seq ?_
    have hx0 : (out.shelf.getD (worker % 4).toNat []) = [] := dne h264
    refine aA (sg (aV (cs := [I out.now, I out.seq, v237_0, v237_1]) bM rfl (h252_.at 9) (st259.get 5 rfl) rfl rfl (sg (eJ (vs := [(0, I 9)]) (cs := [I 9, I 0, I 0, I 0]) (cY (v := I 9) rfl eA) aE ?_))))
    have st267 := st259.f7
    refine sgn (aM (cs := [I out.now, I out.seq, v237_0, v237_1]) (C' := [I out.now, I out.seq, v237_0, v237_1]) aE (h252_.at 6) rfl (aG rfl (aG rfl (aG (Sl.one (aI (st267.get 3 rfl))) (aG (Sl.one (aI (st267.get 4 rfl))) bK)))) st267 bP rfl ?_); intro W268 st269
    refine sgn (aM (cs := [I 9, I 0, I 0, I 0]) (C' := [I 9, I 0, I 0, I 0]) aE (h252_.at 7) rfl (aG rfl (aG rfl (aG rfl (aG rfl bK)))) st269.f7 bP rfl ?_); intro W271 st272
    refine aB (wr (sJ bM rfl fZ rfl Tryz.results69 (h252_.at 6) (st272.get 1 rfl) rfl (h252_.at 7) (st272.get 0 rfl) rfl ?_))
    have st275 := eN (x := out) st272.f5.f5 hoo
    have hfe : aP y worker draw = (out, ⟨9, 0, 0, 0⟩) := by unfold aP; rw [if_neg (by rw [(bG h21)]; decide), if_neg (by rw [(bG h45)]; decide), ← hout]; exact uD hx0
    rw [hfe]
    exact ⟨_, _, rfl, (by simp only [Reply.ok, I64]; omega), st275.d1.d1.d1.d1.d1.d1.d1⟩
   ·refine wp_skip (wp_seq ?_)
    have hq_ := aA2 (dnf h264)
    obtain ⟨e, rest, hxe⟩ := hq_
    have hhd : (out.shelf.getD (worker % 4).toNat []).headD gJ = e := by rw [hxe]; rfl
    have hdr : (out.shelf.getD (worker % 4).toNat []).drop 1 = rest := by rw [hxe]; rfl
    have hrl : rest.length ≤ 80 := by have h_ := hx8; rw [hxe] at h_; simp only [List.length_cons] at h_; omega
    have heo : e.ok := by rw [← hhd]; exact hokf250
    have hq_ := yE (hPI.fresh e (by rw [hxe]; exact List.mem_cons_self))
    obtain ⟨k, r, t, hix, hry, h0, hti, h2⟩ := hq_
    have hixo : dY out e.run = some k := (tJ hPI.runs _).trans hix
    have hro : out.runs[k]? = some r := by rw [hPI.runs]; exact hry
    have hRI := (hY.run k r hry).1
    have htr := hRI.tries hti
    have hwy := hPI.wtS hY hrl
    rw [hhd, hdr] at st259
    have st284 := st259.f2
    have hq_ := St.lendx (α := List Entry) aX st284 (x := (out.shelf.getD (worker % 4).toNat [])) hgh
    obtain ⟨b285, e285, pre285, cs285, post285, fi285, fr285, hPA285, hC285, st286⟩ := hq_
    have hq_ := st286.f1.uncs1
    obtain ⟨v285, he285, st291⟩ := hq_; subst he285
    refine aA (rn st291 5 h252_.put.put.put.put.put [] [(99, v245), (100, .pointer (some ⟨b285, pre285.length, none⟩))] [qb 7 rfl 2, qxe hPA285 (e := worker % 4) aD] aE fun f293 h293_ => (sgn (bE (i := 0) (v := v245) (C' := [v245]) aE (h293_.at 100) (h293_.at 99) (Sl.cells (aI (st291.f1.get 4 rfl))) (Sl.one (aI (st291.f1.get 4 rfl))) st291.f1 rfl bP rfl ?_))); intro W295 st296
    refine aB (wp_seq ?_)
    have st298 := st296.f4.cs1
    have hq_ := St.give (α := List Entry) st298.f3.f1.f2
    obtain ⟨fp302, st303⟩ := hq_
    have hib747c : k < out.runs.length := (List.getElem?_eq_some_iff.1 hro).1
    have hq_ := gT (aI (st303.get 3 rfl)) (i := k) hro
    obtain ⟨b305, o305, cs305, f305, hp305, hr305, hc305, hm305⟩ := hq_
    refine rd st303 h293_ [] [(17, .pointer (some ⟨b305, o305, none⟩))] [qb 5 rfl 3, qb 5 rfl 0, qb 2 rfl 2, qc Tryz.func98 rfl (fun W s b => rI W (show Shape.C _ [I out.now, I out.seq, v237_0, v237_1] (⟨out.now, out.seq, (out.shelf).set (worker % 4).toNat rest, out.runs⟩ : Yard) _ from ⟨_, _, _, _, rfl, eS, (aI (s.get 0 rfl)), (aI (s.get 3 rfl)), rfl⟩) e.run (show Yard.wt _ ≤ _ from Nat.le_trans hwy aD) hixo), qx hp305] aE aE fun f306 W307 h306_ st308 hb309 => (wp_seq ?_)
    have st310 := st308.f3
    have hq_ := St.lendx (α := Run) aX st310 (x := r) hro
    obtain ⟨b311, e311, pre311, cs311, post311, fi311, fr311, hPA311, hC311, st312⟩ := hq_
    have st317 := st312.f1.uncs rfl
    have hq_ := lV st317
    obtain ⟨v318_0, v318_1, g318_0, g318_1, he318, hok318, st319⟩ := hq_
    subst he318
    have hq_ := St.lendx (α := Task) aX st319.f1 (x := t) hti
    obtain ⟨b323, e323, pre323, cs323, post323, fi323, fr323, hPA323, hC323, st324⟩ := hq_
    obtain ⟨he323, hf323, hok323⟩ := hC323; have he323 : _ = [I t.state, I t.need, I t.try_, I t.until_] := he323; subst he323
    refine rd st324.d1 (Ag.up (t := 17) (v := .pointer (some ⟨b311, pre311.length, none⟩)) ((h306_.at 17).trans (PA_eq hp305 hPA311)) h306_) [] [(18, .pointer (some ⟨b323, pre323.length, none⟩))] [qp 3 rfl 7, qb 7 rfl 3, qxe hPA323 (e := e.task) aD] aE aE fun f330 W331 h330_ st332 hb333 => (wp_seq (aA (rn st332 3 h330_ [] [(117, .pointer (some ⟨b323, pre323.length, none⟩))] [] aE fun f335 h335_ => (sgn (bE (i := 0) (v := I 3) (C' := [I 3, I t.need, I t.try_, I t.until_]) aE (h335_.at 117) rfl rfl rfl st332 rfl bP rfl ?_))))); intro W336 st337
    refine aB (wp_seq (aA (lw h335_ [(6, .pointer (some ⟨b6, 0, none⟩)), (7, .pointer (some ⟨b11, 0, none⟩)), (9, .pointer (some ⟨b74, 0, none⟩)), (14, .pointer (some ⟨b253, 0, none⟩)), (17, .pointer (some ⟨b311, pre311.length, none⟩)), (18, .pointer (some ⟨b323, pre323.length, none⟩))] aE fun h340_ => (rn st337 7 h340_ [] [(122, I (t.try_ + 1)), (124, .pointer (some ⟨b323, pre323.length + 2, none⟩))] [qp 0 rfl 2, qad t.try_ 1] aE fun f339 h339_ => (sgn (bE (i := 2) (v := I (t.try_ + 1)) (C' := [I 3, I t.need, I (t.try_ + 1), I t.until_]) aE (h339_.at 124) (h339_.at 122) rfl rfl st337 rfl bP rfl ?_)))))); intro W341 st342
    refine aB (wp_seq (rk 11 st342 h339_ [] [(133, I (out.now + r.plan.wait)), (135, .pointer (some ⟨b323, pre323.length + 3, none⟩))] [qb 9 rfl 0, qp 3 rfl 3, qad out.now r.plan.wait] aE aE fun f344 W345 h344_ st346 hb347 => (sgn (bE (i := 3) (v := I (out.now + r.plan.wait)) (C' := [I 3, I t.need, I (t.try_ + 1), I (out.now + r.plan.wait)]) aE (h344_.at 135) (h344_.at 133) rfl rfl st346 rfl bP rfl ?_)))); intro W348 st349
    refine aB (wp_seq (wX 11 [10] (fun q => match q with | 0 => Res.bx b6 [I 0, I 0, .slice none 0 0, .slice none 0 0] 34 | _ => Res.bx b6 [I out.now, I out.seq, v237_0, v237_1] 34) [Pl.is (.agg #[I out.now, I out.seq, v237_0, v237_1]), Pl.is (.pointer (some ⟨b253, 0 + 2, none⟩)), Pl.is (I e.run), Pl.is (.pointer (some ⟨b253, 0 + 3, none⟩)), Pl.is (I e.task), Pl.is (.pointer (some ⟨b323, pre323.length, none⟩)), Pl.is (.pointer (some ⟨b323, pre323.length, none⟩)), Pl.is (.pointer (some ⟨b323, pre323.length + 2, none⟩)), Pl.is (I (t.try_ + 1)), Pl.is (.agg #[I 0, I e.run, I e.task, I (t.try_ + 1)]), Pl.off] mix (by rfl) (by rfl) (by rfl) st349.f11 ⟨fun _ _ _ h => h, fun _ _ _ h => h, fun _ _ _ h => h, fun _ _ _ h => h, fun _ _ _ h => h, fun _ _ _ h => h, fun _ _ _ h => h, fun _ _ _ h => h, fun _ _ _ h => h, fun _ _ _ h => h, fun _ _ _ h => h, trivial⟩ ⟨(fun f W r_ hst hd hf => aV (cs := [I out.now, I out.seq, v237_0, v237_1]) bM rfl ((hf 9 rfl).trans (h344_.at 9)) (hst.get 10 rfl) rfl rfl ⟨hst, rfl⟩), (fun f W r_ hst hd hf => aH uI ((hf 14 rfl).trans (h344_.at 14)) ⟨hst, rfl⟩), (fun f W r_ hst hd hf => aU eF rfl (hd 1 137 rfl rfl) (hst.get 8 rfl) (i := 2) rfl rfl ⟨hst, rfl⟩), (fun f W r_ hst hd hf => aH mQ ((hf 14 rfl).trans (h344_.at 14)) ⟨hst, rfl⟩), (fun f W r_ hst hd hf => aU eF rfl (hd 3 139 rfl rfl) (hst.get 8 rfl) (i := 3) rfl rfl ⟨hst, rfl⟩), (fun f W r_ hst hd hf => aF (v := .pointer (some ⟨b323, pre323.length, none⟩)) ((hf 18 rfl).trans (h344_.at 18)) ⟨hst, rfl⟩), (fun f W r_ hst hd hf => fW (hd 5 141 rfl rfl) ⟨hst, rfl⟩), (fun f W r_ hst hd hf => aH wF (hd 6 142 rfl rfl) ⟨hst, rfl⟩), (fun f W r_ hst hd hf => gY eF rfl (hd 7 143 rfl rfl) (hst.get 1 rfl) (i := 2) rfl rfl ⟨hst, rfl⟩), (fun f W r_ hst hd hf => eJ (vs := [(1, I e.run), (2, I e.task), (3, I (t.try_ + 1))]) (cs := [I 0, I e.run, I e.task, I (t.try_ + 1)]) (cY (v := I e.run) (hd 2 138 rfl rfl) (cY (v := I e.task) (hd 4 140 rfl rfl) (cY (v := I (t.try_ + 1)) (hd 8 144 rfl rfl) eA))) aE ⟨hst, rfl⟩), (⟨rfl, fun f W hst hd hf => aM (cs := [I out.now, I out.seq, v237_0, v237_1]) (C' := [I out.now, I out.seq, v237_0, v237_1]) aE ((hf 6 rfl).trans (h344_.at 6)) (hd 0 136 rfl rfl) (aG rfl (aG rfl (aG (Sl.one (aI (hst.get 6 rfl))) (aG (vA hPA311) bK)))) hst bP rfl (fun W2 st2 => ⟨st2, rfl⟩)⟩), trivial⟩ ?_))
    intro f351 W352 st353 hv355 hf356
    refine sgn (aM (cs := [I 0, I e.run, I e.task, I (t.try_ + 1)]) (C' := [I 0, I e.run, I e.task, I (t.try_ + 1)]) aE ((hf356 7 rfl).trans (h344_.at 7)) (hv355 9 145 aX rfl) (aG rfl (aG rfl (aG rfl (aG rfl bK)))) st353.f11 bP rfl ?_); intro W359 st360
    refine aB (wr (sJ bM rfl fZ rfl Tryz.results69 ((hf356 6 rfl).trans (h344_.at 6)) (st360.get 1 rfl) rfl ((hf356 7 rfl).trans (h344_.at 7)) (st360.get 0 rfl) rfl ?_))
    have st361 := st360.cs0 (cs := [I 3, I t.need, I (t.try_ + 1), I (out.now + r.plan.wait)]) (x := (⟨3, t.need, t.try_ + 1, out.now + r.plan.wait⟩ : Task)) ⟨rfl, rfl, (by have h_ := hok323; simp only [Task.ok, I64] at h_ ⊢; omega)⟩
    have hq_ := St.give (α := Task) st361.f4.f1.f4
    obtain ⟨fp366, st367⟩ := hq_
    have st369 := iH (x := (gZ r (e.task).toNat t out.now)) st367.f3 (show Run.ok _ from hRI.small.1)
    have st371 := st369.cs rfl
    have hq_ := St.give (α := Run) st371.f4.f1.f4
    obtain ⟨fp375, st376⟩ := hq_
    have st378 := eN (x := (⟨out.now, out.seq, out.shelf.set (worker % 4).toNat rest, out.runs.set k (gZ r (e.task).toNat t out.now)⟩ : Yard)) st376.f3 (show Yard.ok _ from hoo)
    try dsimp only at st378
    have st380 := st378.d1
    have st386 := st380.d1.d1.d1.d1.d1.d1
    have hfe : aP y worker draw = ((⟨out.now, out.seq, out.shelf.set (worker % 4).toNat rest, out.runs.set k (gZ r (e.task).toNat t out.now)⟩ : Yard), ⟨0, e.run, e.task, t.try_ + 1⟩) := by unfold aP; rw [if_neg (by rw [(bG h21)]; decide), if_neg (by rw [(bG h45)]; decide), ← hout]; exact vZ hxe hixo hro hti
    rw [hfe]
    exact ⟨_, _, rfl, (by have h1_ := heo; simp only [Entry.ok, Reply.ok, I64] at *; omega), st386⟩
theorem StartedS (w : World) {r : Run} {cs : List Value} {fp : List Nat} (hc : Shape.C w cs r fp) (task now : Int) {t : Task} (h0 : 0 ≤ task) (hti : r.tasks[(task).toNat]? = some t) (hnw : 0 ≤ now ∧ now ≤ 999999980) (hRI : RunIs r) :
  Calls Tryz.prog 126 #[.agg cs.toArray, I task, I now] w fun e w' => ∃ (cs' : List Value) (fp' : List Nat), e = .returned (.agg cs'.toArray) ∧ St w w' [Res.own (.agg cs'.toArray) (gZ r (task).toNat t now) fp'] := by
 have htr := hRI.tries hti
 have hrw := hRI.wt
 have hok_t : t.ok := by have h_ := hc; obtain ⟨v1, v2, f1, f2, _, _, _, h2, _⟩ := h_; have hq_ := gT h2 hti; obtain ⟨_, _, _, _, _, _, hq2, _⟩ := hq_; exact hq2.2.2
 refine jX Tryz.func126 rfl Tryz.ntmps126 aX (wp_seq (aA (sg (aJ (cs := cs) rfl (St.start w) ?_)))); intro b1 W2 hb3 st4
 refine sg (aR jV st4 ?_); intro b6 W7 hb8 st9
 refine aB (wp_seq (aA (sg (bB eC rfl rfl (st9.get 1 rfl) (Shape.len hc) (sg (bF Tryz.func136 rfl rfl ((vB W7 (bA hc st9.below) aD).mono ?_))))))); rintro _ W15 ⟨cs13, fp13, rfl, hk16⟩; refine ⟨_, rfl, ?_⟩
 have st17 := St.call st9 hk16
 refine sg (aR jV st17 ?_); intro b19 W20 hb21 st22
 refine sgn (aO (cs := cs13) eC (bO (st22.get 1 rfl) rfl) rfl rfl st22 rfl ?_); intro W24 st25
 refine aB (wp_seq (aA ?_))
 have hq_ := lV st25.f1
 obtain ⟨v28_0, v28_1, g28_0, g28_1, he28, hok28, st29⟩ := hq_
 subst he28
 have hi653cf : (task).toNat < r.tasks.length := (List.getElem?_eq_some_iff.1 hti).1
 have hq_ := gT (aI (st29.get 1 rfl)) (i := (task).toNat) hti
 obtain ⟨b32, o32, cs32, f32, hp32, hr32, hc32, hm32⟩ := hq_
 refine rn st29 5 Ag.nil.put.put.put.put.put.put.put.put [] [(15, .agg cs32.toArray)] [qb 2 rfl 7, qxe hp32 (e := task) aD, qtw hr32 (Below.refl _ _) (Shape.len hc32)] aE fun f33 h33_ => (sg (aR kA st29 ?_)); intro b34 W35 hb36 st37
 refine sgn (aO (cs := cs32) kG hc32 rfl (h33_.at 15) st37 rfl ?_); intro W39 st40
 refine aB (wp_seq (aA (sg (aH iB rfl ?_))))
 have hk43 := hc32
 obtain ⟨he43, rfl, hok43⟩ := hk43
 have he43 : _ = [I t.state, I t.need, I t.try_, I t.until_] := he43
 subst he43
 refine sgn (aQ (v := I 3) (C' := [I 3, I t.need, I t.try_, I t.until_]) aE rfl rfl rfl rfl st40 bP rfl ?_); intro W44 st45
 refine aB (wp_seq (aA (rn st45 4 h33_.put.put [] [(19, I (t.try_ + 1)), (20, .pointer (some ⟨b34, 2, none⟩))] [qb 0 rfl 2, qad t.try_ 1] aE fun f47 h47_ => (sgn (aQ (v := I (t.try_ + 1)) (C' := [I 3, I t.need, I (t.try_ + 1), I t.until_]) aE (h47_.at 20) (h47_.at 19) rfl rfl st45 bP rfl ?_))))); intro W48 st49
 refine aB (wp_seq (aA ?_))
 have hk51 := hc
 obtain ⟨v51_0, v51_1, g51_0, g51_1, rfl, hok51, h51_0, h51_1, rfl⟩ := hk51
 refine rn st49 6 h47_ [] [(25, I (now + r.plan.wait)), (26, .pointer (some ⟨b34, 3, none⟩))] [qb 5 rfl 3, qad now r.plan.wait] aE fun f52 h52_ => (sgn (aQ (v := I (now + r.plan.wait)) (C' := [I 3, I t.need, I (t.try_ + 1), I (now + r.plan.wait)]) aE (h52_.at 26) (h52_.at 25) rfl rfl st49 bP rfl ?_)); intro W53 st54
 refine aB (wp_seq ?_)
 have hq_ := St.lendx (α := Task) aX st54.f2 (x := t) hti
 obtain ⟨b56, e56, pre56, cs56, post56, fi56, fr56, hPA56, hC56, st57⟩ := hq_
 obtain ⟨he56, hf56, hok56⟩ := hC56; have he56 : _ = [I t.state, I t.need, I t.try_, I t.until_] := he56; subst he56
 refine aA (lw h52_ [(1, I task), (6, .pointer (some ⟨b6, 0, none⟩)), (7, .pointer (some ⟨b19, 0, none⟩)), (8, .pointer (some ⟨b34, 0, none⟩))] aE fun h64_ => (rn st57.d1 5 h64_ [] [(30, .agg #[I 3, I t.need, I (t.try_ + 1), I (now + r.plan.wait)]), (31, .pointer (some ⟨b56, pre56.length, none⟩))] [qb 4 rfl 7, qb 2 rfl 0, qxe hPA56 (e := task) aD] aE fun f63 h63_ => (sgn (fC (i := 0) (cs := [I 3, I t.need, I (t.try_ + 1), I (now + r.plan.wait)]) (C' := [I 3, I t.need, I (t.try_ + 1), I (now + r.plan.wait)]) aE (h63_.at 31) (h63_.at 30) (aG rfl (aG rfl (aG rfl (aG rfl bK)))) st57.d1 rfl bP rfl ?_)))); intro W65 st66
 refine aB (wp_seq ?_)
 have st67 := st66.cs0 (cs := [I 3, I t.need, I (t.try_ + 1), I (now + r.plan.wait)]) (x := (⟨3, t.need, t.try_ + 1, now + r.plan.wait⟩ : Task)) ⟨rfl, rfl, (by have h_ := hok_t; simp only [Task.ok, I64] at h_ ⊢; omega)⟩
 have hq_ := St.give (α := Task) st67.f2.f1.f2
 obtain ⟨fp72, st73⟩ := hq_
 refine aA (sg (aV (cs := [I r.id, I r.plan.prio, I r.plan.most, I r.plan.wait, I r.plan.tasks, v28_0, I r.state, v28_1]) eC rfl (h63_.at 7) (st73.get 3 rfl) rfl rfl (sgn (aM (cs := [I r.id, I r.plan.prio, I r.plan.most, I r.plan.wait, I r.plan.tasks, v28_0, I r.state, v28_1]) (C' := [I r.id, I r.plan.prio, I r.plan.most, I r.plan.wait, I r.plan.tasks, v28_0, I r.state, v28_1]) aE (h63_.at 6) rfl (aG rfl (aG rfl (aG rfl (aG rfl (aG rfl (aG (Sl.one (aI (st73.f4.get 3 rfl))) (aG rfl (aG (Sl.one (aI (st73.f4.get 1 rfl))) bK)))))))) st73.f4 bP rfl ?_)))); intro W77 st78
 refine aB (wr (eO eC rfl Tryz.results126 (h63_.at 6) (st78.get 0 rfl) rfl ?_))
 have st81 := iH (x := (gZ r (task).toNat t now)) st78.f1.f3 (show Run.ok _ from hRI.small.1)
 exact ⟨_, _, rfl, st81.d1.d1.d1.d1⟩
theorem PollS (w : World) {y : Yard} {cs : List Value} {fp : List Nat} (hc : Shape.C w cs y fp) (worker draw : Int) (hw : y.wt ≤ 1048576) (hdw : I64 draw) :
  Calls Tryz.prog 66 #[.agg cs.toArray, I worker, I draw] w fun e w' => ∃ (cs' : List Value) (fp' : List Nat), e = .returned (.tuple #[.agg cs'.toArray, .agg #[I (aP y worker draw).2.code, I (aP y worker draw).2.run, I (aP y worker draw).2.task, I (aP y worker draw).2.try_]]) ∧ (aP y worker draw).2.ok ∧ St w w' [Res.own (.agg cs'.toArray) (aP y worker draw).1 fp'] := by
 have hdw2 := hdw
 unfold I64 at hdw2
 refine jX Tryz.func66 rfl Tryz.ntmps66 aX (wp_seq (aA (sg (aJ (cs := cs) rfl (St.start w) ?_)))); intro b1 W2 hb3 st4
 refine sg (aR fA st4 ?_); intro b6 W7 hb8 st9
 refine sg (aR iV st9 ?_); intro b11 W12 hb13 st14
 refine aB (wp_seq (wp_seq (aA (rc st14 3 Ag.nil.put.put.put.put.put.put [] [(20, .bool (!(dR y)))] [qw 2 rfl (Shape.len hc), qc Tryz.func42 rfl (fun W s b => oM W (bA hc s.below) aD), .o] aE fun f17 W18 h17_ st19 hb20 => (aB (cT (h17_.at 20) (fun h21 => ?_) (fun h21 => ?_)))))))
 ·refine wp_seq (aA (sg (bB bM rfl (h17_.at 3) (st19.get 2 rfl) (Shape.len hc) (sg (bF Tryz.func71 rfl rfl ((mE W18 (bA hc st19.below) aD).mono ?_)))))); rintro _ W26 ⟨cs24, fp24, rfl, hk27⟩; refine ⟨_, rfl, ?_⟩
  have st28 := St.call st19 hk27
  refine sg (eJ (vs := [(0, I 8)]) (cs := [I 8, I 0, I 0, I 0]) (cY (v := I 8) rfl eA) aE (sgn (aO (cs := cs24) bM (bO (st28.f2.get 1 rfl) rfl) (h17_.at 6) rfl st28.f2 rfl ?_))); intro W31 st32
  refine sgn (aM (cs := [I 8, I 0, I 0, I 0]) (C' := [I 8, I 0, I 0, I 0]) aE (h17_.at 7) rfl (aG rfl (aG rfl (aG rfl (aG rfl bK)))) st32.f2 bP rfl ?_); intro W34 st35
  refine aB (wr (sJ bM rfl fZ rfl Tryz.results66 (h17_.at 6) (st35.get 1 rfl) (Shape.len (bO (st35.get 2 rfl) rfl)) (h17_.at 7) (st35.get 0 rfl) rfl ?_))
  have hfe : aP y worker draw = (y, ⟨8, 0, 0, 0⟩) := by unfold aP; rw [if_pos (by rw [(aW h21)]; decide)]
  rw [hfe]
  exact ⟨_, _, rfl, (by simp only [Reply.ok, I64]; omega), st35.f2.d1.d1.d1⟩
 ·refine wp_skip (wp_seq (wp_seq (aA (rc st19 3 h17_ [] [(26, .bool (!(inB worker 0 99)))] [qc Tryz.func43 rfl (fun W s b => cN W worker 0 99), .o] aE fun f41 W42 h41_ st43 hb44 => (aB (cT (h41_.at 26) (fun h45 => ?_) (fun h45 => ?_)))))))
  ·have h45p := cJ (aW h45)
   refine wp_seq (aA (sg (bB bM rfl (h41_.at 3) (st43.get 2 rfl) (Shape.len hc) (sg (bF Tryz.func71 rfl rfl ((mE W42 (bA hc st43.below) aD).mono ?_)))))); rintro _ W50 ⟨cs48, fp48, rfl, hk51⟩; refine ⟨_, rfl, ?_⟩
   have st52 := St.call st43 hk51
   refine sg (eJ (vs := [(0, I 5)]) (cs := [I 5, I 0, I 0, I 0]) (cY (v := I 5) rfl eA) aE (sgn (aO (cs := cs48) bM (bO (st52.f2.get 1 rfl) rfl) (h41_.at 6) rfl st52.f2 rfl ?_))); intro W55 st56
   refine sgn (aM (cs := [I 5, I 0, I 0, I 0]) (C' := [I 5, I 0, I 0, I 0]) aE (h41_.at 7) rfl (aG rfl (aG rfl (aG rfl (aG rfl bK)))) st56.f2 bP rfl ?_); intro W58 st59
   refine aB (wr (sJ bM rfl fZ rfl Tryz.results66 (h41_.at 6) (st59.get 1 rfl) (Shape.len (bO (st59.get 2 rfl) rfl)) (h41_.at 7) (st59.get 0 rfl) rfl ?_))
   have hfe : aP y worker draw = (y, ⟨5, 0, 0, 0⟩) := by unfold aP; rw [if_neg (by rw [(bG h21)]; decide), if_pos (by rw [(aW h45)]; decide)]
   rw [hfe]
   exact ⟨_, _, rfl, (by simp only [Reply.ok, I64]; omega), st59.f2.d1.d1.d1⟩
  ·have h45p := inB_iff'.1 (bG h45)
   refine wp_skip (wp_seq ?_)
   have hY := wT (bG h21)
   have hwk := inB_iff'.1 (bG h45)
   have hHN : (((worker % 4).toNat : Nat) : Int) = (worker % 4) := by omega
   have hh4 : (worker % 4).toNat < 4 := by omega
   have hvr : ∀ o ∈ (cI (worker % 4) draw), 0 ≤ o ∧ o ≤ 3 ∧ o ≠ (((worker % 4).toNat : Nat) : Int) := by rw [hHN]; exact mZ aD
   have hvl : (cI (worker % 4) draw).length = 3 := rfl
   refine aA (rn st43 3 h41_ [] [(8, I (worker % 4))] [qq worker 4] aE fun f65 h65_ => (aB (wp_seq (aA (sg (bB bM rfl (h65_.at 3) (st43.get 2 rfl) (Shape.len hc) (sg (aF (v := I (worker % 4)) (h65_.at 8) (sg (bJ Tryz.func121 rfl rfl rfl ((aB9 W42 (bA hc st43.below) (worker % 4) aD).mono ?_))))))))))); rintro _ W70 ⟨cs68, fp68, rfl, hk71⟩; refine ⟨_, rfl, ?_⟩
   have st72 := St.call st43 hk71
   refine sg (aR fA st72 ?_); intro b74 W75 hb76 st77
   refine sgn (aO (cs := cs68) bM (bO (st77.get 1 rfl) rfl) rfl rfl st77 rfl ?_); intro W79 st80
   refine aB (wp_seq (aA (sg (aF (v := I (worker % 4)) (h65_.at 8) (sg (aF (v := I draw) (h65_.at 2) (sg (bJ Tryz.func122 rfl rfl rfl ((VictimsS W79 (worker % 4) draw aD dX).mono ?_))))))))); rintro _ W85 ⟨v83, fp83, rfl, hk86⟩; refine ⟨_, rfl, ?_⟩
   have st87 := St.call st80 hk86
   refine sg (aC (v := v83) rfl (aB (wp_seq (wp_seq (aA (sg (aC (v := I 0) rfl (aB (wW (fun (f : Nat → Value) (W : World) => ∃ (cs93 : List Value) (fo94 : List Nat), Ag [(6, .pointer (some ⟨b6, 0, none⟩)), (7, .pointer (some ⟨b11, 0, none⟩)), (8, I (worker % 4)), (9, .pointer (some ⟨b74, 0, none⟩))] f ∧ St w W ([Res.own (α := List Int) v83 (cI (worker % 4) draw) fp83, Res.bx b74 cs93 34, Res.own (α := Yard) (.agg cs93.toArray) (eR (worker % 4).toNat (aZ y (worker % 4)) (cI (worker % 4) draw)) fo94, Res.bx b11 [I 0, I 0, I 0, I 0] 75, Res.bx b6 [I 0, I 0, .slice none 0 0, .slice none 0 0] 34, Res.bx b1 cs 34])) ?_ (fun f95 W96 hJ97 => ?_))))))))))
   ·refine wp_block (aY (fun (m : Nat) (f : Nat → Value) (W : World) => ∃ (k : Nat) (cs100 : List Value) (fo101 : List Nat), k ≤ 3 ∧ m = 3 - k ∧ Ag [(6, .pointer (some ⟨b6, 0, none⟩)), (7, .pointer (some ⟨b11, 0, none⟩)), (8, I (worker % 4)), (9, .pointer (some ⟨b74, 0, none⟩)), (10, v83), (11, I (k : Int))] f ∧ St w W ([Res.own (α := List Int) v83 (cI (worker % 4) draw) fp83, Res.bx b74 cs100 34, Res.own (α := Yard) (.agg cs100.toArray) (eR (worker % 4).toNat (aZ y (worker % 4)) ((cI (worker % 4) draw).take k)) fo101, Res.bx b11 [I 0, I 0, I 0, I 0] 75, Res.bx b6 [I 0, I 0, .slice none 0 0, .slice none 0 0] 34, Res.bx b1 cs 34])) (3 - 0) ?_ ?_)
    ·exact ⟨0, cs68, fp68, Nat.zero_le _, rfl, (h65_.put.put.put.put.put.put.put.put.put.to aE), st87⟩
    intro m102 f103 W104 hJ105
    obtain ⟨k, cs100, fo101, hcd107_0, rfl, hA107, st106⟩ := hJ105
    refine wp_seq (wp_seq ?_)
    have hPI := PI.take hY (home := (worker % 4).toNat) hh4 (l := (cI (worker % 4) draw)) hvr k
    rw [hHN] at hPI
    obtain ⟨out, hout⟩ : ∃ o, o = eR (worker % 4).toNat (aZ y (worker % 4)) ((cI (worker % 4) draw).take k) := ⟨_, rfl⟩
    rw [← hout] at hPI st106
    have hwo := hPI.wt hY
    have hoo := hPI.ok hY
    have hol := hPI.len
    have hgh : out.shelf[(worker % 4).toNat]? = some (out.shelf.getD (worker % 4).toNat []) := getD_some aD
    have hx8 := hPI.each (worker % 4).toNat aD
    have hnow := hPI.now
    have hynow := hY.now
    refine aA ?_
    rcases nem ((k : Int) < ((cI (worker % 4) draw).length : Int)) with h109p | h109p
    ·have h109 := decide_eq_false h109p
     refine rn st106 13 hA107 [] [(50, .bool false)] [ql (aI (st106.get 0 rfl)), qk h109] aE fun f110 h110_ => (aB (gK (h110_.at 50) rfl (wp_exit ?_)))
     have hfin : out = eR (worker % 4).toNat (aZ y (worker % 4)) (cI (worker % 4) draw) := by rw [hout]; exact tP aD
     exact ⟨_, rfl, cs100, fo101, (h110_.to aE), (by rw [← hfin]; exact st106)⟩
    ·have h109 := decide_eq_true h109p
     have st111 := st106.f2
     have hq_ := eB st111
     obtain ⟨v112_0, v112_1, g112_0, g112_1, he112, hok112, st113⟩ := hq_
     subst he112
     have hi95ef1 : (worker % 4).toNat < out.shelf.length := (List.getElem?_eq_some_iff.1 hgh).1
     have hq_ := gT (aI (st113.get 0 rfl)) (i := (worker % 4).toNat) hgh
     obtain ⟨b116, o116, cs116, f116, hp116, hr116, hc116, hm116⟩ := hq_
     have hk116 := hc116
     obtain ⟨v117, rfl, h118⟩ := hk116
     refine rn st113 13 hA107 [] [(50, .bool (decide (((out.shelf.getD (worker % 4).toNat []).length : Int) = 0)))] [ql (aI (st113.get 2 rfl)), qk h109, qb 3 rfl 2, qxe hp116 (e := worker % 4) aD, qn hr116 0, ql h118, .o] aE fun f119 h119_ => (aB (aK (h119_.at 50) (fun h120p => ?_) (fun h120p => ?_)))
     ·refine wp_skip (wp_seq (wp_block (wp_seq ?_)))
      have hq_ := eH (xs := (cI (worker % 4) draw)) (i := k) aD
      obtain ⟨o, hko⟩ := hq_
      have hor := hvr o (List.mem_of_getElem? hko)
      rw [hHN] at hor
      have hemp := nil0 h120p
      have hsw := hPI.sw (o := o) aD
      have hi5551f : k < (cI (worker % 4) draw).length := (List.getElem?_eq_some_iff.1 hko).1
      have hq_ := gT (aI (st113.get 2 rfl)) (i := k) hko
      obtain ⟨b122, o122, cs122, f122, hp122, hr122, hc122, hm122⟩ := hq_
      have hk122 := hc122
      obtain ⟨rfl, rfl, hok122⟩ := hk122
      refine rk 5 st113 h119_ [] [(53, .agg #[I out.now, I out.seq, v112_0, v112_1]), (57, I o)] [qb 3 rfl 0, qx hp122, qn hr122 0] aE aE fun f123 W124 h123_ st125 hb126 => (sg (bJ Tryz.func121 rfl (h123_.at 53) (h123_.at 57) ((aB9 W124 (show Shape.C _ [I out.now, I out.seq, v112_0, v112_1] out _ from ⟨_, _, _, _, rfl, hok112, (aI (st125.get 0 rfl)), (aI (st125.get 1 rfl)), rfl⟩) o aD).mono ?_))); rintro _ W129 ⟨cs127, fp127, rfl, hk130⟩; refine ⟨_, rfl, ?_⟩
      have st131 := St.call st125 hk130
      refine sgn (aO (cs := cs127) bM (bO (st131.f4.get 1 rfl) rfl) (h123_.at 9) rfl st131.f4 rfl ?_); intro W134 st135
      refine aB (wp_seq ?_)
      have hsl4 := hsw.1
      have hgo : (aZ out o).shelf[(o).toNat]? = some ((aZ out o).shelf.getD (o).toNat []) := getD_some aD
      have hgs : (aZ out o).shelf[(worker % 4).toNat]? = some ((aZ out o).shelf.getD (worker % 4).toNat []) := getD_some aD
      have hso8 := hsw.2 (o).toNat aD
      have hsh8 := hsw.2 (worker % 4).toNat aD
      have htk8 : (((aZ out o).shelf.getD (o).toNat []).take (eU ((aZ out o).shelf.getD (o).toNat []))).length ≤ 80 := by rw [List.length_take]; omega
      have hq_ := eB st135.f1
      obtain ⟨v137_0, v137_1, g137_0, g137_1, he137, hok137, st138⟩ := hq_
      subst he137
      have hi5551f : k < (cI (worker % 4) draw).length := (List.getElem?_eq_some_iff.1 hko).1
      have hq_ := gT (aI (st138.get 5 rfl)) (i := k) hko
      obtain ⟨b141, o141, cs141, f141, hp141, hr141, hc141, hm141⟩ := hq_
      have hk141 := hc141
      obtain ⟨rfl, rfl, hok141⟩ := hk141
      have hie288b : (o).toNat < (aZ out o).shelf.length := (List.getElem?_eq_some_iff.1 hgo).1
      have hq_ := gT (aI (st138.get 0 rfl)) (i := (o).toNat) hgo
      obtain ⟨b142, o142, cs142, f142, hp142, hr142, hc142, hm142⟩ := hq_
      have hk142 := hc142
      obtain ⟨v143, rfl, h144⟩ := hk142
      refine eX 13 [8, 9, 10, 11, 12] [[], [8], [8, 9], [8, 9, 10], [8, 9, 10, 11], [8, 9, 11], [8, 9, 10, 12], [8, 9, 10, 11, 12]] [[(0, 1)], [(1, 2)], [(2, 3), (5, 4)], [(3, 4), (2, 5), (6, 7)], [(4, 7), (3, 6)]] (w1 := W134) (rs := [Res.own (α := List (List Entry)) v137_0 (aZ out o).shelf g137_0, Res.own (α := List Run) v137_1 (aZ out o).runs g137_1, Res.bx b74 [I (aZ out o).now, I (aZ out o).seq, v137_0, v137_1] 34, Res.own (α := List (List Entry)) v112_0 out.shelf g112_0, Res.own (α := List Run) v112_1 out.runs g112_1, Res.own (α := List Int) v83 (cI (worker % 4) draw) fp83, Res.bx b11 [I 0, I 0, I 0, I 0] 75, Res.bx b6 [I 0, I 0, .slice none 0 0, .slice none 0 0] 34, Res.bx b1 cs 34]) (fun q => match q with | 0 => Cp.fr (ι := Unit) (fun _ => []) (fun _ => []) | 1 => Cp.fr (ι := Value × List Nat × Value × List Nat) (fun ⟨v146, fp146, v148, fp148⟩ => [.tuple #[v146, v148]]) (fun ⟨v146, fp146, v148, fp148⟩ => [Res.own (α := List Entry) v146 (((aZ out o).shelf.getD (o).toNat []).take (eU ((aZ out o).shelf.getD (o).toNat []))) fp146, Res.own (α := List Entry) v148 (((aZ out o).shelf.getD (o).toNat []).drop (eU ((aZ out o).shelf.getD (o).toNat []))) fp148]) | 2 => Cp.fr (ι := Value × List Nat × Value × List Nat) (fun ⟨v146, fp146, v148, fp148⟩ => [.tuple #[v146, v148], .tuple #[v146, v148]]) (fun ⟨v146, fp146, v148, fp148⟩ => [Res.own (α := List Entry) v146 (((aZ out o).shelf.getD (o).toNat []).take (eU ((aZ out o).shelf.getD (o).toNat []))) fp146, Res.own (α := List Entry) v148 (((aZ out o).shelf.getD (o).toNat []).drop (eU ((aZ out o).shelf.getD (o).toNat []))) fp148]) | 3 => Cp.fr (ι := Value × List Nat × Value × List Nat) (fun ⟨v146, fp146, v148, fp148⟩ => [.tuple #[v146, v148], .tuple #[v146, v148], v146]) (fun ⟨v146, fp146, v148, fp148⟩ => [Res.own (α := List Entry) v146 (((aZ out o).shelf.getD (o).toNat []).take (eU ((aZ out o).shelf.getD (o).toNat []))) fp146, Res.own (α := List Entry) v148 (((aZ out o).shelf.getD (o).toNat []).drop (eU ((aZ out o).shelf.getD (o).toNat []))) fp148]) | 4 => Cp.fr (ι := Value × List Nat × Value × List Nat) (fun ⟨v146, fp146, v148, fp148⟩ => [.tuple #[v146, v148], .tuple #[v146, v148], v146, v148]) (fun ⟨v146, fp146, v148, fp148⟩ => [Res.own (α := List Entry) v146 (((aZ out o).shelf.getD (o).toNat []).take (eU ((aZ out o).shelf.getD (o).toNat []))) fp146, Res.own (α := List Entry) v148 (((aZ out o).shelf.getD (o).toNat []).drop (eU ((aZ out o).shelf.getD (o).toNat []))) fp148]) | 5 => Cp.fr (ι := Value × List Nat × Value × List Nat) (fun ⟨v146, fp146, v148, fp148⟩ => [.tuple #[v146, v148], .tuple #[v146, v148], v148]) (fun ⟨v146, fp146, v148, fp148⟩ => [Res.own (α := List Entry) v146 (((aZ out o).shelf.getD (o).toNat []).take (eU ((aZ out o).shelf.getD (o).toNat []))) fp146, Res.own (α := List Entry) v148 (((aZ out o).shelf.getD (o).toNat []).drop (eU ((aZ out o).shelf.getD (o).toNat []))) fp148]) | 6 => Cp.fr (ι := Value × List Nat × Value × List Nat) (fun ⟨v146, fp146, v148, fp148⟩ => [.tuple #[v146, v148], .tuple #[v146, v148], v146, v146]) (fun ⟨v146, fp146, v148, fp148⟩ => [Res.own (α := List Entry) v146 (((aZ out o).shelf.getD (o).toNat []).take (eU ((aZ out o).shelf.getD (o).toNat []))) fp146, Res.own (α := List Entry) v148 (((aZ out o).shelf.getD (o).toNat []).drop (eU ((aZ out o).shelf.getD (o).toNat []))) fp148]) | _ => Cp.fr (ι := Value × List Nat × Value × List Nat) (fun ⟨v146, fp146, v148, fp148⟩ => [.tuple #[v146, v148], .tuple #[v146, v148], v146, v148, v146]) (fun ⟨v146, fp146, v148, fp148⟩ => [Res.own (α := List Entry) v146 (((aZ out o).shelf.getD (o).toNat []).take (eU ((aZ out o).shelf.getD (o).toNat []))) fp146, Res.own (α := List Entry) v148 (((aZ out o).shelf.getD (o).toNat []).drop (eU ((aZ out o).shelf.getD (o).toNat []))) fp148])) [Pq.is (.pointer (some ⟨b74, 0 + 2, none⟩)), Pq.is (v137_0) (Sl.yl (aI (st138.get 0 rfl))), Pq.is (v83) (Sl.yl (aI (st138.get 5 rfl))), Pq.is (I (k : Int)), Pq.is (.pointer (some ⟨b141, o141, none⟩)), Pq.is (I o), Pq.is (.pointer (some ⟨b142, o142, none⟩)), Pq.is (v143) (Sl.yl h144), Pq.none, Pq.none, Pq.none, Pq.none, Pq.none] mix (by rfl) (by rfl) (by rfl) ⟨(), rfl, st138, (Below.refl _ _)⟩ (by rfl) ⟨(fun f W hst hbl hd hf => aH eE ((hf 9 rfl).trans (h123_.at 9)) brq), (fun f W hst hbl hd hf => aU eG rfl (hd 0 60 rfl rfl) (hst.get 2 rfl) (i := 2) rfl rfl brq), (fun f W hst hbl hd hf => aF (v := v83) ((hf 10 rfl).trans (h123_.at 10)) brq), (fun f W hst hbl hd hf => aF (v := I (k : Int)) ((hf 11 rfl).trans (h123_.at 11)) brq), (fun f W hst hbl hd hf => aN eP (hd 2 62 rfl rfl) hp141 (hd 3 63 rfl rfl) rfl brq), (fun f W hst hbl hd hf => eV eF rfl (hd 4 64 rfl rfl) hr141 hbl (i := 0) rfl rfl brq), (fun f W hst hbl hd hf => aN eM (hd 1 61 rfl rfl) hp142 (hd 5 65 rfl rfl) aD brq), (fun f W hst hbl hd hf => eV iS rfl (hd 6 66 rfl rfl) hr142 hbl (i := 0) rfl rfl brq), ⟨rfl, ?_, True.intro⟩, ⟨rfl, ?_, True.intro⟩, ⟨rfl, ?_, ?_, True.intro⟩, ⟨rfl, ?_, ?_, ?_, True.intro⟩, ⟨rfl, ?_, ?_, True.intro⟩, trivial⟩ ?_
      ·intro f W hC hd hf
       have hC_ := hC
       obtain ⟨_, hu, st145, hbl⟩ := hC_
       try dsimp only [cap_, dP] at st145
       refine (bF Tryz.func123 rfl (hd 7 67 rfl rfl) ((HalfOfS W (h144.below hbl) aD).mono ?_)); rintro _ W150 ⟨v146, fp146, v148, fp148, rfl, hk151⟩; refine ⟨_, rfl, ?_⟩
       have st152 := St.call st145 hk151
       exact ⟨⟨(v146, fp146, v148, fp148), (ce rfl rfl), st152, (hbl.trans (Below.mono hk151.below hbl.size))⟩, rfl⟩
      ·intro f W hC hd hf
       have hC_ := hC
       obtain ⟨⟨v146, fp146, v148, fp148⟩, hu, st154, hbl⟩ := hC_
       try dsimp only [cap_, dP] at st154
       have hu9_68 : f 68 = .tuple #[v146, v148] := congrArg (fun l => l.getD 0 undef) hu
       refine (aF hu9_68 ?_)
       exact ⟨⟨(v146, fp146, v148, fp148), (ce hu9_68 (ce rfl rfl)), st154, (hbl.trans (Below.mono (Below.refl _ _) hbl.size))⟩, rfl⟩
      ·intro f W hC hd hf
       have hC_ := hC
       obtain ⟨⟨v146, fp146, v148, fp148⟩, hu, st155, hbl⟩ := hC_
       try dsimp only [cap_, dP] at st155
       have hu10_68 : f 68 = .tuple #[v146, v148] := congrArg (fun l => l.getD 0 undef) hu
       have hu10_59 : f 59 = .tuple #[v146, v148] := congrArg (fun l => l.getD 1 undef) hu
       refine (iP hu10_59 rfl ?_)
       exact ⟨⟨(v146, fp146, v148, fp148), (ce hu10_68 (ce hu10_59 (ce rfl rfl))), st155, (hbl.trans (Below.mono (Below.refl _ _) hbl.size))⟩, Sl.yl (aI (st155.get 0 rfl))⟩
      ·intro f W hC hd hf
       have hC_ := hC
       obtain ⟨⟨v146, fp146, v148, fp148⟩, hu, st160, hbl⟩ := hC_
       try dsimp only [cap_, dP] at st160
       have hu10_68 : f 68 = .tuple #[v146, v148] := congrArg (fun l => l.getD 0 undef) hu
       have hu10_59 : f 59 = .tuple #[v146, v148] := congrArg (fun l => l.getD 1 undef) hu
       have hu10_70 : f 70 = v148 := congrArg (fun l => l.getD 2 undef) hu
       refine (iP hu10_59 rfl ?_)
       exact ⟨⟨(v146, fp146, v148, fp148), (ce hu10_68 (ce hu10_59 (ce rfl (ce hu10_70 rfl)))), st160, (hbl.trans (Below.mono (Below.refl _ _) hbl.size))⟩, Sl.yl (aI (st160.get 0 rfl))⟩
      ·intro f W hC hd hf
       have hC_ := hC
       obtain ⟨⟨v146, fp146, v148, fp148⟩, hu, st156, hbl⟩ := hC_
       try dsimp only [cap_, dP] at st156
       have hu11_68 : f 68 = .tuple #[v146, v148] := congrArg (fun l => l.getD 0 undef) hu
       have hu11_59 : f 59 = .tuple #[v146, v148] := congrArg (fun l => l.getD 1 undef) hu
       have hu11_69 : f 69 = v146 := congrArg (fun l => l.getD 2 undef) hu
       refine (iP hu11_59 rfl ?_)
       exact ⟨⟨(v146, fp146, v148, fp148), (ce hu11_68 (ce hu11_59 (ce hu11_69 (ce rfl rfl)))), st156, (hbl.trans (Below.mono (Below.refl _ _) hbl.size))⟩, Sl.yl (aI (st156.get 1 rfl))⟩
      ·intro f W hC hd hf
       have hC_ := hC
       obtain ⟨⟨v146, fp146, v148, fp148⟩, hu, st158, hbl⟩ := hC_
       try dsimp only [cap_, dP] at st158
       have hu11_68 : f 68 = .tuple #[v146, v148] := congrArg (fun l => l.getD 0 undef) hu
       have hu11_59 : f 59 = .tuple #[v146, v148] := congrArg (fun l => l.getD 1 undef) hu
       refine (iP hu11_59 rfl ?_)
       exact ⟨⟨(v146, fp146, v148, fp148), (ce hu11_68 (ce hu11_59 (ce rfl rfl))), st158, (hbl.trans (Below.mono (Below.refl _ _) hbl.size))⟩, Sl.yl (aI (st158.get 1 rfl))⟩
      ·intro f W hC hd hf
       have hC_ := hC
       obtain ⟨⟨v146, fp146, v148, fp148⟩, hu, st161, hbl⟩ := hC_
       try dsimp only [cap_, dP] at st161
       have hu11_68 : f 68 = .tuple #[v146, v148] := congrArg (fun l => l.getD 0 undef) hu
       have hu11_59 : f 59 = .tuple #[v146, v148] := congrArg (fun l => l.getD 1 undef) hu
       have hu11_69 : f 69 = v146 := congrArg (fun l => l.getD 2 undef) hu
       have hu11_12 : f 12 = v146 := congrArg (fun l => l.getD 3 undef) hu
       refine (iP hu11_59 rfl ?_)
       exact ⟨⟨(v146, fp146, v148, fp148), (ce hu11_68 (ce hu11_59 (ce hu11_69 (ce rfl (ce hu11_12 rfl))))), st161, (hbl.trans (Below.mono (Below.refl _ _) hbl.size))⟩, Sl.yl (aI (st161.get 1 rfl))⟩
      ·intro f W hC hd hf
       have hC_ := hC
       obtain ⟨⟨v146, fp146, v148, fp148⟩, hu, st157, hbl⟩ := hC_
       try dsimp only [cap_, dP] at st157
       have hu12_68 : f 68 = .tuple #[v146, v148] := congrArg (fun l => l.getD 0 undef) hu
       have hu12_59 : f 59 = .tuple #[v146, v148] := congrArg (fun l => l.getD 1 undef) hu
       have hu12_69 : f 69 = v146 := congrArg (fun l => l.getD 2 undef) hu
       have hu12_70 : f 70 = v148 := congrArg (fun l => l.getD 3 undef) hu
       refine (aC (v := v146) hu12_69 ?_)
       exact ⟨⟨(v146, fp146, v148, fp148), (ce hu12_68 (ce hu12_59 (ce hu12_69 (ce hu12_70 (ce rfl rfl))))), st157, (hbl.trans (Below.mono (Below.refl _ _) hbl.size))⟩, Sl.yl (aI (st157.get 0 rfl))⟩
      ·intro f W hC hd hf
       have hC_ := hC
       obtain ⟨⟨v146, fp146, v148, fp148⟩, hu, st159, hbl⟩ := hC_
       try dsimp only [cap_, dP] at st159
       have hu12_68 : f 68 = .tuple #[v146, v148] := congrArg (fun l => l.getD 0 undef) hu
       have hu12_59 : f 59 = .tuple #[v146, v148] := congrArg (fun l => l.getD 1 undef) hu
       have hu12_69 : f 69 = v146 := congrArg (fun l => l.getD 2 undef) hu
       refine (aC (v := v146) hu12_69 ?_)
       exact ⟨⟨(v146, fp146, v148, fp148), (ce hu12_68 (ce hu12_59 (ce hu12_69 (ce rfl rfl)))), st159, (hbl.trans (Below.mono (Below.refl _ _) hbl.size))⟩, Sl.yl (aI (st159.get 0 rfl))⟩
      intro f162 W163 hC hv164 hf165
      have hC_ := hC
      obtain ⟨⟨v146, fp146, v148, fp148⟩, hu, st166, hbl167⟩ := hC_
      try dsimp only [cap_, dP] at st166
      have hu168 : f162 68 = .tuple #[v146, v148] := congrArg (fun l => l.getD 0 undef) hu
      have hu169 : f162 59 = .tuple #[v146, v148] := congrArg (fun l => l.getD 1 undef) hu
      have hu170 : f162 69 = v146 := congrArg (fun l => l.getD 2 undef) hu
      have hu171 : f162 70 = v148 := congrArg (fun l => l.getD 3 undef) hu
      have hu172 : f162 12 = v146 := congrArg (fun l => l.getD 4 undef) hu
      refine sg (aC (v := v148) hu171 (aB (wp_seq ?_)))
      have st176 := st166.f2
      have hq_ := St.lendx (α := List Entry) aX st176 (x := ((aZ out o).shelf.getD (o).toNat [])) hgo
      obtain ⟨b177, e177, pre177, cs177, post177, fi177, fr177, hPA177, hC177, st178⟩ := hq_
      have hq_ := st178.f1.uncs1
      obtain ⟨v177, he177, st183⟩ := hq_; subst he177
      have hi5551f : k < (cI (worker % 4) draw).length := (List.getElem?_eq_some_iff.1 hko).1
      have hq_ := gT (aI (st183.get 9 rfl)) (i := k) hko
      obtain ⟨b185, o185, cs185, f185, hp185, hr185, hc185, hm185⟩ := hq_
      have hk185 := hc185
      obtain ⟨rfl, rfl, hok185⟩ := hk185
      refine rk 8 st183 (Ag.cons (show f162 6 = .pointer (some ⟨b6, 0, none⟩) from ((hf165 6 rfl).trans (h123_.at 6))) (Ag.cons (show f162 7 = .pointer (some ⟨b11, 0, none⟩) from ((hf165 7 rfl).trans (h123_.at 7))) (Ag.cons (show f162 8 = I (worker % 4) from ((hf165 8 rfl).trans (h123_.at 8))) (Ag.cons (show f162 9 = .pointer (some ⟨b74, 0, none⟩) from ((hf165 9 rfl).trans (h123_.at 9))) (Ag.cons (show f162 10 = v83 from ((hf165 10 rfl).trans (h123_.at 10))) (Ag.cons (show f162 11 = I (k : Int) from ((hf165 11 rfl).trans (h123_.at 11))) (Ag.cons (show f162 12 = v146 from hu172) Ag.nil))))))).put [] [(77, v148), (78, .pointer (some ⟨b177, pre177.length, none⟩))] [qb 6 rfl 2, qx hp185, qn hr185 0, qxe hPA177 (e := o) aD] aE aE fun f186 W187 h186_ st188 hb189 => (sgn (bE (i := 0) (v := v148) (C' := [v148]) aE (h186_.at 78) (h186_.at 77) (Sl.cells (aI (st188.f1.get 4 rfl))) (Sl.one (aI (st188.f1.get 4 rfl))) st188.f1 rfl bP rfl ?_)); intro W191 st192
      refine aB ?_
      have st194 := st192.f4.cs1
      have hq_ := St.give (α := List Entry) st194.f3.f1.f2
      obtain ⟨fp198, st199⟩ := hq_
      have hgs2 : ((aZ out o).shelf.set (o).toNat (((aZ out o).shelf.getD (o).toNat []).drop (eU ((aZ out o).shelf.getD (o).toNat []))))[(worker % 4).toNat]? = some ((aZ out o).shelf.getD (worker % 4).toNat []) := by rw [List.getElem?_set_ne aD]; exact hgs
      have hq_ := St.lendx (α := List Entry) aX st199 (x := ((aZ out o).shelf.getD (worker % 4).toNat [])) hgs2
      obtain ⟨b200, e200, pre200, cs200, post200, fi200, fr200, hPA200, hC200, st201⟩ := hq_
      have hq_ := st201.f1.uncs1
      obtain ⟨v200, he200, st206⟩ := hq_; subst he200
      refine eX 10 [9] [[], [9]] [[(0, 1)]] (w1 := W191) (rs := [Res.own (α := List Entry) v200 ((aZ out o).shelf.getD (worker % 4).toNat []) fi200, Res.bx b200 (pre200 ++ [v200] ++ post200) e200, Res.rest (α := (List Entry)) v137_0 b200 pre200 post200 (((aZ out o).shelf).set (o).toNat (((aZ out o).shelf.getD (o).toNat []).drop (eU ((aZ out o).shelf.getD (o).toNat [])))) (worker % 4).toNat fr200, Res.own (α := List Entry) v177 ((aZ out o).shelf.getD (o).toNat []) fi177, Res.own (α := List Entry) v146 (((aZ out o).shelf.getD (o).toNat []).take (eU ((aZ out o).shelf.getD (o).toNat []))) fp146, Res.own (α := List Run) v137_1 (aZ out o).runs g137_1, Res.bx b74 [I (aZ out o).now, I (aZ out o).seq, v137_0, v137_1] 34, Res.own (α := List (List Entry)) v112_0 out.shelf g112_0, Res.own (α := List Run) v112_1 out.runs g112_1, Res.own (α := List Int) v83 (cI (worker % 4) draw) fp83, Res.bx b11 [I 0, I 0, I 0, I 0] 75, Res.bx b6 [I 0, I 0, .slice none 0 0, .slice none 0 0] 34, Res.bx b1 cs 34]) (fun q => match q with | 0 => Cp.fr (ι := Unit) (fun _ => []) (fun _ => []) | _ => Cp.fr (ι := Value × List Nat) (fun ⟨v208, fp208⟩ => [v208]) (fun ⟨v208, fp208⟩ => [Res.own (α := List Entry) v208 (fD ((aZ out o).shelf.getD (worker % 4).toNat []) (((aZ out o).shelf.getD (o).toNat []).take (eU ((aZ out o).shelf.getD (o).toNat [])))) fp208])) [Pq.is (.pointer (some ⟨b74, 0 + 2, none⟩)), Pq.is (v137_0) (oW hPA200), Pq.is (I (worker % 4)), Pq.is (.pointer (some ⟨b74, 0 + 2, none⟩)), Pq.is (v137_0) (oW hPA200), Pq.is (I (worker % 4)), Pq.is (.pointer (some ⟨b200, pre200.length, none⟩)), Pq.is (v200) (Sl.yl (aI (st206.get 0 rfl))), Pq.is (v146) (Sl.yl (aI (st206.get 4 rfl))), Pq.none] mix (by rfl) (by rfl) (by rfl) ⟨(), rfl, st206, (Below.refl _ _)⟩ (by rfl) ⟨(fun f W hst hbl hd hf => aH eE ((hf 9 rfl).trans (h186_.at 9)) brq), (fun f W hst hbl hd hf => aU eG rfl (hd 0 79 rfl rfl) (hst.get 6 rfl) (i := 2) rfl rfl brq), (fun f W hst hbl hd hf => aF (v := I (worker % 4)) ((hf 8 rfl).trans (h186_.at 8)) brq), (fun f W hst hbl hd hf => aH eE ((hf 9 rfl).trans (h186_.at 9)) brq), (fun f W hst hbl hd hf => aU eG rfl (hd 3 82 rfl rfl) (hst.get 6 rfl) (i := 2) rfl rfl brq), (fun f W hst hbl hd hf => aF (v := I (worker % 4)) ((hf 8 rfl).trans (h186_.at 8)) brq), (fun f W hst hbl hd hf => aN eM (hd 4 83 rfl rfl) hPA200 (hd 5 84 rfl rfl) aD brq), (fun f W hst hbl hd hf => gY iS rfl (hd 6 85 rfl rfl) (hst.get 1 rfl) (i := 0) rfl rfl brq), (fun f W hst hbl hd hf => aF (v := v146) ((hf 12 rfl).trans (h186_.at 12)) brq), ⟨rfl, ?_, True.intro⟩, trivial⟩ ?_
      ·intro f W hC hd hf
       have hC_ := hC
       obtain ⟨_, hu, st207, hbl⟩ := hC_
       try dsimp only [cap_, dP] at st207
       refine (bJ Tryz.func124 rfl (hd 7 86 rfl rfl) (hd 8 87 rfl rfl) ((MergedS W (aI (st207.get 0 rfl)) (aI (st207.get 4 rfl)) aD aD).mono ?_)); rintro _ W210 ⟨v208, fp208, rfl, hk211⟩; refine ⟨_, rfl, ?_⟩
       have st212 := St.call st207 hk211
       exact ⟨⟨(v208, fp208), (ce rfl rfl), st212, (hbl.trans (Below.mono hk211.below hbl.size))⟩, Sl.yl (aI (st212.get 0 rfl))⟩
      intro f214 W215 hC hv216 hf217
      have hC_ := hC
      obtain ⟨⟨v208, fp208⟩, hu, st218, hbl219⟩ := hC_
      try dsimp only [cap_, dP] at st218
      have hu220 : f214 88 = v208 := congrArg (fun l => l.getD 0 undef) hu
      refine sg (aN eM (hv216 1 80 aX rfl) hPA200 (hv216 2 81 aX rfl) aD ?_)
      have st224 := st218.f2
      refine sgn (bE (i := 0) (v := v208) (C' := [v208]) aE rfl hu220 (Sl.cells (aI (st224.get 1 rfl))) (Sl.one (aI (st224.get 1 rfl))) st224 rfl bP rfl ?_); intro W225 st226
      refine aB (aA (rn st226 3 (Ag.cons (show f214 6 = .pointer (some ⟨b6, 0, none⟩) from ((hf217 6 rfl).trans (h186_.at 6))) (Ag.cons (show f214 7 = .pointer (some ⟨b11, 0, none⟩) from ((hf217 7 rfl).trans (h186_.at 7))) (Ag.cons (show f214 8 = I (worker % 4) from ((hf217 8 rfl).trans (h186_.at 8))) (Ag.cons (show f214 9 = .pointer (some ⟨b74, 0, none⟩) from ((hf217 9 rfl).trans (h186_.at 9))) (Ag.cons (show f214 10 = v83 from ((hf217 10 rfl).trans (h186_.at 10))) (Ag.cons (show f214 11 = I (k : Int) from ((hf217 11 rfl).trans (h186_.at 11))) Ag.nil)))))).put [11] [(11, I ((k : Int) + 1))] [qad (k : Int) 1] aE fun f228 h228_ => (aB ?_)))
      have st230 := st226.f1.cs1
      have hq_ := St.give (α := List Entry) st230.f3.f1.f2
      obtain ⟨fp234, st235⟩ := hq_
      have st238 := eN (x := (iE (iE (aZ out o) (o).toNat (((aZ out o).shelf.getD (o).toNat []).drop (eU ((aZ out o).shelf.getD (o).toNat [])))) (worker % 4).toNat (fD ((aZ out o).shelf.getD (worker % 4).toNat []) (((aZ out o).shelf.getD (o).toNat []).take (eU ((aZ out o).shelf.getD (o).toNat [])))))) st235.f4.f1 (by assumption)
      exact ⟨_, 3 - (k + 1), aD, rfl, k + 1, [I (aZ out o).now, I (aZ out o).seq, v137_0, v137_1], _, aD, rfl, (h228_.to aE), (by rw [vO hko (by rw [← hout]; exact hemp), ← hout, robY_comm aD]; exact st238.f10.f10.f10.f3.f7.f10.d6.d6.d6.d6.d6)⟩
     ·refine wp_exit ?_
      have st253 := eN (x := out) st113.f1.f1 hoo
      have hfin : out = eR (worker % 4).toNat (aZ y (worker % 4)) (cI (worker % 4) draw) := by rw [hout]; exact (tO (by rw [← hout]; exact ne_nil0 h120p)).symm
      exact ⟨_, rfl, [I out.now, I out.seq, v112_0, v112_1], _, (h119_.to aE), (by rw [← hfin]; exact st253.f5.f5.f5.f3.f5.f5)⟩
   obtain ⟨cs93, fo94, hA99, st98⟩ := hJ97
   refine wp_seq ?_
   have hPI := PI.all hY hh4 hvr (PI.start hY hh4)
   rw [hHN] at hPI
   obtain ⟨out, hout⟩ : ∃ o, o = eR (worker % 4).toNat (aZ y (worker % 4)) (cI (worker % 4) draw) := ⟨_, rfl⟩
   rw [← hout] at hPI st98
   have hwo := hPI.wt hY
   have hoo := hPI.ok hY
   have hol := hPI.len
   have hgh : out.shelf[(worker % 4).toNat]? = some (out.shelf.getD (worker % 4).toNat []) := getD_some aD
   have hx8 := hPI.each (worker % 4).toNat aD
   have hnow := hPI.now
   have hynow := hY.now
   refine aA ?_
   have st262 := st98.f2
   have hq_ := eB st262
   obtain ⟨v263_0, v263_1, g263_0, g263_1, he263, hok263, st264⟩ := hq_
   subst he263
   have hi95ef1 : (worker % 4).toNat < out.shelf.length := (List.getElem?_eq_some_iff.1 hgh).1
   have hq_ := gT (aI (st264.get 0 rfl)) (i := (worker % 4).toNat) hgh
   obtain ⟨b267, o267, cs267, f267, hp267, hr267, hc267, hm267⟩ := hq_
   have hk267 := hc267
   obtain ⟨v268, rfl, h269⟩ := hk267
   refine rn st264 5 hA99 [] [(95, v268)] [qb 3 rfl 2, qxe hp267 (e := worker % 4) aD, qn hr267 0] aE fun f270 h270_ => (sg (bF Tryz.func125 rfl (h270_.at 95) ((TakeS W96 h269 aD).mono ?_))); rintro _ W273 ⟨v271, fp271, rfl, hokf276, hk274⟩; refine ⟨_, rfl, ?_⟩
   have st275 := St.call st264 hk274
   refine rn st275 4 h270_.put [] [(97, .agg #[I ((out.shelf.getD (worker % 4).toNat []).headD gJ).prio, I ((out.shelf.getD (worker % 4).toNat []).headD gJ).seq, I ((out.shelf.getD (worker % 4).toNat []).headD gJ).run, I ((out.shelf.getD (worker % 4).toNat []).headD gJ).task]), (98, v271), (99, .bool (!decide ((out.shelf.getD (worker % 4).toNat []) = [])))] [] aE fun f278 h278_ => (sg (aR gX st275 ?_)); intro b279 W280 hb281 st282
   refine sgn (aM (cs := [I ((out.shelf.getD (worker % 4).toNat []).headD gJ).prio, I ((out.shelf.getD (worker % 4).toNat []).headD gJ).seq, I ((out.shelf.getD (worker % 4).toNat []).headD gJ).run, I ((out.shelf.getD (worker % 4).toNat []).headD gJ).task]) (C' := [I ((out.shelf.getD (worker % 4).toNat []).headD gJ).prio, I ((out.shelf.getD (worker % 4).toNat []).headD gJ).seq, I ((out.shelf.getD (worker % 4).toNat []).headD gJ).run, I ((out.shelf.getD (worker % 4).toNat []).headD gJ).task]) aE rfl (h278_.at 97) (aG rfl (aG rfl (aG rfl (aG rfl bK)))) st282 bP rfl ?_); intro W284 st285
   refine sg (aC (v := v271) (h278_.at 98) (sg (aC (v := .bool (!decide ((out.shelf.getD (worker % 4).toNat []) = []))) (h278_.at 99) (aB (wp_seq (wp_seq (aA (sg (aF (v := .bool (!decide ((out.shelf.getD (worker % 4).toNat []) = []))) rfl (sg (nU rfl (aB (cT rfl (fun h290 => ?_) (fun h290 => ?_))))))))))))))
   ·refine wp_seq ?_
    have hx0 : (out.shelf.getD (worker % 4).toNat []) = [] := dne h290
    refine aA (sg (aV (cs := [I out.now, I out.seq, v263_0, v263_1]) bM rfl (h278_.at 9) (st285.get 5 rfl) rfl rfl (sg (eJ (vs := [(0, I 9)]) (cs := [I 9, I 0, I 0, I 0]) (cY (v := I 9) rfl eA) aE ?_))))
    have st293 := st285.f7
    refine sgn (aM (cs := [I out.now, I out.seq, v263_0, v263_1]) (C' := [I out.now, I out.seq, v263_0, v263_1]) aE (h278_.at 6) rfl (aG rfl (aG rfl (aG (Sl.one (aI (st293.get 3 rfl))) (aG (Sl.one (aI (st293.get 4 rfl))) bK)))) st293 bP rfl ?_); intro W294 st295
    refine sgn (aM (cs := [I 9, I 0, I 0, I 0]) (C' := [I 9, I 0, I 0, I 0]) aE (h278_.at 7) rfl (aG rfl (aG rfl (aG rfl (aG rfl bK)))) st295.f7 bP rfl ?_); intro W297 st298
    refine aB (wr (sJ bM rfl fZ rfl Tryz.results66 (h278_.at 6) (st298.get 1 rfl) rfl (h278_.at 7) (st298.get 0 rfl) rfl ?_))
    have st301 := eN (x := out) st298.f5.f5 hoo
    have hfe : aP y worker draw = (out, ⟨9, 0, 0, 0⟩) := by unfold aP; rw [if_neg (by rw [(bG h21)]; decide), if_neg (by rw [(bG h45)]; decide), ← hout]; exact uD hx0
    rw [hfe]
    exact ⟨_, _, rfl, (by simp only [Reply.ok, I64]; omega), st301.d1.d1.d1.d1.d1.d1.d1⟩
   ·refine wp_skip (wp_seq ?_)
    have hq_ := aA2 (dnf h290)
    obtain ⟨e, rest, hxe⟩ := hq_
    have hhd : (out.shelf.getD (worker % 4).toNat []).headD gJ = e := by rw [hxe]; rfl
    have hdr : (out.shelf.getD (worker % 4).toNat []).drop 1 = rest := by rw [hxe]; rfl
    have hrl : rest.length ≤ 80 := by have h_ := hx8; rw [hxe] at h_; simp only [List.length_cons] at h_; omega
    have heo : e.ok := by rw [← hhd]; exact hokf276
    have hq_ := yE (hPI.fresh e (by rw [hxe]; exact List.mem_cons_self))
    obtain ⟨k, r, t, hix, hry, h0, hti, h2⟩ := hq_
    have hixo : dY out e.run = some k := (tJ hPI.runs _).trans hix
    have hro : out.runs[k]? = some r := by rw [hPI.runs]; exact hry
    have hRI := (hY.run k r hry).1
    have htr := hRI.tries hti
    have hwy := hPI.wtS hY hrl
    rw [hhd, hdr] at st285
    have st310 := st285.f2
    have hq_ := St.lendx (α := List Entry) aX st310 (x := (out.shelf.getD (worker % 4).toNat [])) hgh
    obtain ⟨b311, e311, pre311, cs311, post311, fi311, fr311, hPA311, hC311, st312⟩ := hq_
    have hq_ := st312.f1.uncs1
    obtain ⟨v311, he311, st317⟩ := hq_; subst he311
    refine aA (rn st317 5 h278_.put.put.put.put.put [] [(107, v271), (108, .pointer (some ⟨b311, pre311.length, none⟩))] [qb 7 rfl 2, qxe hPA311 (e := worker % 4) aD] aE fun f319 h319_ => (sgn (bE (i := 0) (v := v271) (C' := [v271]) aE (h319_.at 108) (h319_.at 107) (Sl.cells (aI (st317.f1.get 4 rfl))) (Sl.one (aI (st317.f1.get 4 rfl))) st317.f1 rfl bP rfl ?_))); intro W321 st322
    refine aB (wp_seq ?_)
    have st324 := st322.f4.cs1
    have hq_ := St.give (α := List Entry) st324.f3.f1.f2
    obtain ⟨fp328, st329⟩ := hq_
    refine aA (rc st329 5 h319_ [] [(17, I (k : Int))] [qb 5 rfl 0, qb 2 rfl 2, qc Tryz.func90 rfl (fun W s b => rH W (show Shape.C _ [I out.now, I out.seq, v263_0, v263_1] (⟨out.now, out.seq, (out.shelf).set (worker % 4).toNat rest, out.runs⟩ : Yard) _ from ⟨_, _, _, _, rfl, eS, (aI (s.get 0 rfl)), (aI (s.get 3 rfl)), rfl⟩) e.run (show Yard.wt _ ≤ _ from Nat.le_trans hwy aD) hixo)] aE fun f331 W332 h331_ st333 hb334 => (aB (wp_seq ?_)))
    have st335 := st333.f3
    have hq_ := St.lendx (α := Run) aX st335 (x := r) hro
    obtain ⟨b336, e336, pre336, cs336, post336, fi336, fr336, hPA336, hC336, st337⟩ := hq_
    have st342 := st337.f1.uncs rfl
    refine eX 13 [12] [[], [12]] [[(0, 1)]] (w1 := W332) (rs := [Res.own (α := Run) (.agg cs336.toArray) r fi336, Res.bx b336 (pre336 ++ cs336 ++ post336) e336, Res.rest (α := Run) v263_1 b336 pre336 post336 out.runs k fr336, Res.own (α := List (List Entry)) v263_0 ((out.shelf).set (worker % 4).toNat rest) fp328, Res.own (α := List Entry) v311 (out.shelf.getD (worker % 4).toNat []) fi311, Res.bx b279 [I e.prio, I e.seq, I e.run, I e.task] 131, Res.own (α := List Int) v83 (cI (worker % 4) draw) fp83, Res.bx b74 [I out.now, I out.seq, v263_0, v263_1] 34, Res.bx b11 [I 0, I 0, I 0, I 0] 75, Res.bx b6 [I 0, I 0, .slice none 0 0, .slice none 0 0] 34, Res.bx b1 cs 34]) (fun q => match q with | 0 => Cp.fr (ι := Unit) (fun _ => []) (fun _ => []) | _ => Cp.fr (ι := List Value × List Nat) (fun ⟨cs344, fp344⟩ => [.agg cs344.toArray]) (fun ⟨cs344, fp344⟩ => [Res.own (α := Run) (.agg cs344.toArray) (gZ r (e.task).toNat t out.now) fp344])) [Pq.is (.pointer (some ⟨b74, 0 + 3, none⟩)), Pq.is (v263_1) (oW hPA336), Pq.is (I (k : Int)), Pq.is (.pointer (some ⟨b74, 0 + 3, none⟩)), Pq.is (v263_1) (oW hPA336), Pq.is (I (k : Int)), Pq.is (.pointer (some ⟨b336, pre336.length, none⟩)), Pq.is (.agg cs336.toArray), Pq.is (.pointer (some ⟨b279, 0 + 3, none⟩)), Pq.is (I e.task), Pq.is (.pointer (some ⟨b74, 0 + 0, none⟩)), Pq.is (I out.now), Pq.none] mix (by rfl) (by rfl) (by rfl) ⟨(), rfl, st342, (Below.refl _ _)⟩ (by rfl) ⟨(fun f W hst hbl hd hf => aH gH ((hf 9 rfl).trans (h331_.at 9)) brq), (fun f W hst hbl hd hf => aU lE rfl (hd 0 113 rfl rfl) (hst.get 7 rfl) (i := 3) rfl rfl brq), (fun f W hst hbl hd hf => aF (v := I (k : Int)) ((hf 17 rfl).trans (h331_.at 17)) brq), (fun f W hst hbl hd hf => aH gH ((hf 9 rfl).trans (h331_.at 9)) brq), (fun f W hst hbl hd hf => aU lE rfl (hd 3 116 rfl rfl) (hst.get 7 rfl) (i := 3) rfl rfl brq), (fun f W hst hbl hd hf => aF (v := I (k : Int)) ((hf 17 rfl).trans (h331_.at 17)) brq), (fun f W hst hbl hd hf => aN iY (hd 4 117 rfl rfl) hPA336 (hd 5 118 rfl rfl) rfl brq), (fun f W hst hbl hd hf => pY eC rfl (hd 6 119 rfl rfl) (hst.get 1 rfl) rfl (Shape.len (bO (hst.get 0 rfl) rfl)) brq), (fun f W hst hbl hd hf => aH mQ ((hf 14 rfl).trans (h331_.at 14)) brq), (fun f W hst hbl hd hf => aU eF rfl (hd 8 121 rfl rfl) (hst.get 5 rfl) (i := 3) rfl rfl brq), (fun f W hst hbl hd hf => aH fa_Yard_0 ((hf 9 rfl).trans (h331_.at 9)) brq), (fun f W hst hbl hd hf => aU eF rfl (hd 10 123 rfl rfl) (hst.get 7 rfl) (i := 0) rfl rfl brq), ⟨rfl, ?_, True.intro⟩, trivial⟩ ?_
    ·intro f W hC hd hf
     have hC_ := hC
     obtain ⟨_, hu, st343, hbl⟩ := hC_
     try dsimp only [cap_, dP] at st343
     refine (hX Tryz.func126 rfl (hd 7 120 rfl rfl) (hd 9 122 rfl rfl) (hd 11 124 rfl rfl) ((StartedS W (bO (st343.get 0 rfl) rfl) e.task out.now h0 hti aD hRI).mono ?_)); rintro _ W346 ⟨cs344, fp344, rfl, hk347⟩; refine ⟨_, rfl, ?_⟩
     have st348 := St.call st343 hk347
     exact ⟨⟨(cs344, fp344), (ce rfl rfl), st348, (hbl.trans (Below.mono hk347.below hbl.size))⟩, rfl⟩
    intro f350 W351 hC hv352 hf353
    have hC_ := hC
    obtain ⟨⟨cs344, fp344⟩, hu, st354, hbl355⟩ := hC_
    try dsimp only [cap_, dP] at st354
    have hu356 : f350 125 = .agg cs344.toArray := congrArg (fun l => l.getD 0 undef) hu
    refine sg (aN iY (hv352 1 114 aX rfl) hPA336 (hv352 2 115 aX rfl) rfl ?_)
    have st360 := st354.f2
    refine sgn (oQ (cs := cs344) eC (bO (st360.get 1 rfl) rfl) rfl hu356 st360 rfl (Shape.len (bO (st360.get 2 rfl) rfl)) ?_); intro W361 st362
    refine aB (wp_seq ?_)
    have ht2 : (gZ r (e.task).toNat t out.now).tasks[(e.task).toNat]? = some (⟨3, t.need, t.try_ + 1, out.now + r.plan.wait⟩ : Task) := List.getElem?_set_self (List.getElem?_eq_some_iff.1 hti).1
    have hss : ((gZ r (e.task).toNat t out.now).tasks).set (e.task).toNat (⟨3, t.need, t.try_ + 1, out.now + r.plan.wait⟩ : Task) = (gZ r (e.task).toNat t out.now).tasks := by unfold gZ; simp only [List.set_set]
    have hq_ := lV st362.f1
    obtain ⟨v364_0, v364_1, g364_0, g364_1, he364, hok364, st365⟩ := hq_
    subst he364
    have hq_ := St.lendx (α := Task) aX st365.f1 (x := (⟨3, t.need, t.try_ + 1, out.now + r.plan.wait⟩ : Task)) ht2
    obtain ⟨b369, e369, pre369, cs369, post369, fi369, fr369, hPA369, hC369, st370⟩ := hq_
    obtain ⟨he369, hf369, hok369⟩ := hC369; have he369 : _ = [I (⟨3, t.need, t.try_ + 1, out.now + r.plan.wait⟩ : Task).state, I (⟨3, t.need, t.try_ + 1, out.now + r.plan.wait⟩ : Task).need, I (⟨3, t.need, t.try_ + 1, out.now + r.plan.wait⟩ : Task).try_, I (⟨3, t.need, t.try_ + 1, out.now + r.plan.wait⟩ : Task).until_] := he369; subst he369
    refine wX 18 [17] (fun q => match q with | 0 => Res.bx b6 [I 0, I 0, .slice none 0 0, .slice none 0 0] 34 | _ => Res.bx b6 [I out.now, I out.seq, v263_0, v263_1] 34) [Pl.is (.agg #[I out.now, I out.seq, v263_0, v263_1]), Pl.is (.pointer (some ⟨b279, 0 + 2, none⟩)), Pl.is (I e.run), Pl.is (.pointer (some ⟨b279, 0 + 3, none⟩)), Pl.is (I e.task), Pl.is (.pointer (some ⟨b74, 0 + 3, none⟩)), Pl.is (v263_1) (oW hPA336), Pl.is (I (k : Int)), Pl.is (.pointer (some ⟨b336, pre336.length, none⟩)), Pl.is (.pointer (some ⟨b336, pre336.length + 7, none⟩)), Pl.is (v364_1) (oW hPA369), Pl.is (.pointer (some ⟨b279, 0 + 3, none⟩)), Pl.is (I e.task), Pl.is (.pointer (some ⟨b369, pre369.length, none⟩)), Pl.is (.pointer (some ⟨b369, pre369.length + 2, none⟩)), Pl.is (I (⟨3, t.need, t.try_ + 1, out.now + r.plan.wait⟩ : Task).try_), Pl.is (.agg #[I 0, I e.run, I e.task, I (⟨3, t.need, t.try_ + 1, out.now + r.plan.wait⟩ : Task).try_]), Pl.off] mix (by rfl) (by rfl) (by rfl) st370.d1.f12 ⟨fun _ _ _ h => h, fun _ _ _ h => h, fun _ _ _ h => h, fun _ _ _ h => h, fun _ _ _ h => h, fun _ _ _ h => h, fun _ _ _ h => h, fun _ _ _ h => h, fun _ _ _ h => h, fun _ _ _ h => h, fun _ _ _ h => h, fun _ _ _ h => h, fun _ _ _ h => h, fun _ _ _ h => h, fun _ _ _ h => h, fun _ _ _ h => h, fun _ _ _ h => h, fun _ _ _ h => h, trivial⟩ ⟨(fun f W r_ hst hd hf => aV (cs := [I out.now, I out.seq, v263_0, v263_1]) bM rfl ((hf 9 rfl).trans ((hf353 9 rfl).trans (h331_.at 9))) (hst.get 11 rfl) rfl rfl ⟨hst, rfl⟩), (fun f W r_ hst hd hf => aH uI ((hf 14 rfl).trans ((hf353 14 rfl).trans (h331_.at 14))) ⟨hst, rfl⟩), (fun f W r_ hst hd hf => aU eF rfl (hd 1 128 rfl rfl) (hst.get 9 rfl) (i := 2) rfl rfl ⟨hst, rfl⟩), (fun f W r_ hst hd hf => aH mQ ((hf 14 rfl).trans ((hf353 14 rfl).trans (h331_.at 14))) ⟨hst, rfl⟩), (fun f W r_ hst hd hf => aU eF rfl (hd 3 130 rfl rfl) (hst.get 9 rfl) (i := 3) rfl rfl ⟨hst, rfl⟩), (fun f W r_ hst hd hf => aH gH ((hf 9 rfl).trans ((hf353 9 rfl).trans (h331_.at 9))) ⟨hst, rfl⟩), (fun f W r_ hst hd hf => aU lE rfl (hd 5 132 rfl rfl) (hst.get 11 rfl) (i := 3) rfl rfl ⟨hst, rfl⟩), (fun f W r_ hst hd hf => aF (v := I (k : Int)) ((hf 17 rfl).trans ((hf353 17 rfl).trans (h331_.at 17))) ⟨hst, rfl⟩), (fun f W r_ hst hd hf => aN iY (hd 6 133 rfl rfl) hPA336 (hd 7 134 rfl rfl) rfl ⟨hst, rfl⟩), (fun f W r_ hst hd hf => aH jC (hd 8 135 rfl rfl) ⟨hst, rfl⟩), (fun f W r_ hst hd hf => gY nL rfl (hd 9 136 rfl rfl) (hst.get 4 rfl) (i := 7) rfl rfl ⟨hst, rfl⟩), (fun f W r_ hst hd hf => aH mQ ((hf 14 rfl).trans ((hf353 14 rfl).trans (h331_.at 14))) ⟨hst, rfl⟩), (fun f W r_ hst hd hf => aU eF rfl (hd 11 138 rfl rfl) (hst.get 9 rfl) (i := 3) rfl rfl ⟨hst, rfl⟩), (fun f W r_ hst hd hf => aN jT (hd 10 137 rfl rfl) hPA369 (hd 12 139 rfl rfl) aD ⟨hst, rfl⟩), (fun f W r_ hst hd hf => aH wF (hd 13 140 rfl rfl) ⟨hst, rfl⟩), (fun f W r_ hst hd hf => gY eF rfl (hd 14 141 rfl rfl) (hst.get 1 rfl) (i := 2) rfl rfl ⟨hst, rfl⟩), (fun f W r_ hst hd hf => eJ (vs := [(1, I e.run), (2, I e.task), (3, I (⟨3, t.need, t.try_ + 1, out.now + r.plan.wait⟩ : Task).try_)]) (cs := [I 0, I e.run, I e.task, I (⟨3, t.need, t.try_ + 1, out.now + r.plan.wait⟩ : Task).try_]) (cY (v := I e.run) (hd 2 129 rfl rfl) (cY (v := I e.task) (hd 4 131 rfl rfl) (cY (v := I (⟨3, t.need, t.try_ + 1, out.now + r.plan.wait⟩ : Task).try_) (hd 15 142 rfl rfl) eA))) aE ⟨hst, rfl⟩), (⟨rfl, fun f W hst hd hf => aM (cs := [I out.now, I out.seq, v263_0, v263_1]) (C' := [I out.now, I out.seq, v263_0, v263_1]) aE ((hf 6 rfl).trans ((hf353 6 rfl).trans (h331_.at 6))) (hd 0 127 rfl rfl) (aG rfl (aG rfl (aG (Sl.one (aI (hst.get 7 rfl))) (aG (vA hPA336) bK)))) hst bP rfl (fun W2 st2 => ⟨st2, rfl⟩)⟩), trivial⟩ ?_
    intro f376 W377 st378 hv380 hf381
    refine sgn (aM (cs := [I 0, I e.run, I e.task, I (⟨3, t.need, t.try_ + 1, out.now + r.plan.wait⟩ : Task).try_]) (C' := [I 0, I e.run, I e.task, I (⟨3, t.need, t.try_ + 1, out.now + r.plan.wait⟩ : Task).try_]) aE ((hf381 7 rfl).trans ((hf353 7 rfl).trans (h331_.at 7))) (hv380 16 143 aX rfl) (aG rfl (aG rfl (aG rfl (aG rfl bK)))) st378.f12 bP rfl ?_); intro W384 st385
    refine aB (wr (sJ bM rfl fZ rfl Tryz.results66 ((hf381 6 rfl).trans ((hf353 6 rfl).trans (h331_.at 6))) (st385.get 1 rfl) rfl ((hf381 7 rfl).trans ((hf353 7 rfl).trans (h331_.at 7))) (st385.get 0 rfl) rfl ?_))
    have st386 := st385.cs0 (cs := [I (⟨3, t.need, t.try_ + 1, out.now + r.plan.wait⟩ : Task).state, I (⟨3, t.need, t.try_ + 1, out.now + r.plan.wait⟩ : Task).need, I (⟨3, t.need, t.try_ + 1, out.now + r.plan.wait⟩ : Task).try_, I (⟨3, t.need, t.try_ + 1, out.now + r.plan.wait⟩ : Task).until_]) (x := (⟨3, t.need, t.try_ + 1, out.now + r.plan.wait⟩ : Task)) ⟨rfl, rfl, hok369⟩
    have hq_ := St.give (α := Task) st386.f4.f1.f4
    obtain ⟨fp391, st392⟩ := hq_
    rw [hss] at st392
    have st393 := st392.f3
    have st394 := iH (x := (gZ r (e.task).toNat t out.now)) st393 (show Run.ok _ from hRI.small.1)
    have st396 := st394.cs rfl
    have hq_ := St.give (α := Run) st396.f5.f1.f4
    obtain ⟨fp400, st401⟩ := hq_
    have st403 := eN (x := (⟨out.now, out.seq, out.shelf.set (worker % 4).toNat rest, out.runs.set k (gZ r (e.task).toNat t out.now)⟩ : Yard)) st401.f4 (show Yard.ok _ from hoo)
    try dsimp only at st403
    have st405 := st403.d1
    have st412 := st405.d1.d1.d1.d1.d1.d1.d1
    have hfe : aP y worker draw = ((⟨out.now, out.seq, out.shelf.set (worker % 4).toNat rest, out.runs.set k (gZ r (e.task).toNat t out.now)⟩ : Yard), ⟨0, e.run, e.task, t.try_ + 1⟩) := by unfold aP; rw [if_neg (by rw [(bG h21)]; decide), if_neg (by rw [(bG h45)]; decide), ← hout]; exact vZ hxe hixo hro hti
    rw [hfe]
    exact ⟨_, _, rfl, (by have h1_ := heo; simp only [Entry.ok, Reply.ok, I64] at *; omega), st412⟩
def mX (t : Task) : Task := ⟨if t.need - 1 = 0 then 2 else t.state, t.need - 1, t.try_, t.until_⟩
def oV (ts : List Task) (k : Int) : List Task := match ts[k.toNat]? with | some t => ts.set k.toNat (mX t) | none => ts
def jM (ts : List Task) (l : List Int) : List Task := l.foldl oV ts
theorem wN (ts : List Task) (l : List Int) : jM ts (l.take 0) = ts := rfl
theorem behSt_at {ts : List Task} {k : Int} {t : Task} (h : ts[k.toNat]? = some t) : oV ts k = ts.set k.toNat (mX t) := by unfold oV; rw [h]
theorem sW {ts : List Task} {l : List Int} {j : Nat} {k : Int} {t u : Task} (hl : l[j]? = some k) (h : (jM ts (l.take j))[k.toNat]? = some t) (hu : mX t = u) : jM ts (l.take (j + 1)) = (jM ts (l.take j)).set k.toNat u := by
 obtain ⟨hj, rfl⟩ := List.getElem?_eq_some_iff.1 hl
 rw [List.take_succ_eq_append_getElem hj]
 unfold jM at h ⊢
 rw [List.foldl_append, List.foldl_cons, List.foldl_nil, behSt_at h, hu]
theorem zU {t : Task} (h : t.need - 1 = 0) : mX t = ⟨2, t.need - 1, t.try_, t.until_⟩ := by unfold mX; rw [if_pos h]
theorem zT {t : Task} (h : ¬ t.need - 1 = 0) : mX t = ⟨t.state, t.need - 1, t.try_, t.until_⟩ := by unfold mX; rw [if_neg h]
theorem behSt_len (ts : List Task) (k : Int) : (oV ts k).length = ts.length := by unfold oV; split <;> simp
theorem nR (ts : List Task) : ∀ l : List Int, (jM ts l).length = ts.length
 | [] => rfl
 | k :: l => by
  show (jM (oV ts k) l).length = _
  rw [nR _ l, behSt_len]
theorem behSt_all {P : Task → Prop} {ts : List Task} (h : ∀ t ∈ ts, P t) (hs : ∀ t, P t → P (mX t)) (k : Int) : ∀ t ∈ oV ts k, P t := by
 intro t ht
 unfold oV at ht
 split at ht
 ·next u hu =>
  rcases List.mem_or_eq_of_mem_set ht with h1 | rfl
  ·exact h t h1
  ·exact hs u (h u (List.mem_of_getElem? hu))
 ·exact h t ht
theorem uS {P : Task → Prop} (hs : ∀ t, P t → P (mX t)) : ∀ (l : List Int) {ts : List Task}, (∀ t ∈ ts, P t) → ∀ t ∈ jM ts l, P t
 | [], ts, h => h
 | k :: l, ts, h => uS hs l (behSt_all h hs k)
theorem behSt_need {ts : List Task} {a b : Int} (h : ∀ t ∈ ts, a ≤ t.need ∧ t.need ≤ b) (k : Int) : ∀ t ∈ oV ts k, a - 1 ≤ t.need ∧ t.need ≤ b := by
 intro t ht
 unfold oV at ht
 split at ht
 ·next u hu =>
  rcases List.mem_or_eq_of_mem_set ht with h1 | rfl
  ·have := h t h1; omega
  ·have := h u (List.mem_of_getElem? hu)
   simp only [mX]; omega
 ·have := h t ht; omega
theorem wO : ∀ (l : List Int) {ts : List Task} {a b : Int}, (∀ t ∈ ts, a ≤ t.need ∧ t.need ≤ b) → ∀ t ∈ jM ts l, a - l.length ≤ t.need ∧ t.need ≤ b
 | [], ts, a, b, h => fun t ht => by have := h t ht; simp; omega
 | k :: l, ts, a, b, h => fun t ht => by
  have := wO l (behSt_need h k) t ht
  simp only [List.length_cons]; omega
noncomputable def dF (r : Run) (i : Nat) (t : Task) : List Task := jM (r.tasks.set i ⟨4, t.need, t.try_, 0⟩) (cS r.plan (i : Int))
noncomputable def yI (r : Run) (i : Nat) (t : Task) : Run := ⟨r.id, r.plan, if cM (dF r i t) 4 = ((dF r i t).length : Int) then 2 else r.state, dF r i t⟩
noncomputable def fJ (r : Run) (i : Nat) : Run := match r.tasks[i]? with | some t => yI r i t | none => r
theorem rA {r : Run} {i : Nat} {t : Task} (h : r.tasks[i]? = some t) : fJ r i = yI r i t := by unfold fJ; rw [h]
theorem uK (r : Run) (i : Nat) (t : Task) : (dF r i t).length = r.tasks.length := by unfold dF; rw [nR, List.length_set]
theorem lI (r : Run) (i : Nat) : (fJ r i).id = r.id ∧ (fJ r i).plan = r.plan ∧ (fJ r i).tasks.length = r.tasks.length ∧ ((fJ r i).state = r.state ∨ (fJ r i).state = 2) := by
 unfold fJ
 split
 ·next t h =>
  refine ⟨rfl, rfl, uK r i t, ?_⟩
  show (if _ then (2 : Int) else r.state) = _ ∨ (if _ then (2 : Int) else r.state) = _
  split
  ·exact .inr rfl
  ·exact .inl rfl
 ·exact ⟨rfl, rfl, rfl, .inl rfl⟩
theorem yJ {r : Run} (h : r.ok) (i : Nat) : (fJ r i).ok := by
 obtain ⟨h1, h2, h3, h4⟩ := lI r i
 unfold Run.ok at h ⊢
 rw [h1, h2]
 refine ⟨h.1, h.2.1, ?_⟩
 rcases h4 with h4 | h4
 ·rw [h4]; exact h.2.2
 ·rw [h4]; unfold I64; omega
theorem sP {r : Run} (h : RunIs r) {i : Nat} {t : Task} (ht : r.tasks[i]? = some t) (h3 : t.state = 3) : dM (dF r i t) = (if cM (dF r i t) 4 = ((dF r i t).length : Int) then 2 else r.state) := by
 have hm := List.mem_of_getElem? ht
 have hl := h.live hm h3
 have h56 : ∀ u ∈ dF r i t, ¬ u.state = 5 ∧ ¬ u.state = 6 := by
  unfold dF
  refine uS (P := fun u => ¬ u.state = 5 ∧ ¬ u.state = 6) (fun u hu => ?_) _ (fun u hu => ?_)
  ·unfold mX; simp only; split
   ·omega
   ·exact hu
  ·rcases List.mem_or_eq_of_mem_set hu with h1 | rfl
   ·exact h.none5 hm h3 u h1
   ·exact ⟨by show ¬ (4 : Int) = 5; omega, by show ¬ (4 : Int) = 6; omega⟩
 have c5 := sB (s := 5) (fun u hu => (h56 u hu).1)
 have c6 := sB (s := 6) (fun u hu => (h56 u hu).2)
 unfold dM
 by_cases c4 : cM (dF r i t) 4 = ((dF r i t).length : Int)
 ·rw [if_pos c4, if_pos c4]
 ·rw [if_neg c4, if_neg c4, if_neg aD, if_neg aD, if_pos ⟨c5, c6⟩, hl.1]
theorem doneTs_st {r : Run} (h : RunIs r) {i : Nat} {t : Task} (ht : r.tasks[i]? = some t) : ∀ u ∈ dF r i t, 1 ≤ u.state ∧ u.state ≤ 6 := by
 unfold dF
 refine uS (P := fun u => 1 ≤ u.state ∧ u.state ≤ 6) (fun u hu => ?_) _ (fun u hu => ?_)
 ·unfold mX; simp only; split
  ·omega
  ·exact hu
 ·rcases List.mem_or_eq_of_mem_set hu with h1 | rfl
  ·obtain ⟨k, hk, rfl⟩ := List.getElem_of_mem h1
   exact (h.task k hk hk).1
  ·exact ⟨by show (1 : Int) ≤ 4; omega, by show (4 : Int) ≤ 6; omega⟩
theorem RunIs.need {r : Run} (h : RunIs r) : ∀ t ∈ r.tasks, 0 ≤ t.need ∧ t.need ≤ 30 := by
 intro t ht
 obtain ⟨k, hk, rfl⟩ := List.getElem_of_mem ht
 have h2 := (h.task k hk hk).2.1
 have h3 := pF r (cH r.plan (k : Int))
 have h4 := kV r.plan (k : Int)
 rw [h2]; unfold iN; omega
theorem wH {r : Run} (h : RunIs r) {i : Nat} {t : Task} (ht : r.tasks[i]? = some t) (l : List Int) (hl : l.length ≤ 30) : ∀ u ∈ jM (r.tasks.set i ⟨4, t.need, t.try_, 0⟩) l, -30 ≤ u.need ∧ u.need ≤ 30 := by
 intro u hu
 have := wO l (a := 0) (b := 30) (fun u hu => by
  rcases List.mem_or_eq_of_mem_set hu with h1 | rfl
  ·exact h.need u h1
  ·exact h.need t (List.mem_of_getElem? ht)) u hu
 omega
theorem oY {i : Int} (h : 0 ≤ i) : ((i.toNat : Nat) : Int) = i := by omega
theorem RunIs.ilen {r : Run} (h : RunIs r) : r.plan.tasks = (r.tasks.length : Int) := h.len.symm
noncomputable def gE (r : Run) (task : Int) : Run := if nG r task then fJ r task.toNat else r
theorem tL {r : Run} (h : RunIs r) {task : Int} {t : Task} (h0 : 0 ≤ task) (ht : r.tasks[task.toNat]? = some t) (h3 : t.state = 3) : gE r task = fJ r task.toNat := by
 have hl := (List.getElem?_eq_some_iff.1 ht).1
 have hb : nG r task = true := by
  unfold nG
  rw [runIs.2 h, inB_iff'.2 (show 0 ≤ task ∧ task ≤ (r.tasks.length : Int) - 1 by omega), ht]
  simp [h3]
 unfold gE
 rw [if_pos hb]

theorem DoneI {w W0 : World} {ty : TypeId} {rs : List Res} {b : Nat} {pre cs post : List Value} {r : Run} {fp : List Nat} (hst : St w W0 (Res.bx b (pre ++ cs ++ post) ty :: Res.own (.agg cs.toArray) r fp :: rs)) (task : Int) {t : Task} (h0 : 0 ≤ task) (hti : r.tasks[(task).toNat]? = some t) (hRI : RunIs r) :
  Calls Tryz.prog 129 #[.pointer (some ⟨b, pre.length, none⟩), I task] W0 fun e w' => ∃ (cs' : List Value) (fp' : List Nat), e = .returned (.tuple #[]) ∧ St w w' (Res.bx b (pre ++ cs' ++ post) ty :: Res.own (.agg cs'.toArray) (fJ r (task).toNat) fp' :: rs) := by
 have hil := (List.getElem?_eq_some_iff.1 hti).1
 have hrok : r.ok := hRI.small.1
 have hsm := hRI.small
 have hbl := uR r.plan task
 have hle := hRI.ilen
 refine bR Tryz.func129 rfl Tryz.ntmps129 aX (wp_seq (aA ?_))
 have st2 := hst.f1
 have hq_ := lV st2
 obtain ⟨v3_0, v3_1, g3_0, g3_1, he3, hok3, st4⟩ := hq_
 subst he3
 refine rn st4 5 Ag.nil.put.put [] [(10, v3_1), (11, I task)] [qp 2 rfl 7] aE fun f7 h7_ => ?_
 have hq_ := St.lendx (α := Task) aX st4.f1 (x := t) hti
 obtain ⟨b9, e9, pre9, cs9, post9, fi9, fr9, hPA9, hC9, st10⟩ := hq_
 obtain ⟨he9, hf9, hok9⟩ := hC9; have he9 : _ = [I t.state, I t.need, I t.try_, I t.until_] := he9; subst he9
 refine sg (aN jT (h7_.at 10) hPA9 (h7_.at 11) aD (sg (aH iB rfl (sgn (bE (i := 0) (v := I 4) (C' := [I 4, I t.need, I t.try_, I t.until_]) aE rfl rfl rfl rfl st10.d1 rfl bP rfl ?_))))); intro W17 st18
 refine aB (wp_seq (aA (rn st18 7 h7_.put.put [] [(20, .pointer (some ⟨b9, pre9.length + 3, none⟩))] [qp 3 rfl 7, qxe hPA9 (e := task) aD] aE fun f20 h20_ => (sgn (bE (i := 3) (v := I 0) (C' := [I 4, I t.need, I t.try_, I 0]) aE (h20_.at 20) rfl rfl rfl st18 rfl bP rfl ?_))))); intro W21 st22
 refine aB (wp_seq (wp_seq (aA (sg (aF (v := .pointer (some ⟨b, pre.length, none⟩)) (h20_.at 0) (sg (fW rfl ?_)))))))
 have st25 := st22.cs0 (cs := [I 4, I t.need, I t.try_, I 0]) (x := (⟨4, t.need, t.try_, 0⟩ : Task)) ⟨rfl, rfl, eS⟩
 have hq_ := St.give (α := Task) st25.f2.f1.f2
 obtain ⟨fp30, st31⟩ := hq_
 refine rn st31 3 h20_.put.put [] [(24, .agg #[I r.plan.prio, I r.plan.most, I r.plan.wait, I r.plan.tasks, v3_0]), (25, I task)] [qp 2 rfl 1] aE fun f33 h33_ => (sg (bJ Tryz.func188 rfl (h33_.at 24) (h33_.at 25) ((BehindOfI W21 (show Shape.C _ [I r.plan.prio, I r.plan.most, I r.plan.wait, I r.plan.tasks, v3_0] r.plan _ from ⟨_, _, rfl, eS, (aI (st31.get 1 rfl)), rfl⟩) task).mono ?_))); rintro _ W36 ⟨v34, fp34, rfl, hk37⟩; refine ⟨_, rfl, ?_⟩
 have st38 := St.call st31 hk37
 refine sg (fK eP rfl (aI (st38.get 0 rfl)) (sg (aF (v := I 0) rfl (aB (wp_block (aY (fun (m : Nat) (f : Nat → Value) (W : World) => ∃ (j : Nat) (fo42 : List Nat), j ≤ (cS r.plan task).length ∧ m = (cS r.plan task).length - j ∧ Ag [(0, .pointer (some ⟨b, pre.length, none⟩)), (26, v34), (27, I ((cS r.plan task).length : Int)), (28, I (j : Int))] f ∧ St w W (Res.own (α := List Int) v34 (cS r.plan task) fp34 :: Res.own (α := List Task) v3_1 (jM (r.tasks.set (task).toNat ⟨4, t.need, t.try_, 0⟩) ((cS r.plan task).take j)) fo42 :: Res.own (α := List Edge) v3_0 r.plan.edges g3_0 :: Res.bx b (pre ++ [I r.id, I r.plan.prio, I r.plan.most, I r.plan.wait, I r.plan.tasks, v3_0, I r.state, v3_1] ++ post) ty :: rs)) ((cS r.plan task).length - 0) ?_ ?_))))))
 ·exact ⟨0, fp30, Nat.zero_le _, rfl, (h33_.put.put.put.to aE), (by rw [wN]; exact st38)⟩
 intro m43 f44 W45 hJ46
 obtain ⟨j, fo42, hcd48_0, rfl, hA48, st47⟩ := hJ46
 refine wp_seq (aA (sg (bS (hA48.at 28) (hA48.at 27) (aB (wp_seq (aK rfl (fun h51p => ?_) (fun h51p => ?_)))))))
 ·refine wp_skip (wp_seq (wp_block (wp_seq (aA ?_))))
  have hq_ := eH (xs := (cS r.plan task)) (i := j) aD
  obtain ⟨kb, hkb⟩ := hq_
  have hi7cbc5 : j < (cS r.plan task).length := (List.getElem?_eq_some_iff.1 hkb).1
  have hq_ := gT (aI (st47.get 0 rfl)) (i := j) hkb
  obtain ⟨b52, o52, cs52, f52, hp52, hr52, hc52, hm52⟩ := hq_
  have hk52 := hc52
  obtain ⟨rfl, rfl, hok52⟩ := hk52
  refine rn st47 3 hA48.put [] [(5, I kb)] [qx hp52, qn hr52 0] aE fun f54 h54_ => (aB (wp_seq (aA (rn st47 5 h54_ [] [(35, v3_1), (36, I kb)] [qp 3 rfl 7] aE fun f56 h56_ => ?_))))
  have hkr := uQ r.plan task kb (List.mem_of_getElem? hkb)
  have hql := nR (r.tasks.set (task).toNat ⟨4, t.need, t.try_, 0⟩) ((cS r.plan task).take j)
  rw [List.length_set] at hql
  have hq_ := eH (xs := jM (r.tasks.set (task).toNat ⟨4, t.need, t.try_, 0⟩) ((cS r.plan task).take j)) (i := (kb).toNat) aD
  obtain ⟨u, huu⟩ := hq_
  have hun := wH hRI hti ((cS r.plan task).take j) (by rw [List.length_take]; omega) u (List.mem_of_getElem? huu)
  have hq_ := St.lendx (α := Task) aX st47.f1 (x := u) huu
  obtain ⟨b58, e58, pre58, cs58, post58, fi58, fr58, hPA58, hC58, st59⟩ := hq_
  obtain ⟨he58, hf58, hok58⟩ := hC58; have he58 : _ = [I u.state, I u.need, I u.try_, I u.until_] := he58; subst he58
  refine sg (aN jT (h56_.at 35) hPA58 (h56_.at 36) aD (sg (aC (v := .pointer (some ⟨b58, pre58.length, none⟩)) rfl (aB (wp_seq (aA (rn st59.d1 7 h56_.put.put [] [(42, I (u.need - 1)), (44, .pointer (some ⟨b58, pre58.length + 1, none⟩))] [qp 0 rfl 1, qsb u.need 1] aE fun f67 h67_ => (sgn (bE (i := 1) (v := I (u.need - 1)) (C' := [I u.state, I (u.need - 1), I u.try_, I u.until_]) aE (h67_.at 44) (h67_.at 42) rfl rfl st59.d1 rfl bP rfl ?_))))))))); intro W68 st69
  refine aB (wp_seq (aA (rn st69 5 h67_ [] [(49, .bool (decide ((u.need - 1) = 0)))] [qp 0 rfl 1, .o] aE fun f71 h71_ => (aB (aK (h71_.at 49) (fun h72p => ?_) (fun h72p => ?_))))))
  ·refine aA (rn st69 3 h71_ [] [(52, .pointer (some ⟨b58, pre58.length, none⟩))] [] aE fun f74 h74_ => (sgn (bE (i := 0) (v := I 2) (C' := [I 2, I (u.need - 1), I u.try_, I u.until_]) aE (h74_.at 52) rfl rfl rfl st69 rfl bP rfl ?_))); intro W75 st76
   refine aB (aA (sg (bY (h74_.at 28) rfl dX (sg (aF (v := I ((j : Int) + 1)) rfl (aB ?_))))))
   have st79 := st76.cs0 (cs := [I 2, I (u.need - 1), I u.try_, I u.until_]) (x := (⟨2, u.need - 1, u.try_, u.until_⟩ : Task)) ⟨rfl, rfl, eS⟩
   have hq_ := St.give (α := Task) st79.f2.f1.f2
   obtain ⟨fp84, st85⟩ := hq_
   exact ⟨_, (cS r.plan task).length - (j + 1), aD, rfl, j + 1, fp84, aD, rfl, (h74_.put.put.to aE), (by rw [sW hkb huu (zU h72p)]; exact st85.f3.f3.f2.f3)⟩
  ·refine wp_skip (aA (sg (bY (h71_.at 28) rfl dX (sg (aF (v := I ((j : Int) + 1)) rfl (aB ?_))))))
   have st92 := st69.cs0 (cs := [I u.state, I (u.need - 1), I u.try_, I u.until_]) (x := (⟨u.state, u.need - 1, u.try_, u.until_⟩ : Task)) ⟨rfl, rfl, eS⟩
   have hq_ := St.give (α := Task) st92.f2.f1.f2
   obtain ⟨fp97, st98⟩ := hq_
   exact ⟨_, (cS r.plan task).length - (j + 1), aD, rfl, j + 1, fp97, aD, rfl, (h71_.put.put.to aE), (by rw [sW hkb huu (zT h72p)]; exact st98.f3.f3.f2.f3)⟩
 ·refine wp_exit (wp_seq (oZ [Pl.is (.pointer (some ⟨b, pre.length, none⟩)), Pl.is (.pointer (some ⟨b, pre.length, none⟩)), Pl.is (.agg #[I r.id, I r.plan.prio, I r.plan.most, I r.plan.wait, I r.plan.tasks, v3_0, I r.state, v3_1]), Pl.ssl (α := Int) (bC (⟨r.id, ⟨r.plan.prio, r.plan.most, r.plan.wait, r.plan.tasks, r.plan.edges⟩, r.state, jM (r.tasks.set (task).toNat ⟨4, t.need, t.try_, 0⟩) ((cS r.plan task).take j)⟩ : Run).tasks 4), Pl.is (I ((bC (⟨r.id, ⟨r.plan.prio, r.plan.most, r.plan.wait, r.plan.tasks, r.plan.edges⟩, r.state, jM (r.tasks.set (task).toNat ⟨4, t.need, t.try_, 0⟩) ((cS r.plan task).take j)⟩ : Run).tasks 4).length : Int)), Pl.is (.pointer (some ⟨b, pre.length, none⟩)), Pl.is (.pointer (some ⟨b, pre.length, none⟩)), Pl.is (.pointer (some ⟨b, pre.length + 7, none⟩)), Pl.is (v3_1) (Sl.yl (aI (st47.get 1 rfl))), Pl.is (I ((jM (r.tasks.set (task).toNat ⟨4, t.need, t.try_, 0⟩) ((cS r.plan task).take j)).length : Int)), Pl.bool (decide (((bC (⟨r.id, ⟨r.plan.prio, r.plan.most, r.plan.wait, r.plan.tasks, r.plan.edges⟩, r.state, jM (r.tasks.set (task).toNat ⟨4, t.need, t.try_, 0⟩) ((cS r.plan task).take j)⟩ : Run).tasks 4).length : Int) = ((jM (r.tasks.set (task).toNat ⟨4, t.need, t.try_, 0⟩) ((cS r.plan task).take j)).length : Int)))] mix (by rfl) st47 ⟨(fun f W hst hbl hd hf => aF (v := .pointer (some ⟨b, pre.length, none⟩)) ((hf 0 rfl).trans (hA48.at 0)) brq), (fun f W hst hbl hd hf => fW (hd 0 54 rfl rfl) brq), (fun f W hst hbl hd hf => pX (cs := [I r.id, I r.plan.prio, I r.plan.most, I r.plan.wait, I r.plan.tasks, v3_0, I r.state, v3_1]) eC rfl (hd 1 55 rfl rfl) (hst.get 3 rfl) (i := 0) rfl rfl rfl brq), (fun f W hst hbl hd hf => bJ Tryz.func162 rfl (hd 2 56 rfl rfl) rfl ((mC W (show Shape.C _ [I r.id, I r.plan.prio, I r.plan.most, I r.plan.wait, I r.plan.tasks, v3_0, I r.state, v3_1] (⟨r.id, ⟨r.plan.prio, r.plan.most, r.plan.wait, r.plan.tasks, r.plan.edges⟩, r.state, jM (r.tasks.set (task).toNat ⟨4, t.need, t.try_, 0⟩) ((cS r.plan task).take j)⟩ : Run) _ from ⟨_, _, _, _, rfl, eS, (aI (hst.get 2 rfl)), (aI (hst.get 1 rfl)), rfl⟩) 4 (show (jM _ _).length ≤ 1048576 from by rw [nR, List.length_set]; omega)).mono (by rintro e W2 ⟨v, fp, rfl, hk⟩; exact ⟨_, rfl, hk.below, fp, aI (hk.get 0 rfl)⟩))), (fun f W hst hbl hd hf => by obtain ⟨fp105, h105⟩ := hd 3 57 rfl rfl; exact fK eP rfl h105 brq), (fun f W hst hbl hd hf => aF (v := .pointer (some ⟨b, pre.length, none⟩)) ((hf 0 rfl).trans (hA48.at 0)) brq), (fun f W hst hbl hd hf => fW (hd 5 59 rfl rfl) brq), (fun f W hst hbl hd hf => aH jC (hd 6 60 rfl rfl) brq), (fun f W hst hbl hd hf => gY nL rfl (hd 7 61 rfl rfl) (hst.get 3 rfl) (i := 7) rfl rfl brq), (fun f W hst hbl hd hf => fK jT (hd 8 62 rfl rfl) (aI (hst.get 1 rfl)) brq), (fun f W hst hbl hd hf => dI (hd 4 58 rfl rfl) (hd 9 63 rfl rfl) brq), trivial⟩ ?_))
  intro f106 W107 st108 hb109 hv110 hf111
  refine aK (hv110 10 64 aX rfl) (fun h113p => ?_) (fun h113p => ?_)
  ·refine aA (rn st108 3 (Ag.cons (show f106 0 = .pointer (some ⟨b, pre.length, none⟩) from ((hf111 0 rfl).trans (hA48.at 0))) Ag.nil) [] [(67, .pointer (some ⟨b, pre.length + 6, none⟩))] [] aE fun f115 h115_ => ?_)
   have st116 := st108.f3
   refine sgn (bE (i := 6) (v := I 2) (C' := [I r.id, I r.plan.prio, I r.plan.most, I r.plan.wait, I r.plan.tasks, v3_0, I 2, v3_1]) aE (h115_.at 67) rfl rfl rfl st116 rfl bP rfl ?_); intro W117 st118
   refine aB ?_
   repeat (first | refine lR ?_ | refine nQ ?_ | refine lZ rfl ?_)
   refine end0 Tryz.results129 ?_
   have hje : j = (cS r.plan task).length := by omega
   have hDe : jM (r.tasks.set (task).toNat ⟨4, t.need, t.try_, 0⟩) ((cS r.plan task).take j) = dF r (task).toNat t := by rw [hje, List.take_length]; unfold dF; rw [oY h0]
   have hcn : (cM (dF r (task).toNat t) 4 = ((dF r (task).toNat t).length : Int)) := by have hp_ := h113p; rw [← hDe, ← jS]; exact hp_
   have hfT : fJ r (task).toNat = (⟨r.id, r.plan, 2, dF r (task).toNat t⟩ : Run) := by rw [rA hti]; unfold yI; rw [if_pos hcn]
   rw [hDe] at st118
   have st119 := st118.f2
   have st121 := iH (x := (⟨r.id, r.plan, 2, dF r (task).toNat t⟩ : Run)) st119.f3 (show Run.ok _ from by have hrk := hrok; simp only [Run.ok, Plan.ok, I64] at *; omega)
   try dsimp only at st121
   have st123 := st121.f1
   rw [hfT]
   exact ⟨_, _, rfl, st123.d2⟩
  ·refine wp_skip ?_
   repeat (first | refine lR ?_ | refine nQ ?_ | refine lZ rfl ?_)
   refine end0 Tryz.results129 ?_
   have hje : j = (cS r.plan task).length := by omega
   have hDe : jM (r.tasks.set (task).toNat ⟨4, t.need, t.try_, 0⟩) ((cS r.plan task).take j) = dF r (task).toNat t := by rw [hje, List.take_length]; unfold dF; rw [oY h0]
   have hcn : ¬ (cM (dF r (task).toNat t) 4 = ((dF r (task).toNat t).length : Int)) := by have hp_ := h113p; rw [← hDe, ← jS]; exact hp_
   have hfT : fJ r (task).toNat = (⟨r.id, r.plan, r.state, dF r (task).toNat t⟩ : Run) := by rw [rA hti]; unfold yI; rw [if_neg hcn]
   rw [hDe] at st108
   have st125 := st108.f1
   have st127 := iH (x := (⟨r.id, r.plan, r.state, dF r (task).toNat t⟩ : Run)) st125.f2 (show Run.ok _ from by have hrk := hrok; simp only [Run.ok, Plan.ok, I64] at *; omega)
   try dsimp only at st127
   have st129 := st127.f2
   rw [hfT]
   exact ⟨_, _, rfl, st129.d2⟩
theorem RunDoneS (w : World) {r : Run} {cs : List Value} {fp : List Nat} (hc : Shape.C w cs r fp) (task : Int) (hw : r.wt ≤ 1048576) :
  Calls Tryz.prog 120 #[.agg cs.toArray, I task] w fun e w' => ∃ (cs' : List Value) (fp' : List Nat), e = .returned (.agg cs'.toArray) ∧ St w w' [Res.own (.agg cs'.toArray) (gE r task) fp'] := by
 have hrw : r.tasks.length ≤ r.wt := by unfold Run.wt; omega
 refine bR Tryz.func120 rfl Tryz.ntmps120 aX (wp_seq (aA (sg (aJ (cs := cs) rfl (St.start w) ?_)))); intro b1 W2 hb3 st4
 refine sg (aR jV st4 ?_); intro b6 W7 hb8 st9
 refine aB (wp_seq (aA (sg (bB eC rfl rfl (st9.get 1 rfl) (Shape.len hc) (sg (bF Tryz.func136 rfl rfl ((vB W7 (bA hc st9.below) aD).mono ?_))))))); rintro _ W15 ⟨cs13, fp13, rfl, hk16⟩; refine ⟨_, rfl, ?_⟩
 have st17 := St.call st9 hk16
 refine sg (aR jV st17 ?_); intro b19 W20 hb21 st22
 refine sgn (aO (cs := cs13) eC (bO (st22.get 1 rfl) rfl) rfl rfl st22 rfl ?_); intro W24 st25
 refine aB (wp_seq (wp_seq (aA (rc st25 4 Ag.nil.put.put.put.put.put.put.put [] [(14, .bool (!(nG r task)))] [qw 3 rfl (Shape.len hc), qc Tryz.func169 rfl (fun W s b => RunsS W (bA hc s.below) task aD), .o] aE fun f27 W28 h27_ st29 hb30 => (aB (cT (h27_.at 14) (fun h31 => ?_) (fun h31 => ?_)))))))
 ·refine wp_seq (aA (sg (bB eC rfl (h27_.at 5) (st29.get 0 rfl) (Shape.len (bO (st29.get 1 rfl) rfl)) (sgn (aO (cs := cs13) eC (bO (st29.f2.get 2 rfl) rfl) (h27_.at 4) rfl st29.f2 rfl ?_))))); intro W35 st36
  refine aB (wr (eO eC rfl Tryz.results120 (h27_.at 4) (st36.get 0 rfl) (Shape.len (bO (st36.get 2 rfl) rfl)) ?_))
  have hfe : gE r task = r := by unfold gE; rw [(aW h31)]; rfl
  rw [hfe]
  exact ⟨_, _, rfl, st36.f2.d1.d1.d1⟩
 ·refine wp_skip (wp_seq (aA ?_))
  have hq_ := lV st29.f1
  obtain ⟨v43_0, v43_1, g43_0, g43_1, he43, hok43, st44⟩ := hq_
  subst he43
  refine rn st44 3 h27_ [] [(17, v43_1), (18, I task)] [qb 2 rfl 7] aE fun f47 h47_ => ?_
  have hB0_ := (bG h31)
  have hq_ := runsB_at hB0_
  obtain ⟨hRI, t, h0, hti, h3⟩ := hq_
  have hil := (List.getElem?_eq_some_iff.1 hti).1
  have hsm := hRI.small
  have hbl := uR r.plan task
  have hle := hRI.ilen
  have hpf := lU hRI.plan
  obtain ⟨hM, hE, hZ1_, hZ2_⟩ := hpf
  have hMb := pM hM
  have hbe : cS r.plan task = (cO (tos r.plan.edges task)) := by unfold cS; rw [if_pos hRI.plan]
  rw [hbe] at hbl
  have hq_ := St.lendx (α := Task) aX st44.f1 (x := t) hti
  obtain ⟨b49, e49, pre49, cs49, post49, fi49, fr49, hPA49, hC49, st50⟩ := hq_
  obtain ⟨he49, hf49, hok49⟩ := hC49; have he49 : _ = [I t.state, I t.need, I t.try_, I t.until_] := he49; subst he49
  refine sg (aN jT (h47_.at 17) hPA49 (h47_.at 18) aD (sg (aH iB rfl (sgn (bE (i := 0) (v := I 4) (C' := [I 4, I t.need, I t.try_, I t.until_]) aE rfl rfl rfl rfl st50.d1 rfl bP rfl ?_))))); intro W57 st58
  refine aB (wp_seq (aA (rn st58 5 h47_.put.put [] [(25, .pointer (some ⟨b49, pre49.length + 3, none⟩))] [qb 3 rfl 7, qxe hPA49 (e := task) aD] aE fun f60 h60_ => (sgn (bE (i := 3) (v := I 0) (C' := [I 4, I t.need, I t.try_, I 0]) aE (h60_.at 25) rfl rfl rfl st58 rfl bP rfl ?_))))); intro W61 st62
  refine aB (wp_seq (aA ?_))
  have st63 := st62.cs0 (cs := [I 4, I t.need, I t.try_, I 0]) (x := (⟨4, t.need, t.try_, 0⟩ : Task)) ⟨rfl, rfl, eS⟩
  have hq_ := St.give (α := Task) st63.f2.f1.f2
  obtain ⟨fp68, st69⟩ := hq_
  have hk71 := hc
  obtain ⟨v71_0, v71_1, g71_0, g71_1, rfl, hok71, h71_0, h71_1, rfl⟩ := hk71
  refine rn st69 3 h60_ [] [(27, .agg #[I r.plan.prio, I r.plan.most, I r.plan.wait, I r.plan.tasks, v71_0]), (28, I task)] [qb 4 rfl 1] aE fun f72 h72_ => (sg (bJ Tryz.func185 rfl (h72_.at 27) (h72_.at 28) ((BehindE W61 (show Shape.C _ [I r.plan.prio, I r.plan.most, I r.plan.wait, I r.plan.tasks, v71_0] r.plan _ from ⟨_, _, rfl, eS, (h71_0.below st69.below), rfl⟩) task aD aD hE).mono ?_))); rintro _ W75 ⟨v73, fp73, rfl, hk76⟩; refine ⟨_, rfl, ?_⟩
  have st77 := St.call st69 hk76
  refine sg (aC (v := v73) rfl (aB (wp_seq (wp_seq (aA (sg (aC (v := I 0) rfl (aB (wp_block (aY (fun (m : Nat) (f : Nat → Value) (W : World) => ∃ (j : Nat) (fo83 : List Nat), j ≤ (cO (tos r.plan.edges task)).length ∧ m = (cO (tos r.plan.edges task)).length - j ∧ Ag [(4, .pointer (some ⟨b6, 0, none⟩)), (5, .pointer (some ⟨b19, 0, none⟩)), (6, v73), (7, I (j : Int))] f ∧ St w W ([Res.own (α := List Int) v73 (cO (tos r.plan.edges task)) fp73, Res.own (α := List Task) v43_1 (jM (r.tasks.set (task).toNat ⟨4, t.need, t.try_, 0⟩) ((cO (tos r.plan.edges task)).take j)) fo83, Res.own (α := List Edge) v43_0 r.plan.edges g43_0, Res.bx b19 [I r.id, I r.plan.prio, I r.plan.most, I r.plan.wait, I r.plan.tasks, v43_0, I r.state, v43_1] 123, Res.bx b6 [I 0, I 0, I 0, I 0, I 0, .slice none 0 0, I 0, .slice none 0 0] 123, Res.bx b1 [I r.id, I r.plan.prio, I r.plan.most, I r.plan.wait, I r.plan.tasks, v71_0, I r.state, v71_1] 123])) ((cO (tos r.plan.edges task)).length - 0) ?_ ?_))))))))))
  ·exact ⟨0, fp68, Nat.zero_le _, rfl, (h72_.put.put.put.to aE), (by rw [wN]; exact st77)⟩
  intro m84 f85 W86 hJ87
  obtain ⟨j, fo83, hcd89_0, rfl, hA89, st88⟩ := hJ87
  refine wp_seq (wp_seq (aA (rn st88 4 hA89 [] [(33, .bool (decide ((j : Int) < ((cO (tos r.plan.edges task)).length : Int))))] [ql (aI (st88.get 0 rfl)), .o] aE fun f91 h91_ => (aB (aK (h91_.at 33) (fun h92p => ?_) (fun h92p => ?_))))))
  ·refine wp_skip (wp_seq (wp_block (wp_seq ?_)))
   have hq_ := eH (xs := (cO (tos r.plan.edges task))) (i := j) aD
   obtain ⟨kb, hkb⟩ := hq_
   have hkr := uQ r.plan task kb (by rw [hbe]; exact List.mem_of_getElem? hkb)
   have hql := nR (r.tasks.set (task).toNat ⟨4, t.need, t.try_, 0⟩) ((cO (tos r.plan.edges task)).take j)
   rw [List.length_set] at hql
   have hq_ := eH (xs := jM (r.tasks.set (task).toNat ⟨4, t.need, t.try_, 0⟩) ((cO (tos r.plan.edges task)).take j)) (i := (kb).toNat) aD
   obtain ⟨u, huu⟩ := hq_
   have hun := wH hRI hti ((cO (tos r.plan.edges task)).take j) (by rw [List.length_take]; omega) u (List.mem_of_getElem? huu)
   have hi8a0ba : j < (cO (tos r.plan.edges task)).length := (List.getElem?_eq_some_iff.1 hkb).1
   have hq_ := gT (aI (st88.get 0 rfl)) (i := j) hkb
   obtain ⟨b93, o93, cs93, f93, hp93, hr93, hc93, hm93⟩ := hq_
   have hk93 := hc93
   obtain ⟨rfl, rfl, hok93⟩ := hk93
   have hi84b5a : (kb).toNat < (jM (r.tasks.set (task).toNat ⟨4, t.need, t.try_, 0⟩) ((cO (tos r.plan.edges task)).take j)).length := (List.getElem?_eq_some_iff.1 huu).1
   have hq_ := gT (aI (st88.get 1 rfl)) (i := (kb).toNat) huu
   obtain ⟨b94, o94, cs94, f94, hp94, hr94, hc94, hm94⟩ := hq_
   have hk95 := hc94
   obtain ⟨he95, rfl, hok95⟩ := hk95
   have he95 : _ = [I u.state, I u.need, I u.try_, I u.until_] := he95
   subst he95
   refine eX 9 [8] [[], [8]] [[(0, 1)]] (w1 := W86) (rs := [Res.own (α := List Int) v73 (cO (tos r.plan.edges task)) fp73, Res.own (α := List Task) v43_1 (jM (r.tasks.set (task).toNat ⟨4, t.need, t.try_, 0⟩) ((cO (tos r.plan.edges task)).take j)) fo83, Res.own (α := List Edge) v43_0 r.plan.edges g43_0, Res.bx b19 [I r.id, I r.plan.prio, I r.plan.most, I r.plan.wait, I r.plan.tasks, v43_0, I r.state, v43_1] 123, Res.bx b6 [I 0, I 0, I 0, I 0, I 0, .slice none 0 0, I 0, .slice none 0 0] 123, Res.bx b1 [I r.id, I r.plan.prio, I r.plan.most, I r.plan.wait, I r.plan.tasks, v71_0, I r.state, v71_1] 123]) (fun q => match q with | 0 => Cp.fr (ι := Unit) (fun _ => []) (fun _ => []) | _ => Cp.fr (ι := Nat) (fun b97 => [.pointer (some ⟨b97, 0, none⟩)]) (fun b97 => [Res.bx b97 [I 0, I 0, I 0, I 0] 140])) [Pq.is (.pointer (some ⟨b19, 0 + 7, none⟩)), Pq.is (v43_1) (Sl.yl (aI (st88.get 1 rfl))), Pq.is (v73) (Sl.yl (aI (st88.get 0 rfl))), Pq.is (I (j : Int)), Pq.is (.pointer (some ⟨b93, o93, none⟩)), Pq.is (I kb), Pq.is (.pointer (some ⟨b94, o94, none⟩)), Pq.is (.agg #[I u.state, I u.need, I u.try_, I u.until_]), Pq.none] mix (by rfl) (by rfl) (by rfl) ⟨(), rfl, st88, (Below.refl _ _)⟩ (by rfl) ⟨(fun f W hst hbl hd hf => aH jC ((hf 5 rfl).trans (h91_.at 5)) brq), (fun f W hst hbl hd hf => aU nL rfl (hd 0 36 rfl rfl) (hst.get 3 rfl) (i := 7) rfl rfl brq), (fun f W hst hbl hd hf => aF (v := v73) ((hf 6 rfl).trans (h91_.at 6)) brq), (fun f W hst hbl hd hf => aF (v := I (j : Int)) ((hf 7 rfl).trans (h91_.at 7)) brq), (fun f W hst hbl hd hf => aN eP (hd 2 38 rfl rfl) hp93 (hd 3 39 rfl rfl) rfl brq), (fun f W hst hbl hd hf => eV eF rfl (hd 4 40 rfl rfl) hr93 hbl (i := 0) rfl rfl brq), (fun f W hst hbl hd hf => aN jT (hd 1 37 rfl rfl) hp94 (hd 5 41 rfl rfl) aD brq), (fun f W hst hbl hd hf => fX (cs := [I u.state, I u.need, I u.try_, I u.until_]) kG rfl (hd 6 42 rfl rfl) hr94 hbl (i := 0) rfl rfl rfl brq), ⟨rfl, ?_, True.intro⟩, trivial⟩ ?_
   ·intro f W hC hd hf
    have hC_ := hC
    obtain ⟨_, hu, st96, hbl⟩ := hC_
    try dsimp only [cap_, dP] at st96
    refine (aR kA st96 ?_); intro b97 W98 hb99 st100
    exact ⟨⟨b97, (ce rfl rfl), st100, (hbl.trans (Below.mono hb99 hbl.size))⟩, rfl⟩
   intro f102 W103 hC hv104 hf105
   have hC_ := hC
   obtain ⟨b97, hu, st106, hbl107⟩ := hC_
   try dsimp only [cap_, dP] at st106
   have hu108 : f102 8 = .pointer (some ⟨b97, 0, none⟩) := congrArg (fun l => l.getD 0 undef) hu
   refine sgn (aM (cs := [I u.state, I u.need, I u.try_, I u.until_]) (C' := [I u.state, I u.need, I u.try_, I u.until_]) aE hu108 (hv104 7 43 aX rfl) (aG rfl (aG rfl (aG rfl (aG rfl bK)))) st106 bP rfl ?_); intro W110 st111
   refine aB (wp_seq (aA (rn st111 4 (Ag.cons (show f102 4 = .pointer (some ⟨b6, 0, none⟩) from ((hf105 4 rfl).trans (h91_.at 4))) (Ag.cons (show f102 5 = .pointer (some ⟨b19, 0, none⟩) from ((hf105 5 rfl).trans (h91_.at 5))) (Ag.cons (show f102 6 = v73 from ((hf105 6 rfl).trans (h91_.at 6))) (Ag.cons (show f102 7 = I (j : Int) from ((hf105 7 rfl).trans (h91_.at 7))) (Ag.cons (show f102 8 = .pointer (some ⟨b97, 0, none⟩) from hu108) Ag.nil))))) [] [(46, I (u.need - 1)), (47, .pointer (some ⟨b97, 1, none⟩))] [qb 0 rfl 1, qsb u.need 1] aE fun f113 h113_ => (sgn (aQ (v := I (u.need - 1)) (C' := [I u.state, I (u.need - 1), I u.try_, I u.until_]) aE (h113_.at 47) (h113_.at 46) rfl rfl st111 bP rfl ?_))))); intro W114 st115
   refine aB (wp_seq (wp_seq (aA (rn st115 3 h113_ [] [(50, .bool (decide ((u.need - 1) = 0)))] [qb 0 rfl 1, .o] aE fun f117 h117_ => (aB (aK (h117_.at 50) (fun h118p => ?_) (fun h118p => ?_)))))))
   ·refine aA (sg (aH iB (h117_.at 8) (sgn (aQ (v := I 2) (C' := [I 2, I (u.need - 1), I u.try_, I u.until_]) aE rfl rfl rfl rfl st115 bP rfl ?_)))); intro W121 st122
    refine aB ?_
    have hq_ := St.lendx (α := Task) aX st122.f2 (x := u) huu
    obtain ⟨b124, e124, pre124, cs124, post124, fi124, fr124, hPA124, hC124, st125⟩ := hq_
    obtain ⟨he124, hf124, hok124⟩ := hC124; have he124 : _ = [I u.state, I u.need, I u.try_, I u.until_] := he124; subst he124
    have hi8a0ba : j < (cO (tos r.plan.edges task)).length := (List.getElem?_eq_some_iff.1 hkb).1
    have hq_ := gT (aI (st125.d1.get 3 rfl)) (i := j) hkb
    obtain ⟨b131, o131, cs131, f131, hp131, hr131, hc131, hm131⟩ := hq_
    have hk131 := hc131
    obtain ⟨rfl, rfl, hok131⟩ := hk131
    refine rk 8 st125.d1 h117_.put [] [(58, .agg #[I 2, I (u.need - 1), I u.try_, I u.until_]), (59, .pointer (some ⟨b124, pre124.length, none⟩))] [qb 5 rfl 7, qx hp131, qn hr131 0, qb 2 rfl 0, qxe hPA124 (e := kb) aD] aE aE fun f132 W133 h132_ st134 hb135 => (sgn (fC (i := 0) (cs := [I 2, I (u.need - 1), I u.try_, I u.until_]) (C' := [I 2, I (u.need - 1), I u.try_, I u.until_]) aE (h132_.at 59) (h132_.at 58) (aG rfl (aG rfl (aG rfl (aG rfl bK)))) st134 rfl bP rfl ?_)); intro W136 st137
    refine aB (aA (rn st137 3 h132_ [7] [(7, I ((j : Int) + 1))] [qad (j : Int) 1] aE fun f139 h139_ => (aB ?_)))
    have st140 := st137.cs0 (cs := [I 2, I (u.need - 1), I u.try_, I u.until_]) (x := (⟨2, u.need - 1, u.try_, u.until_⟩ : Task)) ⟨rfl, rfl, eS⟩
    have hq_ := St.give (α := Task) st140.f2.f1.f2
    obtain ⟨fp145, st146⟩ := hq_
    exact ⟨_, (cO (tos r.plan.edges task)).length - (j + 1), aD, rfl, j + 1, fp145, aD, rfl, (h139_.to aE), (by rw [sW hkb huu (zU h118p)]; exact st146.f6.f6.f6.f6.f4.f6.d6)⟩
   ·refine wp_skip ?_
    have hq_ := St.lendx (α := Task) aX st115.f2 (x := u) huu
    obtain ⟨b155, e155, pre155, cs155, post155, fi155, fr155, hPA155, hC155, st156⟩ := hq_
    obtain ⟨he155, hf155, hok155⟩ := hC155; have he155 : _ = [I u.state, I u.need, I u.try_, I u.until_] := he155; subst he155
    have hi8a0ba : j < (cO (tos r.plan.edges task)).length := (List.getElem?_eq_some_iff.1 hkb).1
    have hq_ := gT (aI (st156.d1.get 3 rfl)) (i := j) hkb
    obtain ⟨b162, o162, cs162, f162, hp162, hr162, hc162, hm162⟩ := hq_
    have hk162 := hc162
    obtain ⟨rfl, rfl, hok162⟩ := hk162
    refine rk 8 st156.d1 h117_ [] [(58, .agg #[I u.state, I (u.need - 1), I u.try_, I u.until_]), (59, .pointer (some ⟨b155, pre155.length, none⟩))] [qb 5 rfl 7, qx hp162, qn hr162 0, qb 2 rfl 0, qxe hPA155 (e := kb) aD] aE aE fun f163 W164 h163_ st165 hb166 => (sgn (fC (i := 0) (cs := [I u.state, I (u.need - 1), I u.try_, I u.until_]) (C' := [I u.state, I (u.need - 1), I u.try_, I u.until_]) aE (h163_.at 59) (h163_.at 58) (aG rfl (aG rfl (aG rfl (aG rfl bK)))) st165 rfl bP rfl ?_)); intro W167 st168
    refine aB (aA (rn st168 3 h163_ [7] [(7, I ((j : Int) + 1))] [qad (j : Int) 1] aE fun f170 h170_ => (aB ?_)))
    have st171 := st168.cs0 (cs := [I u.state, I (u.need - 1), I u.try_, I u.until_]) (x := (⟨u.state, u.need - 1, u.try_, u.until_⟩ : Task)) ⟨rfl, rfl, eS⟩
    have hq_ := St.give (α := Task) st171.f2.f1.f2
    obtain ⟨fp176, st177⟩ := hq_
    exact ⟨_, (cO (tos r.plan.edges task)).length - (j + 1), aD, rfl, j + 1, fp176, aD, rfl, (h170_.to aE), (by rw [sW hkb huu (zT h118p)]; exact st177.f6.f6.f6.f6.f4.f6.d6)⟩
  ·refine wp_exit (wp_seq ?_)
   have hje : j = (cO (tos r.plan.edges task)).length := by omega
   have hDe : jM (r.tasks.set (task).toNat ⟨4, t.need, t.try_, 0⟩) ((cO (tos r.plan.edges task)).take j) = dF r (task).toNat t := by rw [hje, List.take_length, ← hbe]; unfold dF; rw [oY h0]
   rw [hDe] at st88
   have hS := doneTs_st hRI hti
   have hdl := uK r (task).toNat t
   refine aA (rc st88 3 h91_ [] [(61, I (dM (⟨r.id, ⟨r.plan.prio, r.plan.most, r.plan.wait, r.plan.tasks, r.plan.edges⟩, r.state, (dF r (task).toNat t)⟩ : Run).tasks)), (62, .pointer (some ⟨b19, 6, none⟩))] [qb 3 rfl 0, qc Tryz.func157 rfl (fun W s b => zD W (show Shape.C _ [I r.id, I r.plan.prio, I r.plan.most, I r.plan.wait, I r.plan.tasks, v43_0, I r.state, v43_1] (⟨r.id, ⟨r.plan.prio, r.plan.most, r.plan.wait, r.plan.tasks, r.plan.edges⟩, r.state, (dF r (task).toNat t)⟩ : Run) _ from ⟨_, _, _, _, rfl, eS, (aI (s.get 2 rfl)), (aI (s.get 1 rfl)), rfl⟩) hS (show (dF _ _ _).length ≤ 1048576 from by omega))] aE fun f186 W187 h186_ st188 hb189 => ?_)
   have st190 := st188.f3
   refine sgn (aQ (v := I (dM (⟨r.id, ⟨r.plan.prio, r.plan.most, r.plan.wait, r.plan.tasks, r.plan.edges⟩, r.state, (dF r (task).toNat t)⟩ : Run).tasks)) (C' := [I r.id, I r.plan.prio, I r.plan.most, I r.plan.wait, I r.plan.tasks, v43_0, I (dM (⟨r.id, ⟨r.plan.prio, r.plan.most, r.plan.wait, r.plan.tasks, r.plan.edges⟩, r.state, (dF r (task).toNat t)⟩ : Run).tasks), v43_1]) aE (h186_.at 62) (h186_.at 61) rfl rfl st190 bP rfl ?_); intro W191 st192
   refine aB (wp_seq (aA (sg (aV (cs := [I r.id, I r.plan.prio, I r.plan.most, I r.plan.wait, I r.plan.tasks, v43_0, I (dM (⟨r.id, ⟨r.plan.prio, r.plan.most, r.plan.wait, r.plan.tasks, r.plan.edges⟩, r.state, (dF r (task).toNat t)⟩ : Run).tasks), v43_1]) eC rfl (h186_.at 5) (st192.get 0 rfl) rfl rfl (sgn (aM (cs := [I r.id, I r.plan.prio, I r.plan.most, I r.plan.wait, I r.plan.tasks, v43_0, I (dM (⟨r.id, ⟨r.plan.prio, r.plan.most, r.plan.wait, r.plan.tasks, r.plan.edges⟩, r.state, (dF r (task).toNat t)⟩ : Run).tasks), v43_1]) (C' := [I r.id, I r.plan.prio, I r.plan.most, I r.plan.wait, I r.plan.tasks, v43_0, I (dM (⟨r.id, ⟨r.plan.prio, r.plan.most, r.plan.wait, r.plan.tasks, r.plan.edges⟩, r.state, (dF r (task).toNat t)⟩ : Run).tasks), v43_1]) aE (h186_.at 4) rfl (aG rfl (aG rfl (aG rfl (aG rfl (aG rfl (aG (Sl.one (aI (st192.f4.get 4 rfl))) (aG rfl (aG (Sl.one (aI (st192.f4.get 3 rfl))) bK)))))))) st192.f4 bP rfl ?_)))))); intro W196 st197
   refine aB (wr (eO eC rfl Tryz.results120 (h186_.at 4) (st197.get 0 rfl) rfl ?_))
   have hfe : gE r task = (⟨r.id, r.plan, dM (dF r (task).toNat t), dF r (task).toNat t⟩ : Run) := by rw [tL hRI h0 hti h3, rA hti]; unfold yI; rw [← sP hRI hti h3]
   have hso := (yJ hRI.small.1 (task).toNat).2.2
   rw [rA hti] at hso
   have hso2 : I64 (dM (dF r (task).toNat t)) := by rw [sP hRI hti h3]; exact hso
   have st200 := iH (x := (⟨r.id, r.plan, dM (dF r (task).toNat t), dF r (task).toNat t⟩ : Run)) st197.f3.f4 (show Run.ok _ from ⟨hRI.small.1.1, hRI.small.1.2.1, hso2⟩)
   try dsimp only at st200
   have st202 := st200.d1
   rw [hfe]
   exact ⟨_, _, rfl, st202.d1.d1.d1⟩
noncomputable def gU (y : Yard) (id task try_ : Int) : Int := if dR y = false then 8 else if iD y id < 0 then 10 else if fR y id task try_ = false then 11 else 0
noncomputable def xL (g : Run → Nat → Run) (y : Yard) (id task try_ : Int) : Yard := if gU y id task try_ = 0 then (match dY y id with | some k => (match y.runs[k]? with | some r => dO y k r (g r task.toNat) | none => y) | none => y) else y
noncomputable def bI (y : Yard) (id task try_ : Int) : Yard := xL fJ y id task try_
theorem zC {y : Yard} {id task try_ : Int} (h : gU y id task try_ = 0) : YardIs y ∧ ∃ k r t, dY y id = some k ∧ y.runs[k]? = some r ∧ RunIs r ∧ 0 ≤ task ∧ r.tasks[task.toNat]? = some t ∧ t.state = 3 := by
 unfold gU at h
 split at h
 ·omega
 ·next h1 =>
  have hY := wT (by simpa using h1)
  split at h
  ·omega
  ·split at h
   ·omega
   ·next h3 =>
    refine ⟨hY, ?_⟩
    have h4 : fR y id task try_ = true := by simpa using h3
    unfold fR at h4
    cases hk : dY y id with
    | none => rw [hk] at h4; cases h4
    | some k =>
     rw [hk] at h4
     simp only at h4
     cases hr : y.runs[k]? with
     | none => rw [hr] at h4; cases h4
     | some r =>
      rw [hr] at h4
      simp only [Bool.and_eq_true] at h4
      obtain ⟨h5, h6⟩ := h4
      cases ht : r.tasks[task.toNat]? with
      | none => rw [ht] at h6; cases h6
      | some t => rw [ht] at h6; simp only [Bool.and_eq_true, decide_eq_true_eq] at h6; exact ⟨k, r, t, rfl, hr, (hY.run k r hr).1, (inB_iff'.1 h5).1, ht, h6.1⟩
theorem tA {g : Run → Nat → Run} {y : Yard} {id task try_ : Int} {k : Nat} {r : Run} (h : gU y id task try_ = 0) (hk : dY y id = some k) (hr : y.runs[k]? = some r) : xL g y id task try_ = dO y k r (g r task.toNat) := by unfold xL; rw [if_pos h, hk]; simp only [hr]
theorem rJ {g : Run → Nat → Run} {y : Yard} {id task try_ : Int} (h : ¬ gU y id task try_ = 0) : xL g y id task try_ = y := by unfold xL; rw [if_neg h]
theorem uM {y : Yard} (hY : YardIs y) {k : Nat} {r r' : Run} (hl : r'.tasks.length ≤ 1000) : (dO y k r r').ok := by
 have h1 := hY.now; have h2 := hY.seq; have h3 := lG r r'
 unfold dO
 exact ⟨by simp only [I64]; omega, by simp only [I64]; omega⟩

theorem ToldI (w : World) {y : Yard} {cs : List Value} {fp : List Nat} (hc : Shape.C w cs y fp) (id task try_ : Int) (hw : y.wt ≤ 1048576) :
  Calls Tryz.prog 127 #[.agg cs.toArray, I id, I task, I try_] w fun e w' => e = .returned (I (gU y id task try_)) ∧ St w w' [] := by
 refine nO Tryz.func127 rfl Tryz.ntmps127 aX (wp_seq (aA (sg (aJ (cs := cs) rfl (St.start w) ?_)))); intro b1 W2 hb3 st4
 refine sg (aC (v := I 0) rfl (aB (wp_seq (wp_block (wp_seq (aA (rc st4 4 Ag.nil.put.put.put.put.put.put [] [(9, .bool (!(dR y)))] [qw 0 rfl (Shape.len hc), qc Tryz.func46 rfl (fun W s b => oN W (bA hc s.below) aD), .o] aE fun f9 W10 h9_ st11 hb12 => (aB (cT (h9_.at 9) (fun h13 => ?_) (fun h13 => ?_))))))))))
 ·refine wp_seq (aA (sg (aC (v := I 8) rfl (aB (wr (aL Tryz.results127 rfl ?_))))))
  exact ⟨(fI (by unfold gU; rw [if_pos (aW h13)])), st11.bare⟩
 ·refine wp_seq (aA (rc st11 5 h9_ [] [(13, .bool (decide ((iD y id) < 0)))] [qw 0 rfl (Shape.len hc), qc Tryz.func98 rfl (fun W s b => uX W (bA hc s.below) id aD), .o] aE fun f17 W18 h17_ st19 hb20 => (aB (aK (h17_.at 13) (fun h21p => ?_) (fun h21p => ?_)))))
  ·refine wp_seq (aA (sg (aC (v := I 10) rfl (aB (wr (aL Tryz.results127 rfl ?_))))))
   exact ⟨(fI (by unfold gU; rw [if_neg (by rw [(bG h13)]; decide), if_pos h21p])), st19.bare⟩
  ·refine wp_seq (aA (rc st19 7 h17_ [] [(18, .bool (!(fR y id task try_)))] [qw 0 rfl (Shape.len hc), qc Tryz.func109 rfl (fun W s b => HoldsI W (bA hc s.below) id task try_ aD), .o] aE fun f25 W26 h25_ st27 hb28 => (aB (cT (h25_.at 18) (fun h29 => ?_) (fun h29 => ?_)))))
   ·refine wp_seq (aA (sg (aC (v := I 11) rfl (aB (wr (aL Tryz.results127 rfl ?_))))))
    exact ⟨(fI (by unfold gU; rw [if_neg (by rw [(bG h13)]; decide), if_neg h21p, if_pos (aW h29)])), st27.bare⟩
   ·refine wp_skip (wp_seq (aA (sg (aC (v := I 0) rfl (aB (wr (aL Tryz.results127 rfl ?_)))))))
    exact ⟨(fI (by unfold gU; rw [if_neg (by rw [(bG h13)]; decide), if_neg h21p, if_neg (by rw [(bG h29)]; decide)])), st27.bare⟩
theorem ToldS (w : World) {y : Yard} {cs : List Value} {fp : List Nat} (hc : Shape.C w cs y fp) (id task try_ : Int) (hw : y.wt ≤ 1048576) :
  Calls Tryz.prog 119 #[.agg cs.toArray, I id, I task, I try_] w fun e w' => e = .returned (I (gU y id task try_)) ∧ St w w' [] := by
 refine nO Tryz.func119 rfl Tryz.ntmps119 aX (wp_seq (aA (sg (aJ (cs := cs) rfl (St.start w) ?_)))); intro b1 W2 hb3 st4
 refine sg (aC (v := I 0) rfl (aB (wp_seq (wp_block (wp_seq (aA (rc st4 4 Ag.nil.put.put.put.put.put.put [] [(9, .bool (!(dR y)))] [qw 0 rfl (Shape.len hc), qc Tryz.func42 rfl (fun W s b => oM W (bA hc s.below) aD), .o] aE fun f9 W10 h9_ st11 hb12 => (aB (cT (h9_.at 9) (fun h13 => ?_) (fun h13 => ?_))))))))))
 ·refine wp_seq (aA (sg (aC (v := I 8) rfl (aB (wr (aL Tryz.results119 rfl ?_))))))
  exact ⟨(fI (by unfold gU; rw [if_pos (aW h13)])), st11.bare⟩
 ·refine wp_seq (aA (rc st11 5 h9_ [] [(13, .bool (decide ((iD y id) < 0)))] [qw 0 rfl (Shape.len hc), qc Tryz.func90 rfl (fun W s b => xH W (bA hc s.below) id aD), .o] aE fun f17 W18 h17_ st19 hb20 => (aB (aK (h17_.at 13) (fun h21p => ?_) (fun h21p => ?_)))))
  ·refine wp_seq (aA (sg (aC (v := I 10) rfl (aB (wr (aL Tryz.results119 rfl ?_))))))
   exact ⟨(fI (by unfold gU; rw [if_neg (by rw [(bG h13)]; decide), if_pos h21p])), st19.bare⟩
  ·refine wp_seq (aA (rc st19 7 h17_ [] [(18, .bool (!(fR y id task try_)))] [qw 0 rfl (Shape.len hc), qc Tryz.func184 rfl (fun W s b => HoldsS W (bA hc s.below) id task try_ aD), .o] aE fun f25 W26 h25_ st27 hb28 => (aB (cT (h25_.at 18) (fun h29 => ?_) (fun h29 => ?_)))))
   ·refine wp_seq (aA (sg (aC (v := I 11) rfl (aB (wr (aL Tryz.results119 rfl ?_))))))
    exact ⟨(fI (by unfold gU; rw [if_neg (by rw [(bG h13)]; decide), if_neg h21p, if_pos (aW h29)])), st27.bare⟩
   ·refine wp_skip (wp_seq (aA (sg (aC (v := I 0) rfl (aB (wr (aL Tryz.results119 rfl ?_)))))))
    exact ⟨(fI (by unfold gU; rw [if_neg (by rw [(bG h13)]; decide), if_neg h21p, if_neg (by rw [(bG h29)]; decide)])), st27.bare⟩
theorem CompleteC {w W0 : World} {ty : TypeId} {rs : List Res} {b : Nat} {pre cs post : List Value} {r : Run} {fp : List Nat} (hst : St w W0 (Res.bx b (pre ++ cs ++ post) ty :: Res.own (.agg cs.toArray) r fp :: rs)) {bt : Nat} {tt : TypeId} (task : Int) {t : Task} (hB : ∀ W', St w W' rs → (Res.bx bt [I task] tt).holds W') (h0 : 0 ≤ task) (hti : r.tasks[(task).toNat]? = some t) (hRI : RunIs r) :
  Calls Tryz.prog 128 #[.pointer (some ⟨b, pre.length, none⟩), .pointer (some ⟨bt, 0, none⟩)] W0 fun e w' => ∃ (cs' : List Value) (fp' : List Nat), e = .returned (.tuple #[]) ∧ St w w' (Res.bx b (pre ++ cs' ++ post) ty :: Res.own (.agg cs'.toArray) (fJ r (task).toNat) fp' :: rs) := by
 refine bR Tryz.func128 rfl Tryz.ntmps128 aX (aA (sg (aF (v := .pointer (some ⟨b, pre.length, none⟩)) rfl (sg (eV eF rfl rfl (cF (hB _ (St.dropn 2 hst))) (Below.refl _ _) (i := 0) rfl rfl ?_)))))
 have st4 := hst.f1
 refine sg (bJ Tryz.func129 rfl rfl rfl ((DoneI st4.f1 task h0 hti hRI).mono ?_)); rintro _ W3 ⟨cs6, fp6, rfl, st7⟩; refine ⟨_, rfl, ?_⟩
 refine aB ?_
 repeat (first | refine lR ?_ | refine nQ ?_ | refine lZ rfl ?_)
 refine end0 Tryz.results128 ?_
 exact ⟨_, _, rfl, st7.f1.f1⟩
theorem CompleteI (w : World) {y : Yard} {cs : List Value} {fp : List Nat} (hc : Shape.C w cs y fp) (id task try_ : Int) (hw : y.wt ≤ 1048576) :
  Calls Tryz.prog 68 #[.agg cs.toArray, I id, I task, I try_] w fun e w' => ∃ (cs' : List Value) (fp' : List Nat), e = .returned (.tuple #[.agg cs'.toArray, I (gU y id task try_)]) ∧ St w w' [Res.own (.agg cs'.toArray) (bI y id task try_) fp'] := by
 refine nO Tryz.func68 rfl Tryz.ntmps68 aX (wp_seq (aA (sg (aJ (cs := cs) rfl (St.start w) ?_)))); intro b1 W2 hb3 st4
 refine sg (sE (v := I task) rfl rfl st4 ?_); intro b6 W7 hb8 st9
 refine sg (aR fA st9 ?_); intro b11 W12 hb13 st14
 refine sg (aC (v := I 0) rfl (aB (wp_seq (aA (sg (bB bM rfl rfl (st14.get 2 rfl) (Shape.len hc) (sg (bF Tryz.func108 rfl rfl ((mF W12 (bA hc st14.below) aD).mono ?_))))))))); rintro _ W22 ⟨cs20, fp20, rfl, hk23⟩; refine ⟨_, rfl, ?_⟩
 have st24 := St.call st14 hk23
 refine sg (aR fA st24 ?_); intro b26 W27 hb28 st29
 refine sgn (aO (cs := cs20) bM (bO (st29.get 1 rfl) rfl) rfl rfl st29 rfl ?_); intro W31 st32
 refine aB (wp_seq (aA (rc st32 6 Ag.nil.put.put.put.put.put.put.put.put.put.put.put [] [(11, I (gU y id task try_))] [qw 4 rfl (Shape.len hc), qb 3 rfl 0, qc Tryz.func127 rfl (fun W s b => ToldI W (bA hc s.below) id task try_ aD)] aE fun f34 W35 h34_ st36 hb37 => (aB (wp_seq (wp_seq (aA (sg (aF (v := I (gU y id task try_)) (h34_.at 11) (sg (dI rfl rfl (aB (aK rfl (fun h40p => ?_) (fun h40p => ?_))))))))))))))
 ·have hA0 : gU y id task try_ = 0 := by have := h40p; omega
  have hq_ := zC hA0
  obtain ⟨hY, k, r, t, hix, hr, hRI, h0, hti, h3⟩ := hq_
  refine aA (rc st36 3 h34_.put.put [] [(23, I (k : Int))] [qw 4 rfl (Shape.len hc), qc Tryz.func98 rfl (fun W s b => rI W (bA hc s.below) id hw hix)] aE fun f42 W43 h42_ st44 hb45 => (sg (kC sQ (sO (v := .pointer (some ⟨b6, 0, none⟩)) (h42_.at 6) sQ) ?_)))
  have hq_ := eB st44.f1
  obtain ⟨v48_0, v48_1, g48_0, g48_1, he48, hok48, st49⟩ := hq_
  subst he48
  have ch_q0 := (RI.start hY).chg hY aD ((fJ r (task).toNat)).id
  obtain ⟨ch_s, ch_n, ch_q⟩ := ch_q0
  have ch_r := hr
  have ch_k := lI r (task).toNat
  have ch_sm := hRI.small
  have ch_l : r.tasks.length ≤ 1000 := by omega
  have ch_l2 : (fJ r (task).toNat).tasks.length ≤ 1000 := by omega
  have ch_ok := yJ ch_sm.1 (task).toNat
  refine sg (hX Tryz.func110 rfl (h42_.at 10) (h42_.at 23) rfl ((ChangeI (y := y) (k := k) (r := r) (r' := (fJ r (task).toNat)) (capt := [.pointer (some ⟨b6, 0, none⟩)]) st49.f1.f1.f2 ch_r ch_l ch_l2 ch_ok ch_s ch_n ch_q Tryz.func128 rfl (fun W1_ rs1_ b1_ pre1_ cs1_ post1_ fp1_ ty1_ hh_ hs_ => CompleteC hs_ task (fun W_ h_ => (hh_ W_ h_).get 1 rfl) h0 hti hRI)).mono ?_)); rintro _ W46 ⟨fs55, fq55, rfl, st56⟩; refine ⟨_, rfl, ?_⟩
  have st57 : St w W46 ([Res.bx b26 [I (dO y k r (fJ r (task).toNat)).now, I (dO y k r (fJ r (task).toNat)).seq, v48_0, v48_1] 34, Res.own (α := List (List Entry)) v48_0 (dO y k r (fJ r (task).toNat)).shelf fs55, Res.own (α := List Run) v48_1 (dO y k r (fJ r (task).toNat)).runs fq55, Res.bx b11 [I 0, I 0, .slice none 0 0, .slice none 0 0] 34, Res.bx b6 [I task] 3, Res.bx b1 cs 34]) := st56
  refine aB (wp_seq (aA (sg (aV (cs := [I (dO y k r (fJ r (task).toNat)).now, I (dO y k r (fJ r (task).toNat)).seq, v48_0, v48_1]) bM rfl (h42_.at 10) (st57.get 0 rfl) rfl rfl (sg (aF (v := I (gU y id task try_)) (h42_.at 11) (sgn (aM (cs := [I (dO y k r (fJ r (task).toNat)).now, I (dO y k r (fJ r (task).toNat)).seq, v48_0, v48_1]) (C' := [I (dO y k r (fJ r (task).toNat)).now, I (dO y k r (fJ r (task).toNat)).seq, v48_0, v48_1]) aE (h42_.at 8) rfl (aG rfl (aG rfl (aG (Sl.one (aI (st57.f3.get 2 rfl))) (aG (Sl.one (aI (st57.f3.get 3 rfl))) bK)))) st57.f3 bP rfl ?_)))))))); intro W61 st62
  refine sg (aC (v := I (gU y id task try_)) rfl (aB (wr (zP bM rfl Tryz.results68 (h42_.at 8) (st62.get 0 rfl) rfl rfl ?_))))
  have hfe : bI y id task try_ = (dO y k r (fJ r (task).toNat)) := tA hA0 hix hr
  have st67 := eN (x := (dO y k r (fJ r (task).toNat))) st62.f3.f3 (uM hY ch_l2)
  rw [hfe]
  exact ⟨_, _, rfl, st67.d1.d1.d1.d1⟩
 ·refine wp_skip (wp_seq (aA (sg (bB bM rfl (h34_.at 10) (st36.get 0 rfl) (Shape.len (bO (st36.get 1 rfl) rfl)) (sg (aF (v := I (gU y id task try_)) (h34_.at 11) (sgn (aO (cs := cs20) bM (bO (st36.f2.get 2 rfl) rfl) (h34_.at 8) rfl st36.f2 rfl ?_)))))))); intro W76 st77
  refine sg (aC (v := I (gU y id task try_)) rfl (aB (wr (zP bM rfl Tryz.results68 (h34_.at 8) (st77.get 0 rfl) (Shape.len (bO (st77.get 2 rfl) rfl)) rfl ?_))))
  have hfe : bI y id task try_ = y := rJ h40p
  rw [hfe]
  exact ⟨_, _, rfl, st77.f2.d1.d1.d1.d1⟩
theorem CompleteS (w : World) {y : Yard} {cs : List Value} {fp : List Nat} (hc : Shape.C w cs y fp) (id task try_ : Int) (hw : y.wt ≤ 1048576) :
  Calls Tryz.prog 65 #[.agg cs.toArray, I id, I task, I try_] w fun e w' => ∃ (cs' : List Value) (fp' : List Nat), e = .returned (.tuple #[.agg cs'.toArray, I (gU y id task try_)]) ∧ St w w' [Res.own (.agg cs'.toArray) (bI y id task try_) fp'] := by
 refine nO Tryz.func65 rfl Tryz.ntmps65 aX (wp_seq (aA (sg (aJ (cs := cs) rfl (St.start w) ?_)))); intro b1 W2 hb3 st4
 refine sg (aR fA st4 ?_); intro b6 W7 hb8 st9
 refine sg (aC (v := I 0) rfl (aB (wp_seq (aA (sg (bB bM rfl rfl (st9.get 1 rfl) (Shape.len hc) (sg (bF Tryz.func71 rfl rfl ((mE W7 (bA hc st9.below) aD).mono ?_))))))))); rintro _ W17 ⟨cs15, fp15, rfl, hk18⟩; refine ⟨_, rfl, ?_⟩
 have st19 := St.call st9 hk18
 refine sg (aR fA st19 ?_); intro b21 W22 hb23 st24
 refine sgn (aO (cs := cs15) bM (bO (st24.get 1 rfl) rfl) rfl rfl st24 rfl ?_); intro W26 st27
 refine aB (wp_seq (aA (rc st27 6 Ag.nil.put.put.put.put.put.put.put.put.put.put [] [(11, I (gU y id task try_))] [qw 3 rfl (Shape.len hc), qc Tryz.func119 rfl (fun W s b => ToldS W (bA hc s.below) id task try_ aD)] aE fun f29 W30 h29_ st31 hb32 => (aB (wp_seq (wp_seq (aA (sg (aF (v := I (gU y id task try_)) (h29_.at 11) (sg (zJ rfl rfl (aB (cB rfl (fun h35p => ?_) (fun h35p => ?_))))))))))))))
 ·refine wp_seq (aA (sg (bB bM rfl (h29_.at 10) (st31.get 0 rfl) (Shape.len (bO (st31.get 1 rfl) rfl)) (sg (aF (v := I (gU y id task try_)) (h29_.at 11) (sgn (aO (cs := cs15) bM (bO (st31.f2.get 2 rfl) rfl) (h29_.at 8) rfl st31.f2 rfl ?_))))))); intro W39 st40
  refine sg (aC (v := I (gU y id task try_)) rfl (aB (wr (zP bM rfl Tryz.results65 (h29_.at 8) (st40.get 0 rfl) (Shape.len (bO (st40.get 2 rfl) rfl)) rfl ?_))))
  have hfe : bI y id task try_ = y := rJ h35p
  rw [hfe]
  exact ⟨_, _, rfl, st40.f2.d1.d1.d1⟩
 ·refine wp_skip (wp_seq ?_)
  have hA0 : gU y id task try_ = 0 := by have := h35p; omega
  have hq_ := zC hA0
  obtain ⟨hY, k, r, t, hix, hr, hRI, h0, hti, h3⟩ := hq_
  refine aA (rc st31 4 h29_.put.put [] [(12, I (k : Int))] [qw 3 rfl (Shape.len hc), qc Tryz.func90 rfl (fun W s b => rH W (bA hc s.below) id hw hix)] aE fun f48 W49 h48_ st50 hb51 => (aB (wp_seq ?_)))
  have hrw : r.wt ≤ 1048576 := by have := hRI.wt; omega
  have hq_ := eB st50.f1
  obtain ⟨v53_0, v53_1, g53_0, g53_1, he53, hok53, st54⟩ := hq_
  subst he53
  have hi24e2d : k < y.runs.length := (List.getElem?_eq_some_iff.1 hr).1
  have hq_ := gT (aI (st54.get 1 rfl)) (i := k) hr
  obtain ⟨b57, o57, cs57, f57, hp57, hr57, hc57, hm57⟩ := hq_
  refine eX 9 [8] [[], [8]] [[(0, 1)]] (w1 := W49) (rs := [Res.own (α := List (List Entry)) v53_0 y.shelf g53_0, Res.own (α := List Run) v53_1 y.runs g53_1, Res.bx b21 [I y.now, I y.seq, v53_0, v53_1] 34, Res.bx b6 [I 0, I 0, .slice none 0 0, .slice none 0 0] 34, Res.bx b1 cs 34]) (fun q => match q with | 0 => Cp.fr (ι := Unit) (fun _ => []) (fun _ => []) | _ => Cp.fr (ι := List Value × List Nat) (fun ⟨cs59, fp59⟩ => [.agg cs59.toArray]) (fun ⟨cs59, fp59⟩ => [Res.own (α := Run) (.agg cs59.toArray) (gE r task) fp59])) [Pq.is (.agg #[I y.now, I y.seq, v53_0, v53_1]), Pq.is (I (k : Int)), Pq.is (.pointer (some ⟨b21, 0 + 3, none⟩)), Pq.is (v53_1) (Sl.yl (aI (st54.get 1 rfl))), Pq.is (I (k : Int)), Pq.is (.pointer (some ⟨b57, o57, none⟩)), Pq.is (.agg cs57.toArray), Pq.is (I task), Pq.none] mix (by rfl) (by rfl) (by rfl) ⟨(), rfl, st54, (Below.refl _ _)⟩ (by rfl) ⟨(fun f W hst hbl hd hf => aV (cs := [I y.now, I y.seq, v53_0, v53_1]) bM rfl ((hf 10 rfl).trans (h48_.at 10)) (hst.get 2 rfl) rfl rfl brq), (fun f W hst hbl hd hf => aF (v := I (k : Int)) ((hf 12 rfl).trans (h48_.at 12)) brq), (fun f W hst hbl hd hf => aH gH ((hf 10 rfl).trans (h48_.at 10)) brq), (fun f W hst hbl hd hf => aU lE rfl (hd 2 29 rfl rfl) (hst.get 2 rfl) (i := 3) rfl rfl brq), (fun f W hst hbl hd hf => aF (v := I (k : Int)) ((hf 12 rfl).trans (h48_.at 12)) brq), (fun f W hst hbl hd hf => aN iY (hd 3 30 rfl rfl) hp57 (hd 4 31 rfl rfl) rfl brq), (fun f W hst hbl hd hf => dL eC rfl (hd 5 32 rfl rfl) hr57 hbl (Shape.len hc57) brq), (fun f W hst hbl hd hf => aF (v := I task) ((hf 2 rfl).trans (h48_.at 2)) brq), ⟨rfl, ?_, True.intro⟩, trivial⟩ ?_
  ·intro f W hC hd hf
   have hC_ := hC
   obtain ⟨_, hu, st58, hbl⟩ := hC_
   try dsimp only [cap_, dP] at st58
   refine (bJ Tryz.func120 rfl (hd 6 33 rfl rfl) (hd 7 34 rfl rfl) ((RunDoneS W (bA hc57 hbl) task aD).mono ?_)); rintro _ W61 ⟨cs59, fp59, rfl, hk62⟩; refine ⟨_, rfl, ?_⟩
   have st63 := St.call st58 hk62
   exact ⟨⟨(cs59, fp59), (ce rfl rfl), st63, (hbl.trans (Below.mono hk62.below hbl.size))⟩, rfl⟩
  intro f65 W66 hC hv67 hf68
  have hC_ := hC
  obtain ⟨⟨cs59, fp59⟩, hu, st69, hbl70⟩ := hC_
  try dsimp only [cap_, dP] at st69
  have hu71 : f65 35 = .agg cs59.toArray := congrArg (fun l => l.getD 0 undef) hu
  have st74 := st69.f2
  have ch_q0 := (RI.start hY).chg hY aD (gE r task).id
  obtain ⟨ch_s, ch_n, ch_q⟩ := ch_q0
  have ch_r := hr
  have ch_k := lI r (task).toNat
  have ch_sm := hRI.small
  have ch_e := tL hRI h0 hti h3
  have ch_l2 : (gE r task).tasks.length ≤ 1000 := by rw [ch_e]; omega
  refine sg (hX Tryz.func104 rfl (hv67 0 27 aX rfl) (hv67 1 28 aX rfl) hu71 ((TurnS (y := y) (k := k) (was := r) (r := gE r task) st74.f2 ch_r ch_s ch_l2 ch_n ch_q).mono ?_)); rintro _ W73 ⟨fs76, fq76, rfl, st77⟩; refine ⟨_, rfl, ?_⟩
  refine sgn (aM (cs := [I (dO y k r (gE r task)).now, I (dO y k r (gE r task)).seq, v53_0, v53_1]) (C' := [I (dO y k r (gE r task)).now, I (dO y k r (gE r task)).seq, v53_0, v53_1]) aE ((hf68 8 rfl).trans (h48_.at 8)) rfl (aG rfl (aG rfl (aG (Sl.one (aI (st77.f3.get 1 rfl))) (aG (Sl.one (aI (st77.f3.get 2 rfl))) bK)))) st77.f3 bP rfl ?_); intro W79 st80
  refine sg (aC (v := I 0) rfl (aB (wr (zP bM rfl Tryz.results65 ((hf68 8 rfl).trans (h48_.at 8)) (st80.get 0 rfl) rfl rfl ?_))))
  have hfe : bI y id task try_ = (dO y k r (gE r task)) := by rw [ch_e]; exact tA hA0 hix hr
  have st85 := eN (x := (dO y k r (gE r task))) st80.f2.f2 (uM hY ch_l2)
  rw [hfe, hA0]
  exact ⟨_, _, rfl, st85.d1.d1.d1⟩
def jW (r : Reply) : Prop := r.code = 0 ∧ 0 ≤ r.try_
noncomputable def fS (c : Crew) : Bool := pB (dR c.yard = true ∧ (1 ≤ (c.holds.length : Int) ∧ (c.holds.length : Int) ≤ 8) ∧ (0 ≤ c.turns ∧ c.turns ≤ 1000000000) ∧ (0 ≤ c.did ∧ c.did ≤ 1000000000) ∧ ∀ r ∈ c.holds, jW r)

theorem zF (w : World) (n : Int) :
  Calls Tryz.prog 44 #[I n] w fun e w' => e = .returned (.bool (inB n 0 1000000000)) ∧ St w w' [] := by
 refine cR Tryz.func44 rfl Tryz.ntmps44 aX (wp_seq (aA (sg (aC (v := .bool false) rfl (aB (wp_seq (aA (rc (St.start w) 3 Ag.nil.put.put [2] [(2, .bool (inB n 0 1000000000))] [qc Tryz.func43 rfl (fun W s b => cN W n 0 1000000000)] aE fun f4 W5 h4_ st6 hb7 => (aB (wr (aL Tryz.results44 (h4_.at 2) ?_)))))))))))
 exact ⟨rfl, st6.bare⟩
theorem xJ (w : World) {x : Crew} {cs : List Value} {fp : List Nat} (hc : Shape.C w cs x fp) (hw : x.wt ≤ 1048576) :
  Calls Tryz.prog 13 #[.agg cs.toArray] w fun e w' => e = .returned (.bool (fS x)) ∧ St w w' [] := by
 have hyw : x.yard.wt + x.holds.length ≤ 1048576 := hw
 refine cR Tryz.func13 rfl Tryz.ntmps13 aX (wp_seq (aA (sg (aJ (cs := cs) rfl (St.start w) ?_)))); intro b1 W2 hb3 st4
 refine sg (aC (v := .bool false) rfl (aB (wp_seq (wp_seq (aA ?_)))))
 have hk9 := hc
 obtain ⟨v9_0, v9_1, v9_2, g9_0, g9_1, g9_2, rfl, hok9, h9_0, h9_1, h9_2, rfl⟩ := hk9
 rcases bd (!(dR x.yard)) with h10 | h10
 ·rcases bd (!(inB (x.holds.length : Int) 1 8)) with h11 | h11
  ·have h11p := inB_iff'.1 (bG h11)
   rcases bd (!(inB x.turns 0 1000000000)) with h12 | h12
   ·have h12p := inB_iff'.1 (bG h12)
    refine rc st4 23 Ag.nil.put.put.put [] [(27, .bool (!(inB x.did 0 1000000000)))] [qb 0 rfl 0, qc Tryz.func46 rfl (fun W s b => oN W (show Shape.C _ [I x.yard.now, I x.yard.seq, v9_0, v9_1] x.yard _ from ⟨_, _, _, _, rfl, eS, (h9_0.below s.below), (h9_1.below s.below), rfl⟩) aD), qk h10, qb 0 rfl 4, ql h9_2, qc Tryz.func47 rfl (fun W s b => bZ W (x.holds.length : Int) 1 8), qk h11, qb 0 rfl 5, qc Tryz.func47 rfl (fun W s b => bZ W x.turns 0 1000000000), qk h12, qb 0 rfl 6, qc Tryz.func47 rfl (fun W s b => bZ W x.did 0 1000000000), .o] aE fun f13 W14 h13_ st15 hb16 => (aB (cT (h13_.at 27) (fun h17 => ?_) (fun h17 => ?_)))
    ·have h17p := cJ (aW h17)
     refine wp_seq (aA (sg (aC (v := .bool false) rfl (aB (wr (aL Tryz.results13 rfl ?_))))))
     exact ⟨(fB (by unfold fS; rw [cQ (by rintro ⟨hz1, hz2, hz3, hz4, hz5⟩; omega)])), st15.bare⟩
    ·have h17p := inB_iff'.1 (bG h17)
     refine wp_skip (wp_seq (wp_seq (aA (rn st15 4 h13_ [] [(29, v9_2), (30, I (x.holds.length : Int)), (31, I 0)] [qb 0 rfl 4, ql h9_2] aE fun f21 h21_ => (aB (wp_block (aY (fun (m : Nat) (f : Nat → Value) (W : World) => ∃ (k : Nat), k ≤ x.holds.length ∧ (∀ r ∈ x.holds.take k, jW r) ∧ m = x.holds.length - k ∧ Ag [(29, v9_2), (30, I (x.holds.length : Int)), (31, I (k : Int))] f ∧ St w W ([Res.bx b1 [I x.yard.now, I x.yard.seq, v9_0, v9_1, v9_2, I x.turns, I x.did] 37])) (x.holds.length - 0) ?_ ?_)))))))
     ·exact ⟨0, aD, (by simp), rfl, (h21_.to aE), st15⟩
     intro m22 f23 W24 hJ25
     obtain ⟨k, hk, hH, rfl, hA27, st26⟩ := hJ25
     refine wp_seq (aA (sg (bS (hA27.at 31) (hA27.at 30) (aB (wp_seq (aK rfl (fun h30p => ?_) (fun h30p => ?_)))))))
     ·refine wp_skip (wp_seq (wp_block (wp_seq (aA ?_))))
      have hi05310 : k < x.holds.length := aD
      have hq_ := idx h9_2 (i := k) hi05310
      obtain ⟨b31, o31, cs31, f31, hp31, hr31, hc31, hm31⟩ := hq_
      refine sg (aN lT (hA27.at 29) hp31 (hA27.at 31) rfl (sg (dL fZ rfl rfl hr31 st26.below (Shape.len hc31) (sg (aR iV st26 ?_))))); intro b34 W35 hb36 st37
      refine sgn (aO (cs := cs31) fZ hc31 rfl rfl st37 rfl ?_); intro W39 st40
      refine aB (wp_seq (aA ?_))
      have hk42 := hc31
      obtain ⟨he42, rfl, hok42⟩ := hk42
      have he42 : _ = [I (x.holds[k]'hi05310).code, I (x.holds[k]'hi05310).run, I (x.holds[k]'hi05310).task, I (x.holds[k]'hi05310).try_] := he42
      subst he42
      rcases Decidable.em ((x.holds[k]'hi05310).code = 0) with h43p | h43p
      ·have h43 := gS h43p
       refine rn st40 8 hA27.put.put.put.put [] [(42, .bool (decide ((x.holds[k]'hi05310).try_ < 0)))] [qb 0 rfl 0, qk h43, qb 0 rfl 3, .o] aE fun f44 h44_ => (aB (aK (h44_.at 42) (fun h45p => ?_) (fun h45p => ?_)))
       ·refine wp_seq (aA (sg (aC (v := .bool false) rfl (aB (wr (aL Tryz.results13 rfl ?_))))))
        exact ⟨(fB (by unfold fS; rw [cQ (by rintro ⟨hz1, hz2, hz3, hz4, hz5⟩; have hq := hz5 _ (List.getElem_mem (n := k) aD); unfold jW at hq; omega)])), st40.bare⟩
       ·refine wp_skip (aA (sg (bY (h44_.at 31) rfl dX (sg (aF (v := I ((k : Int) + 1)) rfl (aB ?_))))))
        have st50 := st40.f1
        exact ⟨_, x.holds.length - (k + 1), aD, rfl, k + 1, aD, (mA aD hH (by unfold jW; omega)), rfl, (h44_.put.put.to aE), st50.d1⟩
      ·have h43 := gR h43p
       refine rn st40 8 hA27.put.put.put.put [] [(42, .bool true)] [qb 0 rfl 0, qk h43] aE fun f52 h52_ => (aB (fH (h52_.at 42) rfl (wp_seq (aA (sg (aC (v := .bool false) rfl (aB (wr (aL Tryz.results13 rfl ?_)))))))))
       exact ⟨(fB (by unfold fS; rw [cQ (by rintro ⟨hz1, hz2, hz3, hz4, hz5⟩; have hq := hz5 _ (List.getElem_mem (n := k) aD); unfold jW at hq; omega)])), st40.bare⟩
     ·refine wp_exit (wp_seq (aA (sg (aC (v := .bool true) rfl (aB (wr (aL Tryz.results13 rfl ?_)))))))
      exact ⟨(fB (by unfold fS; rw [gG ⟨(bG h10), by omega, by omega, by omega, by rw [show k = x.holds.length by omega, List.take_length] at hH; exact hH⟩])), st26.bare⟩
   ·have h12p := cJ (aW h12)
    refine rc st4 23 Ag.nil.put.put.put [] [(27, .bool true)] [qb 0 rfl 0, qc Tryz.func46 rfl (fun W s b => oN W (show Shape.C _ [I x.yard.now, I x.yard.seq, v9_0, v9_1] x.yard _ from ⟨_, _, _, _, rfl, eS, (h9_0.below s.below), (h9_1.below s.below), rfl⟩) aD), qk h10, qb 0 rfl 4, ql h9_2, qc Tryz.func47 rfl (fun W s b => bZ W (x.holds.length : Int) 1 8), qk h11, qb 0 rfl 5, qc Tryz.func47 rfl (fun W s b => bZ W x.turns 0 1000000000), qk h12] aE fun f57 W58 h57_ st59 hb60 => (aB (fH (h57_.at 27) rfl (wp_seq (aA (sg (aC (v := .bool false) rfl (aB (wr (aL Tryz.results13 rfl ?_)))))))))
    exact ⟨(fB (by unfold fS; rw [cQ (by rintro ⟨hz1, hz2, hz3, hz4, hz5⟩; omega)])), st59.bare⟩
  ·have h11p := cJ (aW h11)
   refine rc st4 23 Ag.nil.put.put.put [] [(27, .bool true)] [qb 0 rfl 0, qc Tryz.func46 rfl (fun W s b => oN W (show Shape.C _ [I x.yard.now, I x.yard.seq, v9_0, v9_1] x.yard _ from ⟨_, _, _, _, rfl, eS, (h9_0.below s.below), (h9_1.below s.below), rfl⟩) aD), qk h10, qb 0 rfl 4, ql h9_2, qc Tryz.func47 rfl (fun W s b => bZ W (x.holds.length : Int) 1 8), qk h11] aE fun f63 W64 h63_ st65 hb66 => (aB (fH (h63_.at 27) rfl (wp_seq (aA (sg (aC (v := .bool false) rfl (aB (wr (aL Tryz.results13 rfl ?_)))))))))
   exact ⟨(fB (by unfold fS; rw [cQ (by rintro ⟨hz1, hz2, hz3, hz4, hz5⟩; omega)])), st65.bare⟩
 ·refine rc st4 23 Ag.nil.put.put.put [] [(27, .bool true)] [qb 0 rfl 0, qc Tryz.func46 rfl (fun W s b => oN W (show Shape.C _ [I x.yard.now, I x.yard.seq, v9_0, v9_1] x.yard _ from ⟨_, _, _, _, rfl, eS, (h9_0.below s.below), (h9_1.below s.below), rfl⟩) aD), qk h10] aE fun f69 W70 h69_ st71 hb72 => (aB (fH (h69_.at 27) rfl (wp_seq (aA (sg (aC (v := .bool false) rfl (aB (wr (aL Tryz.results13 rfl ?_)))))))))
  exact ⟨(fB (by unfold fS; rw [cQ (by rintro ⟨hz1, hz2, hz3, hz4, hz5⟩; rw [(aW h10)] at hz1; cases hz1)])), st71.bare⟩
theorem xI (w : World) {x : Crew} {cs : List Value} {fp : List Nat} (hc : Shape.C w cs x fp) (hw : x.wt ≤ 1048576) :
  Calls Tryz.prog 11 #[.agg cs.toArray] w fun e w' => e = .returned (.bool (fS x)) ∧ St w w' [] := by
 have hyw : x.yard.wt + x.holds.length ≤ 1048576 := hw
 refine cR Tryz.func11 rfl Tryz.ntmps11 aX (wp_seq (aA (sg (aJ (cs := cs) rfl (St.start w) ?_)))); intro b1 W2 hb3 st4
 refine sg (aC (v := .bool false) rfl (aB (wp_seq (wp_seq (aA ?_)))))
 have hk9 := hc
 obtain ⟨v9_0, v9_1, v9_2, g9_0, g9_1, g9_2, rfl, hok9, h9_0, h9_1, h9_2, rfl⟩ := hk9
 rcases bd (!(dR x.yard)) with h10 | h10
 ·rcases bd (!(inB (x.holds.length : Int) 1 8)) with h11 | h11
  ·have h11p := inB_iff'.1 (bG h11)
   rcases bd (!(inB x.turns 0 1000000000)) with h12 | h12
   ·have h12p := inB_iff'.1 (bG h12)
    refine rc st4 23 Ag.nil.put.put.put [] [(26, .bool (!(inB x.did 0 1000000000)))] [qb 0 rfl 0, qc Tryz.func42 rfl (fun W s b => oM W (show Shape.C _ [I x.yard.now, I x.yard.seq, v9_0, v9_1] x.yard _ from ⟨_, _, _, _, rfl, eS, (h9_0.below s.below), (h9_1.below s.below), rfl⟩) aD), qk h10, qb 0 rfl 4, ql h9_2, qc Tryz.func43 rfl (fun W s b => cN W (x.holds.length : Int) 1 8), qk h11, qb 0 rfl 5, qc Tryz.func44 rfl (fun W s b => zF W x.turns), qk h12, qb 0 rfl 6, qc Tryz.func44 rfl (fun W s b => zF W x.did), .o] aE fun f13 W14 h13_ st15 hb16 => (aB (cT (h13_.at 26) (fun h17 => ?_) (fun h17 => ?_)))
    ·have h17p := cJ (aW h17)
     refine wp_seq (aA (sg (aC (v := .bool false) rfl (aB (wr (aL Tryz.results11 rfl ?_))))))
     exact ⟨(fB (by unfold fS; rw [cQ (by rintro ⟨hz1, hz2, hz3, hz4, hz5⟩; omega)])), st15.bare⟩
    ·have h17p := inB_iff'.1 (bG h17)
     refine wp_skip (wp_seq (wp_seq (aA (sg (aC (v := I 0) rfl (aB (wp_block (aY (fun (m : Nat) (f : Nat → Value) (W : World) => ∃ (k : Nat), k ≤ x.holds.length ∧ (∀ r ∈ x.holds.take k, jW r) ∧ m = x.holds.length - k ∧ Ag [(1, .pointer (some ⟨b1, 0, none⟩)), (3, I (k : Int))] f ∧ St w W ([Res.bx b1 [I x.yard.now, I x.yard.seq, v9_0, v9_1, v9_2, I x.turns, I x.did] 37])) (x.holds.length - 0) ?_ ?_))))))))
     ·exact ⟨0, aD, (by simp), rfl, (h13_.put.to aE), st15⟩
     intro m22 f23 W24 hJ25
     obtain ⟨k, hk, hH, rfl, hA27, st26⟩ := hJ25
     refine wp_seq (wp_seq (aA (rn st26 5 hA27 [] [(31, .bool (decide ((k : Int) < (x.holds.length : Int))))] [qb 0 rfl 4, ql h9_2, .o] aE fun f29 h29_ => (aB (aK (h29_.at 31) (fun h30p => ?_) (fun h30p => ?_))))))
     ·refine wp_skip (wp_seq (wp_block (wp_seq (aA ?_))))
      have hi05310 : k < x.holds.length := aD
      have hq_ := idx h9_2 (i := k) hi05310
      obtain ⟨b32, o32, cs32, f32, hp32, hr32, hc32, hm32⟩ := hq_
      have hk33 := hc32
      obtain ⟨he33, rfl, hok33⟩ := hk33
      have he33 : _ = [I (x.holds[k]'hi05310).code, I (x.holds[k]'hi05310).run, I (x.holds[k]'hi05310).task, I (x.holds[k]'hi05310).try_] := he33
      subst he33
      rcases Decidable.em ((x.holds[k]'hi05310).code = 0) with h34p | h34p
      ·have h34 := gS h34p
       refine rn st26 16 h29_ [] [(49, .bool (decide ((x.holds[k]'hi05310).try_ < 0)))] [qb 0 rfl 4, qx hp32, qr hr32 0, qk h34, qb 0 rfl 4, qx hp32, qr hr32 3, .o] aE fun f35 h35_ => (aB (aK (h35_.at 49) (fun h36p => ?_) (fun h36p => ?_)))
       ·refine wp_seq (aA (sg (aC (v := .bool false) rfl (aB (wr (aL Tryz.results11 rfl ?_))))))
        exact ⟨(fB (by unfold fS; rw [cQ (by rintro ⟨hz1, hz2, hz3, hz4, hz5⟩; have hq := hz5 _ (List.getElem_mem (n := k) aD); unfold jW at hq; omega)])), st26.bare⟩
       ·refine wp_skip (aA (rn st26 3 h35_ [3] [(3, I ((k : Int) + 1))] [qad (k : Int) 1] aE fun f40 h40_ => (aB ?_)))
        exact ⟨_, x.holds.length - (k + 1), aD, rfl, k + 1, aD, (mA aD hH (by unfold jW; omega)), rfl, (h40_.to aE), st26⟩
      ·have h34 := gR h34p
       refine rn st26 16 h29_ [] [(49, .bool true)] [qb 0 rfl 4, qx hp32, qr hr32 0, qk h34] aE fun f41 h41_ => (aB (fH (h41_.at 49) rfl (wp_seq (aA (sg (aC (v := .bool false) rfl (aB (wr (aL Tryz.results11 rfl ?_)))))))))
       exact ⟨(fB (by unfold fS; rw [cQ (by rintro ⟨hz1, hz2, hz3, hz4, hz5⟩; have hq := hz5 _ (List.getElem_mem (n := k) aD); unfold jW at hq; omega)])), st26.bare⟩
     ·refine wp_exit (wp_seq (aA (sg (aC (v := .bool true) rfl (aB (wr (aL Tryz.results11 rfl ?_)))))))
      exact ⟨(fB (by unfold fS; rw [gG ⟨(bG h10), by omega, by omega, by omega, by rw [show k = x.holds.length by omega, List.take_length] at hH; exact hH⟩])), st26.bare⟩
   ·have h12p := cJ (aW h12)
    refine rc st4 23 Ag.nil.put.put.put [] [(26, .bool true)] [qb 0 rfl 0, qc Tryz.func42 rfl (fun W s b => oM W (show Shape.C _ [I x.yard.now, I x.yard.seq, v9_0, v9_1] x.yard _ from ⟨_, _, _, _, rfl, eS, (h9_0.below s.below), (h9_1.below s.below), rfl⟩) aD), qk h10, qb 0 rfl 4, ql h9_2, qc Tryz.func43 rfl (fun W s b => cN W (x.holds.length : Int) 1 8), qk h11, qb 0 rfl 5, qc Tryz.func44 rfl (fun W s b => zF W x.turns), qk h12] aE fun f46 W47 h46_ st48 hb49 => (aB (fH (h46_.at 26) rfl (wp_seq (aA (sg (aC (v := .bool false) rfl (aB (wr (aL Tryz.results11 rfl ?_)))))))))
    exact ⟨(fB (by unfold fS; rw [cQ (by rintro ⟨hz1, hz2, hz3, hz4, hz5⟩; omega)])), st48.bare⟩
  ·have h11p := cJ (aW h11)
   refine rc st4 23 Ag.nil.put.put.put [] [(26, .bool true)] [qb 0 rfl 0, qc Tryz.func42 rfl (fun W s b => oM W (show Shape.C _ [I x.yard.now, I x.yard.seq, v9_0, v9_1] x.yard _ from ⟨_, _, _, _, rfl, eS, (h9_0.below s.below), (h9_1.below s.below), rfl⟩) aD), qk h10, qb 0 rfl 4, ql h9_2, qc Tryz.func43 rfl (fun W s b => cN W (x.holds.length : Int) 1 8), qk h11] aE fun f52 W53 h52_ st54 hb55 => (aB (fH (h52_.at 26) rfl (wp_seq (aA (sg (aC (v := .bool false) rfl (aB (wr (aL Tryz.results11 rfl ?_)))))))))
   exact ⟨(fB (by unfold fS; rw [cQ (by rintro ⟨hz1, hz2, hz3, hz4, hz5⟩; omega)])), st54.bare⟩
 ·refine rc st4 23 Ag.nil.put.put.put [] [(26, .bool true)] [qb 0 rfl 0, qc Tryz.func42 rfl (fun W s b => oM W (show Shape.C _ [I x.yard.now, I x.yard.seq, v9_0, v9_1] x.yard _ from ⟨_, _, _, _, rfl, eS, (h9_0.below s.below), (h9_1.below s.below), rfl⟩) aD), qk h10] aE fun f58 W59 h58_ st60 hb61 => (aB (fH (h58_.at 26) rfl (wp_seq (aA (sg (aC (v := .bool false) rfl (aB (wr (aL Tryz.results11 rfl ?_)))))))))
  exact ⟨(fB (by unfold fS; rw [cQ (by rintro ⟨hz1, hz2, hz3, hz4, hz5⟩; rw [(aW h10)] at hz1; cases hz1)])), st60.bare⟩
def zR : Reply := ⟨0, 0, 0, 0⟩
theorem yard_wt2 {y : Yard} {s : List (List Entry)} {rr : List Run} {a b : Int} (h4 : s.length = 4) (he : ∀ j, j < 4 → (s.getD j []).length ≤ 1000) (h8 : rr.length ≤ 8) (hr : ∀ r ∈ rr, r.wt ≤ 42) : (⟨a, b, s, rr⟩ : Yard).wt ≤ 100000 := by
 have hs := pU (fun z : List Entry => z.length) 1000 s (fun z hz => by
  obtain ⟨j, hj, rfl⟩ := List.getElem_of_mem hz
  have := he j aD
  rw [List.getD_eq_getElem?_getD, List.getElem?_eq_getElem hj] at this
  simpa using this)
 have hq := pU (fun z : Run => z.wt) 42 rr hr
 rw [h4] at hs
 have : rr.length * 42 ≤ 8 * 42 := Nat.mul_le_mul_right _ h8
 unfold Yard.wt wtL
 simp only
 omega
theorem changeY_wt {y : Yard} (hY : YardIs y) {k : Nat} {r r' : Run} (hr : y.runs[k]? = some r) (hl : r'.tasks.length ≤ 12) (hw : r'.wt ≤ 42) : (dO y k r r').wt ≤ 100000 := by
 have h4 := hY.shelf
 have hsr := iQ r'.id
 have hfl := lG r r'
 refine yard_wt2 (y := y) ?_ ?_ ?_ ?_
 ·rw [kM]; exact h4
 ·intro j hj
  by_cases e : j = (bH r'.id).toNat
  ·subst e
   rw [kN _ _ _ _ _ _ aD]
   have := sV hY (bH r'.id).toNat aD
   omega
  ·rw [mI _ _ _ j e]
   have := sV hY j hj
   omega
 ·rw [List.length_set]; exact hY.runs
 ·intro q hq
  rcases List.mem_or_eq_of_mem_set hq with h | rfl
  ·exact qD hY q h
  ·exact hw
theorem doneR_wt {r : Run} (h : RunIs r) (i : Nat) : (fJ r i).tasks.length ≤ 12 ∧ (fJ r i).wt ≤ 42 := by
 obtain ⟨h1, h2, h3, h4⟩ := lI r i
 have hs := h.small
 have hw := h.wt
 unfold Run.wt at hw ⊢
 rw [h2, h3]
 omega
theorem completeY_wt {y : Yard} (id task try_ : Int) {B : Nat} (hB : 100000 ≤ B) (hw : y.wt ≤ B) : (bI y id task try_).wt ≤ B := by
 unfold bI
 by_cases h : gU y id task try_ = 0
 ·obtain ⟨hY, k, r, t, hk, hr, hR, h0, ht, h3⟩ := zC h
  rw [tA h hk hr]
  obtain ⟨h1, h2⟩ := doneR_wt hR task.toNat
  have := changeY_wt hY hr h1 h2
  omega
 ·rw [rJ h]; exact hw
theorem startT_wt {r : Run} (i : Nat) (t : Task) (now : Int) : (gZ r i t now).wt = r.wt := by unfold gZ Run.wt; simp
theorem given_wt {y out : Yard} {home : Nat} (hY : YardIs y) (h : PI y out home) : (pK out home).1.wt ≤ 100000 := by
 have hb := h.wt hY
 unfold pK
 split
 ·exact hb
 ·next e rest he =>
  split
  ·exact hb
  ·next k hk =>
   split
   ·exact hb
   ·next r hr =>
    split
    ·exact hb
    ·next t ht =>
     have hrest : rest.length ≤ 80 := by
      by_cases hh : home < 4
      ·have := h.each home hh; rw [he] at this; simp only [List.length_cons] at this; omega
      ·rw [List.getD_eq_getElem?_getD, List.getElem?_eq_none (by have := h.len; omega)] at he; cases he
     refine wS (y := y) (by rw [List.length_set]; exact h.len) (kS h.each hrest h.len) (by rw [List.length_set, h.runs]; exact hY.runs) ?_
     intro q hq
     rcases List.mem_or_eq_of_mem_set hq with h1 | rfl
     ·rw [h.runs] at h1; exact qD hY q h1
     ·rw [startT_wt]
      rw [h.runs] at hr
      exact qD hY r (List.mem_of_getElem? hr)
theorem polled_wt {y : Yard} (worker draw : Int) {B : Nat} (hB : 100000 ≤ B) (hw : y.wt ≤ B) : (aP y worker draw).1.wt ≤ B := by
 unfold aP
 split
 ·exact hw
 ·next h1 =>
  split
  ·exact hw
  ·next h2 =>
   have hY := wT (y := y) (by simpa using h1)
   have hi := inB_iff'.1 (show inB worker 0 99 = true by simpa using h2)
   have hh : (((worker % 4).toNat : Nat) : Int) = worker % 4 := by omega
   have hPI := PI.all hY (home := (worker % 4).toNat) aD (l := cI (worker % 4) draw) (by rw [hh]; exact mZ aD) (PI.start hY aD)
   rw [hh] at hPI
   have := given_wt hY hPI
   omega
def bQ (c : Crew) (pick : Int) : Int := max pick 0 % (c.holds.length : Int)
noncomputable def kY (c : Crew) : Prop := fS c = false ∨ c.turns = 1000000000 ∨ c.did = 1000000000
noncomputable def lQ (c : Crew) (w : Int) (h : Reply) : Crew :=
 if 0 < h.try_ then ⟨bI c.yard h.run h.task h.try_, c.holds.set w.toNat zR, c.turns + 1, if gU c.yard h.run h.task h.try_ = 0 then c.did + 1 else c.did⟩
 else ⟨(aP c.yard w (c.turns % 1000)).1, if (aP c.yard w (c.turns % 1000)).2.code = 0 then c.holds.set w.toNat (aP c.yard w (c.turns % 1000)).2 else c.holds, c.turns + 1, if (aP c.yard w (c.turns % 1000)).2.code = 0 then c.did + 1 else c.did⟩
open Classical in
noncomputable def gL (c : Crew) (pick : Int) : Crew := if kY c then c else match c.holds[(bQ c pick).toNat]? with | some h => lQ c (bQ c pick) h | none => c
theorem jD {c : Crew} (h : kY c) (pick : Int) : gL c pick = c := by unfold gL; rw [if_pos h]
theorem iW {c : Crew} (h : ¬ kY c) {pick : Int} {r : Reply} (hr : c.holds[(bQ c pick).toNat]? = some r) : gL c pick = lQ c (bQ c pick) r := by unfold gL; rw [if_neg h, hr]
theorem zB {c : Crew} (h : fS c = true) : dR c.yard = true ∧ (1 ≤ (c.holds.length : Int) ∧ (c.holds.length : Int) ≤ 8) ∧ (0 ≤ c.turns ∧ c.turns ≤ 1000000000) ∧ (0 ≤ c.did ∧ c.did ≤ 1000000000) ∧ ∀ r ∈ c.holds, jW r := by
 unfold fS at h; rwa [pB_iff] at h
theorem turnH_wt {c : Crew} (w : Int) (h : Reply) {B : Nat} (hB : 100000 ≤ B) (hw : c.yard.wt ≤ B) : (lQ c w h).yard.wt ≤ B ∧ (lQ c w h).holds.length = c.holds.length := by
 unfold lQ
 split
 ·exact ⟨completeY_wt _ _ _ hB hw, by simp⟩
 ·refine ⟨polled_wt _ _ hB hw, ?_⟩
  show (if _ then List.set _ _ _ else c.holds).length = _
  split
  ·simp
  ·rfl
theorem turnC_wt {c : Crew} (pick : Int) (hw : c.yard.wt + c.holds.length ≤ 1048576) : (gL c pick).yard.wt + (gL c pick).holds.length ≤ 1048576 := by
 by_cases hb : kY c
 ·rw [jD hb]; exact hw
 ·cases hh : c.holds[(bQ c pick).toNat]? with
  | none => unfold gL; rw [if_neg hb, hh]; exact hw
  | some r =>
   rw [iW hb hh]
   have hc : fS c = true := by
    cases h : fS c
    ·exact absurd (Or.inl h) hb
    ·rfl
   have h8 := (zB hc).2.1
   obtain ⟨h1, h2⟩ := turnH_wt (c := c) (bQ c pick) r (B := max c.yard.wt 100000) aD aD
   omega
noncomputable def fO (c : Crew) (l : List Int) : Crew := l.foldl gL c
theorem pP : ∀ (l : List Int) {c : Crew}, c.yard.wt + c.holds.length ≤ 1048576 → (fO c l).yard.wt + (fO c l).holds.length ≤ 1048576
 | [], c, h => by unfold fO; exact h
 | p :: l, c, h => by have := pP l (c := gL c p) (turnC_wt p h); unfold fO at this ⊢; exact this
theorem xK {c : Crew} {l : List Int} {k : Nat} {p : Int} (h : l[k]? = some p) : fO c (l.take (k + 1)) = gL (fO c (l.take k)) p := by
 obtain ⟨hj, rfl⟩ := List.getElem?_eq_some_iff.1 h
 rw [List.take_succ_eq_append_getElem hj]
 unfold fO
 rw [List.foldl_append]; rfl
theorem wR (w : World) {x : Crew} {cs : List Value} {fp : List Nat} (hc : Shape.C w cs x fp) (hw : x.yard.wt + x.holds.length ≤ 1048576) :
  Calls Tryz.prog 67 #[.agg cs.toArray] w fun e w' => ∃ (cs' : List Value) (fp' : List Nat), e = .returned (.agg cs'.toArray) ∧ St w w' [Res.own (.agg cs'.toArray) x fp'] := by
 refine cR Tryz.func67 rfl Tryz.ntmps67 aX (wp_seq (aA (sg (aJ (cs := cs) rfl (St.start w) ?_)))); intro b1 W2 hb3 st4
 refine sg (aR gD st4 ?_); intro b6 W7 hb8 st9
 refine aB (wp_seq (aA ?_))
 have hk12 := hc
 obtain ⟨v12_0, v12_1, v12_2, g12_0, g12_1, g12_2, rfl, hok12, h12_0, h12_1, h12_2, rfl⟩ := hk12
 refine sg (aH kI rfl (sg (aV (cs := [I x.yard.now, I x.yard.seq, v12_0, v12_1]) bM rfl rfl (st9.get 1 rfl) rfl rfl (sg (bF Tryz.func108 rfl rfl ((mF W7 (show Shape.C _ [I x.yard.now, I x.yard.seq, v12_0, v12_1] x.yard _ from ⟨_, _, _, _, rfl, eS, (h12_0.below st9.below), (h12_1.below st9.below), rfl⟩) aD).mono ?_)))))); rintro _ W16 ⟨cs14, fp14, rfl, hk17⟩; refine ⟨_, rfl, ?_⟩
 have st18 := St.call st9 hk17
 refine sg (aH kI rfl ?_)
 have hq_ := eB st18
 obtain ⟨v22_0, v22_1, g22_0, g22_1, he22, hok22, st23⟩ := hq_
 subst he22
 refine sgn (aM (cs := [I x.yard.now, I x.yard.seq, v22_0, v22_1]) (C' := [I x.yard.now, I x.yard.seq, v22_0, v22_1, v12_2, I x.turns, I x.did]) aE rfl rfl (aG rfl (aG rfl (aG (Sl.one (aI (st23.f3.get 1 rfl))) (aG (Sl.one (aI (st23.f3.get 2 rfl))) bK)))) st23.f3 bP rfl ?_); intro W27 st28
 refine aB (wp_seq (aA (sg (aH lY rfl (sg (aU vS rfl rfl (st28.get 0 rfl) (i := 4) rfl rfl ?_))))))
 have st31 := st28.row_nil (α := Reply) 75
 refine sg (cE sM oK rfl rfl h12_2 st31.below st31 (by simp only [List.length_nil]; unfold maxLen; omega) (by simp only [List.length_nil]; omega) ?_); intro v33 W34 st35
 refine sg (aH lY rfl (sgn (aQ (v := v33) (C' := [I x.yard.now, I x.yard.seq, v22_0, v22_1, v33, I x.turns, I x.did]) aE rfl rfl (Sl.cells (bW (st35.f1.get 1 rfl))) (Sl.one (bW (st35.f1.get 1 rfl))) st35.f1 bP rfl ?_))); intro W39 st40
 refine aB (wp_seq (aA (sg (aV (cs := [I x.yard.now, I x.yard.seq, v22_0, v22_1, v33, I x.turns, I x.did]) bT rfl rfl (st40.get 0 rfl) rfl rfl (sgn (aM (cs := [I x.yard.now, I x.yard.seq, v22_0, v22_1, v33, I x.turns, I x.did]) (C' := [I x.yard.now, I x.yard.seq, v22_0, v22_1, v33, I x.turns, I x.did]) aE rfl rfl (aG rfl (aG rfl (aG (Sl.one (aI (st40.f4.get 3 rfl))) (aG (Sl.one (aI (st40.f4.get 4 rfl))) (aG (Sl.one (bW (st40.f4.get 2 rfl))) (aG rfl (aG rfl bK))))))) st40.f4 bP rfl ?_)))))); intro W44 st45
 refine aB (wr (eO bT rfl Tryz.results67 rfl (st45.get 0 rfl) rfl ?_))
 have hq_ := st45.f2.shut
 obtain ⟨fp48, st47⟩ := hq_
 have st51 := fV (x := x) st47.f4.f4 (by assumption)
 exact ⟨_, _, rfl, st51.only 0 rfl⟩
theorem wQ (w : World) {x : Crew} {cs : List Value} {fp : List Nat} (hc : Shape.C w cs x fp) (hw : x.yard.wt + x.holds.length ≤ 1048576) :
  Calls Tryz.prog 64 #[.agg cs.toArray] w fun e w' => ∃ (cs' : List Value) (fp' : List Nat), e = .returned (.agg cs'.toArray) ∧ St w w' [Res.own (.agg cs'.toArray) x fp'] := by
 refine cR Tryz.func64 rfl Tryz.ntmps64 aX (wp_seq (aA (sg (aJ (cs := cs) rfl (St.start w) ?_)))); intro b1 W2 hb3 st4
 refine sg (aR gD st4 ?_); intro b6 W7 hb8 st9
 refine aB (wp_seq (aA ?_))
 have hk12 := hc
 obtain ⟨v12_0, v12_1, v12_2, g12_0, g12_1, g12_2, rfl, hok12, h12_0, h12_1, h12_2, rfl⟩ := hk12
 refine sg (aH kI rfl (sg (aV (cs := [I x.yard.now, I x.yard.seq, v12_0, v12_1]) bM rfl rfl (st9.get 1 rfl) rfl rfl (sg (bF Tryz.func71 rfl rfl ((mE W7 (show Shape.C _ [I x.yard.now, I x.yard.seq, v12_0, v12_1] x.yard _ from ⟨_, _, _, _, rfl, eS, (h12_0.below st9.below), (h12_1.below st9.below), rfl⟩) aD).mono ?_)))))); rintro _ W16 ⟨cs14, fp14, rfl, hk17⟩; refine ⟨_, rfl, ?_⟩
 have st18 := St.call st9 hk17
 refine sg (aH kI rfl ?_)
 have hq_ := eB st18
 obtain ⟨v22_0, v22_1, g22_0, g22_1, he22, hok22, st23⟩ := hq_
 subst he22
 refine sgn (aM (cs := [I x.yard.now, I x.yard.seq, v22_0, v22_1]) (C' := [I x.yard.now, I x.yard.seq, v22_0, v22_1, v12_2, I x.turns, I x.did]) aE rfl rfl (aG rfl (aG rfl (aG (Sl.one (aI (st23.f3.get 1 rfl))) (aG (Sl.one (aI (st23.f3.get 2 rfl))) bK)))) st23.f3 bP rfl ?_); intro W27 st28
 refine aB (wp_seq (aA (sg (aT (cs := []) (e := 75) eA (bV oK _) st28 ?_)))); intro b29 W30 hb31 st32
 have st32 := st32.row_empty (α := Reply)
 refine sg (aH lY rfl (sg (aU vS rfl rfl (st32.get 1 rfl) (i := 4) rfl rfl (sg (cE sM oK rfl rfl h12_2 st32.below st32 (by simp only [List.length_nil]; unfold maxLen; omega) (by simp only [List.length_nil]; omega) ?_))))); intro v36 W37 st38
 refine sg (aH lY rfl (sgn (aQ (v := v36) (C' := [I x.yard.now, I x.yard.seq, v22_0, v22_1, v36, I x.turns, I x.did]) aE rfl rfl (Sl.cells (bW (st38.f1.get 1 rfl))) (Sl.one (bW (st38.f1.get 1 rfl))) st38.f1 bP rfl ?_))); intro W42 st43
 refine aB (wp_seq (aA (sg (aV (cs := [I x.yard.now, I x.yard.seq, v22_0, v22_1, v36, I x.turns, I x.did]) bT rfl rfl (st43.get 0 rfl) rfl rfl (sgn (aM (cs := [I x.yard.now, I x.yard.seq, v22_0, v22_1, v36, I x.turns, I x.did]) (C' := [I x.yard.now, I x.yard.seq, v22_0, v22_1, v36, I x.turns, I x.did]) aE rfl rfl (aG rfl (aG rfl (aG (Sl.one (aI (st43.f4.get 3 rfl))) (aG (Sl.one (aI (st43.f4.get 4 rfl))) (aG (Sl.one (bW (st43.f4.get 2 rfl))) (aG rfl (aG rfl bK))))))) st43.f4 bP rfl ?_)))))); intro W47 st48
 refine aB (wr (eO bT rfl Tryz.results64 rfl (st48.get 0 rfl) rfl ?_))
 have hq_ := st48.f2.shut
 obtain ⟨fp51, st50⟩ := hq_
 have st54 := fV (x := x) st50.f4.f4 (by assumption)
 exact ⟨_, _, rfl, st54.only 0 rfl⟩
theorem TurnI_ (w : World) {x : Crew} {cs : List Value} {fp : List Nat} (hc : Shape.C w cs x fp) (pick : Int) (hpk : I64 pick) (hw : x.yard.wt + x.holds.length ≤ 1048576) :
  Calls Tryz.prog 28 #[.agg cs.toArray, I pick] w fun e w' => ∃ (cs' : List Value) (fp' : List Nat), e = .returned (.agg cs'.toArray) ∧ St w w' [Res.own (.agg cs'.toArray) (gL x pick) fp'] := by
 have hpk2 := hpk
 unfold I64 at hpk2
 have hxw : x.wt ≤ 1048576 := hw
 have hw2 : x.yard.wt ≤ 1048576 := by omega
 refine bR Tryz.func28 rfl Tryz.ntmps28 aX (wp_seq (aA (sg (aJ (cs := cs) rfl (St.start w) ?_)))); intro b1 W2 hb3 st4
 refine sg (aR gD st4 ?_); intro b6 W7 hb8 st9
 refine aB (wp_seq (aA (sg (bB bT rfl rfl (st9.get 1 rfl) (Shape.len hc) (sg (bF Tryz.func67 rfl rfl ((wR W7 (bA hc st9.below) aD).mono ?_))))))); rintro _ W15 ⟨cs13, fp13, rfl, hk16⟩; refine ⟨_, rfl, ?_⟩
 have st17 := St.call st9 hk16
 refine sg (aR gD st17 ?_); intro b19 W20 hb21 st22
 refine sgn (aO (cs := cs13) bT (bO (st22.get 1 rfl) rfl) rfl rfl st22 rfl ?_); intro W24 st25
 refine aB (wp_seq (wp_seq (aA ?_)))
 rcases bd (!(fS x)) with h27 | h27
 ·have hk28 := hc
  obtain ⟨v28_0, v28_1, v28_2, g28_0, g28_1, g28_2, rfl, hok28, h28_0, h28_1, h28_2, rfl⟩ := hk28
  rcases nem (x.turns = 1000000000) with h29p | h29p
  ·have h29 := decide_eq_false h29p
   refine rc st25 13 Ag.nil.put.put.put.put.put.put.put [] [(25, .bool (decide (x.did = 1000000000)))] [qb 3 rfl 0, qc Tryz.func13 rfl (fun W s b => xJ W (bA hc s.below) aD), qk h27, qb 3 rfl 5, qk h29, qb 3 rfl 6, .o] aE fun f30 W31 h30_ st32 hb33 => (aB (aK (h30_.at 25) (fun h34p => ?_) (fun h34p => ?_)))
   ·refine wp_seq (aA (sg (bB bT rfl (h30_.at 5) (st32.get 0 rfl) (Shape.len (bO (st32.get 1 rfl) rfl)) (sgn (aO (cs := cs13) bT (bO (st32.f2.get 2 rfl) rfl) (h30_.at 4) rfl st32.f2 rfl ?_))))); intro W38 st39
    refine aB (wr (eO bT rfl Tryz.results28 (h30_.at 4) (st39.get 0 rfl) (Shape.len (bO (st39.get 2 rfl) rfl)) ?_))
    have hfe : gL x pick = x := jD (.inr (.inr h34p)) pick
    rw [hfe]
    exact ⟨_, _, rfl, st39.f2.d1.d1.d1⟩
   ·refine wp_skip (wp_seq ?_)
    have hcr := zB (bG h27)
    obtain ⟨hyo, hhl, htn, hdd, hho⟩ := hcr
    have hnb : ¬ kY x := by unfold kY; rintro (h | h | h); rw [(bG h27)] at h; cases h; exact absurd h h29p; exact absurd h h34p
    have hwr : 0 ≤ (bQ x pick) ∧ (bQ x pick) < (x.holds.length : Int) := by unfold bQ; exact ⟨Int.emod_nonneg _ aD, Int.emod_lt_of_pos _ aD⟩
    have hq_ := eH (xs := x.holds) (i := (bQ x pick).toNat) aD
    obtain ⟨h, hh⟩ := hq_
    have hhr := hho h (List.mem_of_getElem? hh)
    unfold jW at hhr
    refine aA (sg (aF (v := I pick) (h30_.at 1) (sg (zK rfl rfl (rn st32 5 h30_.put.put [] [(6, I ((max pick 0) % (x.holds.length : Int)))] [qb 3 rfl 4, ql h28_2, qq (max pick 0) (x.holds.length : Int)] aE fun f47 h47_ => (aB (wp_seq (aA ?_))))))))
    have hic53e7 : (bQ x pick).toNat < x.holds.length := (List.getElem?_eq_some_iff.1 hh).1
    have hq_ := gT h28_2 (i := (bQ x pick).toNat) hh
    obtain ⟨b49, o49, cs49, f49, hp49, hr49, hc49, hm49⟩ := hq_
    refine rn st32 5 h47_ [] [(37, .agg cs49.toArray)] [qb 3 rfl 4, qxe hp49 (e := bQ x pick) aD, qrw hr49 (Shape.len hc49)] aE fun f50 h50_ => (sg (aR iV st32 ?_)); intro b51 W52 hb53 st54
    refine sgn (aO (cs := cs49) fZ hc49 rfl (h50_.at 37) st54 rfl ?_); intro W56 st57
    refine aB (wp_seq (aA (sg (aC (v := I 0) rfl (aB (wp_seq (wp_seq (aA ?_))))))))
    have hk61 := hc49
    obtain ⟨he61, rfl, hok61⟩ := hk61
    have he61 : _ = [I h.code, I h.run, I h.task, I h.try_] := he61
    subst he61
    refine lw h50_.put.put [(2, .pointer (some ⟨b1, 0, none⟩)), (4, .pointer (some ⟨b6, 0, none⟩)), (5, .pointer (some ⟨b19, 0, none⟩)), (6, I (bQ x pick)), (7, .pointer (some ⟨b51, 0, none⟩))] aE fun h63_ => (rn st57 3 h63_ [] [(40, .bool (decide (0 < h.try_)))] [qb 0 rfl 3, .o] aE fun f62 h62_ => (aB (aK (h62_.at 40) (fun h64p => ?_) (fun h64p => ?_))))
    ·refine wp_seq ?_
     have st65 := st57.f2
     have hq_ := oB st65
     obtain ⟨v66_0, v66_1, v66_2, g66_0, g66_1, g66_2, he66, hok66, st67⟩ := hq_
     subst he66
     have hq_ := St.lendx (α := Reply) aX st67.f2 (x := h) hh
     obtain ⟨b72, e72, pre72, cs72, post72, fi72, fr72, hPA72, hC72, st73⟩ := hq_
     obtain ⟨he72, hf72, hok72⟩ := hC72; have he72 : _ = [I h.code, I h.run, I h.task, I h.try_] := he72; subst he72
     refine aA (rn st73.d1 3 h62_ [] [(42, v66_2), (43, I (bQ x pick))] [qb 5 rfl 4] aE fun f79 h79_ => (sg (eJ (vs := []) (cs := [I 0, I 0, I 0, I 0]) eA aE (sg (aN lT (h79_.at 42) hPA72 (h79_.at 43) aD (sgn (fC (i := 0) (cs := [I 0, I 0, I 0, I 0]) (C' := [I 0, I 0, I 0, I 0]) aE rfl rfl (aG rfl (aG rfl (aG rfl (aG rfl bK)))) st73.d1 rfl bP rfl ?_))))))); intro W82 st83
     refine aB ?_
     have st84 := st83.cs0 (cs := [I 0, I 0, I 0, I 0]) (x := zR) ⟨rfl, rfl, (by first | assumption | simp [zR, Reply.ok, I64])⟩
     have hq_ := St.give (α := Reply) st84.f2.f1.f2
     obtain ⟨fp89, st90⟩ := hq_
     refine aA (rn st90 8 h79_.put.put [] [(48, .agg #[I x.yard.now, I x.yard.seq, v28_0, v28_1]), (50, I h.run), (52, I h.task), (54, I h.try_)] [qb 6 rfl 0, qb 3 rfl 1, qb 3 rfl 2, qb 3 rfl 3] aE fun f92 h92_ => (sg (vK Tryz.func68 rfl (h92_.at 48) (h92_.at 50) (h92_.at 52) (h92_.at 54) ((CompleteI W82 (show Shape.C _ [I x.yard.now, I x.yard.seq, v28_0, v28_1] x.yard _ from ⟨_, _, _, _, rfl, eS, (h28_0.below st90.below), (h28_1.below st90.below), rfl⟩) h.run h.task h.try_ aD).mono ?_)))); rintro _ W95 ⟨cs93, fp93, rfl, hk96⟩; refine ⟨_, rfl, ?_⟩
     have st97 := St.call st90 hk96
     refine rn st97 4 h92_.put [] [(56, .agg cs93.toArray), (57, I (gU x.yard h.run h.task h.try_)), (58, .pointer (some ⟨b19, 0, none⟩))] [] aE fun f100 h100_ => ?_
     have hq_ := eB st97
     obtain ⟨v101_0, v101_1, g101_0, g101_1, he101, hok101, st102⟩ := hq_
     subst he101
     refine sgn (aM (cs := [I (bI x.yard h.run h.task h.try_).now, I (bI x.yard h.run h.task h.try_).seq, v101_0, v101_1]) (C' := [I (bI x.yard h.run h.task h.try_).now, I (bI x.yard h.run h.task h.try_).seq, v101_0, v101_1, v66_2, I x.turns, I x.did]) aE (h100_.at 58) (h100_.at 56) (aG rfl (aG rfl (aG (Sl.one (aI (st102.f6.get 1 rfl))) (aG (Sl.one (aI (st102.f6.get 2 rfl))) bK)))) st102.f6 bP rfl ?_); intro W106 st107
     refine sg (aC (v := I (gU x.yard h.run h.task h.try_)) (h100_.at 57) (aB (wp_seq (aA (rn st107 4 h100_.put [] [(82, I (x.turns + 1)), (83, .pointer (some ⟨b19, 5, none⟩))] [qb 0 rfl 5, qad x.turns 1] aE fun f111 h111_ => (sgn (aQ (v := I (x.turns + 1)) (C' := [I (bI x.yard h.run h.task h.try_).now, I (bI x.yard h.run h.task h.try_).seq, v101_0, v101_1, v66_2, I (x.turns + 1), I x.did]) aE (h111_.at 83) (h111_.at 82) rfl rfl st107 bP rfl ?_))))))); intro W112 st113
     refine aB (wp_seq (wp_seq (aA (sg (aF (v := I (gU x.yard h.run h.task h.try_)) (h111_.at 8) (sg (dI rfl rfl (aB (aK rfl (fun h116p => ?_) (fun h116p => ?_))))))))))
     ·refine aA (rn st113 4 h111_.put.put [] [(88, I (x.did + 1)), (89, .pointer (some ⟨b19, 6, none⟩))] [qb 0 rfl 6, qad x.did 1] aE fun f118 h118_ => (sgn (aQ (v := I (x.did + 1)) (C' := [I (bI x.yard h.run h.task h.try_).now, I (bI x.yard h.run h.task h.try_).seq, v101_0, v101_1, v66_2, I (x.turns + 1), I (x.did + 1)]) aE (h118_.at 89) (h118_.at 88) rfl rfl st113 bP rfl ?_))); intro W119 st120
      refine aB (wp_seq (aA (sg (aV (cs := [I (bI x.yard h.run h.task h.try_).now, I (bI x.yard h.run h.task h.try_).seq, v101_0, v101_1, v66_2, I (x.turns + 1), I (x.did + 1)]) bT rfl (h118_.at 5) (st120.get 0 rfl) rfl rfl (sgn (aM (cs := [I (bI x.yard h.run h.task h.try_).now, I (bI x.yard h.run h.task h.try_).seq, v101_0, v101_1, v66_2, I (x.turns + 1), I (x.did + 1)]) (C' := [I (bI x.yard h.run h.task h.try_).now, I (bI x.yard h.run h.task h.try_).seq, v101_0, v101_1, v66_2, I (x.turns + 1), I (x.did + 1)]) aE (h118_.at 4) rfl (aG rfl (aG rfl (aG (Sl.one (aI (st120.f7.get 2 rfl))) (aG (Sl.one (aI (st120.f7.get 3 rfl))) (aG (Sl.one (aI (st120.f7.get 4 rfl))) (aG rfl (aG rfl bK))))))) st120.f7 bP rfl ?_)))))); intro W124 st125
      refine aB (wr (eO bT rfl Tryz.results28 (h118_.at 4) (st125.get 0 rfl) rfl ?_))
      have st129 := fV (x := (⟨bI x.yard h.run h.task h.try_, x.holds.set (bQ x pick).toNat zR, x.turns + 1, x.did + 1⟩ : Crew)) st125.f4.f4.f4 (show Crew.ok _ from ⟨(by assumption), by unfold I64; simp only; omega, by unfold I64; simp only; omega⟩)
      try dsimp only at st129
      have st131 := st129.d1
      have hfe : gL x pick = (⟨bI x.yard h.run h.task h.try_, x.holds.set (bQ x pick).toNat zR, x.turns + 1, x.did + 1⟩ : Crew) := by rw [iW hnb hh]; unfold lQ; rw [if_pos h64p, if_pos h116p]
      rw [hfe]
      exact ⟨_, _, rfl, st131.d1.d1.d1.d1.d1⟩
     ·refine wp_skip (wp_seq (aA (sg (aV (cs := [I (bI x.yard h.run h.task h.try_).now, I (bI x.yard h.run h.task h.try_).seq, v101_0, v101_1, v66_2, I (x.turns + 1), I x.did]) bT rfl (h111_.at 5) (st113.get 0 rfl) rfl rfl (sgn (aM (cs := [I (bI x.yard h.run h.task h.try_).now, I (bI x.yard h.run h.task h.try_).seq, v101_0, v101_1, v66_2, I (x.turns + 1), I x.did]) (C' := [I (bI x.yard h.run h.task h.try_).now, I (bI x.yard h.run h.task h.try_).seq, v101_0, v101_1, v66_2, I (x.turns + 1), I x.did]) aE (h111_.at 4) rfl (aG rfl (aG rfl (aG (Sl.one (aI (st113.f7.get 2 rfl))) (aG (Sl.one (aI (st113.f7.get 3 rfl))) (aG (Sl.one (aI (st113.f7.get 4 rfl))) (aG rfl (aG rfl bK))))))) st113.f7 bP rfl ?_)))))); intro W140 st141
      refine aB (wr (eO bT rfl Tryz.results28 (h111_.at 4) (st141.get 0 rfl) rfl ?_))
      have st145 := fV (x := (⟨bI x.yard h.run h.task h.try_, x.holds.set (bQ x pick).toNat zR, x.turns + 1, x.did⟩ : Crew)) st141.f4.f4.f4 (show Crew.ok _ from ⟨(by assumption), by unfold I64; simp only; omega, by unfold I64; simp only; omega⟩)
      try dsimp only at st145
      have st147 := st145.d1
      have hfe : gL x pick = (⟨bI x.yard h.run h.task h.try_, x.holds.set (bQ x pick).toNat zR, x.turns + 1, x.did⟩ : Crew) := by rw [iW hnb hh]; unfold lQ; rw [if_pos h64p, if_neg h116p]
      rw [hfe]
      exact ⟨_, _, rfl, st147.d1.d1.d1.d1.d1⟩
    ·refine wp_seq (aA (rn st57 6 h62_ [] [(61, .agg #[I x.yard.now, I x.yard.seq, v28_0, v28_1]), (62, I (bQ x pick)), (65, I (x.turns % 1000))] [qb 4 rfl 0, qb 4 rfl 5, qq x.turns 1000] aE fun f154 h154_ => (sg (hX Tryz.func69 rfl (h154_.at 61) (h154_.at 62) (h154_.at 65) ((PollI W56 (show Shape.C _ [I x.yard.now, I x.yard.seq, v28_0, v28_1] x.yard _ from ⟨_, _, _, _, rfl, eS, (h28_0.below st57.below), (h28_1.below st57.below), rfl⟩) (bQ x pick) (x.turns % 1000) aD dX).mono ?_))))); rintro _ W157 ⟨cs155, fp155, rfl, hokf160, hk158⟩; refine ⟨_, rfl, ?_⟩
     have st159 := St.call st57 hk158
     refine rn st159 3 h154_.put [] [(67, .agg cs155.toArray), (68, .agg #[I (aP x.yard (bQ x pick) (x.turns % 1000)).2.code, I (aP x.yard (bQ x pick) (x.turns % 1000)).2.run, I (aP x.yard (bQ x pick) (x.turns % 1000)).2.task, I (aP x.yard (bQ x pick) (x.turns % 1000)).2.try_])] [] aE fun f162 h162_ => (sg (aR fA st159 ?_)); intro b163 W164 hb165 st166
     refine sg (aR iV st166 ?_); intro b168 W169 hb170 st171
     refine sgn (aO (cs := cs155) bM (bO (st171.f1.get 2 rfl) rfl) rfl (h162_.at 67) st171.f1 rfl ?_); intro W174 st175
     refine sgn (aM (cs := [I (aP x.yard (bQ x pick) (x.turns % 1000)).2.code, I (aP x.yard (bQ x pick) (x.turns % 1000)).2.run, I (aP x.yard (bQ x pick) (x.turns % 1000)).2.task, I (aP x.yard (bQ x pick) (x.turns % 1000)).2.try_]) (C' := [I (aP x.yard (bQ x pick) (x.turns % 1000)).2.code, I (aP x.yard (bQ x pick) (x.turns % 1000)).2.run, I (aP x.yard (bQ x pick) (x.turns % 1000)).2.task, I (aP x.yard (bQ x pick) (x.turns % 1000)).2.try_]) aE rfl (h162_.at 68) (aG rfl (aG rfl (aG rfl (aG rfl bK)))) st175.f1 bP rfl ?_); intro W177 st178
     refine aB (wp_seq ?_)
     have hq_ := oB st178.f5
     obtain ⟨v180_0, v180_1, v180_2, g180_0, g180_1, g180_2, he180, hok180, st181⟩ := hq_
     subst he180
     have hq_ := eB st181.f5
     obtain ⟨v186_0, v186_1, g186_0, g186_1, he186, hok186, st187⟩ := hq_
     subst he186
     refine wX 5 [4] (fun q => match q with | 0 => Res.bx b19 [I x.yard.now, I x.yard.seq, v180_0, v180_1, v180_2, I x.turns, I x.did] 37 | _ => Res.bx b19 [I (aP x.yard (bQ x pick) (x.turns % 1000)).1.now, I (aP x.yard (bQ x pick) (x.turns % 1000)).1.seq, v186_0, v186_1, v180_2, I x.turns, I x.did] 37) [Pl.is (.agg #[I (aP x.yard (bQ x pick) (x.turns % 1000)).1.now, I (aP x.yard (bQ x pick) (x.turns % 1000)).1.seq, v186_0, v186_1]), Pl.is (.pointer (some ⟨b168, 0 + 0, none⟩)), Pl.is (I (aP x.yard (bQ x pick) (x.turns % 1000)).2.code), Pl.is (.pointer (some ⟨b19, 0 + 0, none⟩)), Pl.off] mix (by rfl) (by rfl) (by rfl) st187.f8 ⟨fun _ _ _ h => h, fun _ _ _ h => h, fun _ _ _ h => h, fun _ _ _ h => h, fun _ _ _ h => h, trivial⟩ ⟨(fun f W r_ hst hd hf => aV (cs := [I (aP x.yard (bQ x pick) (x.turns % 1000)).1.now, I (aP x.yard (bQ x pick) (x.turns % 1000)).1.seq, v186_0, v186_1]) bM rfl ((hf 9 rfl).trans (show _ = (.pointer (some ⟨b163, 0, none⟩) : Value) from rfl)) (hst.get 7 rfl) rfl rfl ⟨hst, rfl⟩), (fun f W r_ hst hd hf => aH uH ((hf 10 rfl).trans (show _ = (.pointer (some ⟨b168, 0, none⟩) : Value) from rfl)) ⟨hst, rfl⟩), (fun f W r_ hst hd hf => aU eF rfl (hd 1 70 rfl rfl) (hst.get 6 rfl) (i := 0) rfl rfl ⟨hst, rfl⟩), (fun f W r_ hst hd hf => aH kI ((hf 5 rfl).trans (h162_.at 5)) ⟨hst, rfl⟩), (⟨rfl, fun f W hst hd hf => aM (cs := [I (aP x.yard (bQ x pick) (x.turns % 1000)).1.now, I (aP x.yard (bQ x pick) (x.turns % 1000)).1.seq, v186_0, v186_1]) (C' := [I (aP x.yard (bQ x pick) (x.turns % 1000)).1.now, I (aP x.yard (bQ x pick) (x.turns % 1000)).1.seq, v186_0, v186_1, v180_2, I x.turns, I x.did]) aE (hd 3 72 rfl rfl) (hd 0 69 rfl rfl) (aG rfl (aG rfl (aG (Sl.one (aI (hst.get 1 rfl))) (aG (Sl.one (aI (hst.get 2 rfl))) bK)))) hst bP rfl (fun W2 st2 => ⟨st2, rfl⟩)⟩), trivial⟩ ?_
     intro f191 W192 st193 hv195 hf196
     refine sg (aC (v := I (aP x.yard (bQ x pick) (x.turns % 1000)).2.code) (hv195 2 71 aX rfl) (aB (wp_seq (aA (sg (aF (v := I (aP x.yard (bQ x pick) (x.turns % 1000)).2.code) rfl (sg (dI rfl rfl (aB (aK rfl (fun h202p => ?_) (fun h202p => ?_)))))))))))
     ·have h202 := decide_eq_true h202p
      have hq_ := St.lendx (α := Reply) aX st193.f5 (x := h) hh
      obtain ⟨b204, e204, pre204, cs204, post204, fi204, fr204, hPA204, hC204, st205⟩ := hq_
      obtain ⟨he204, hf204, hok204⟩ := hC204; have he204 : _ = [I h.code, I h.run, I h.task, I h.try_] := he204; subst he204
      refine aA (rn st205.d1 5 (Ag.cons (show f191 4 = .pointer (some ⟨b6, 0, none⟩) from ((hf196 4 rfl).trans (h162_.at 4))) (Ag.cons (show f191 5 = .pointer (some ⟨b19, 0, none⟩) from ((hf196 5 rfl).trans (h162_.at 5))) (Ag.cons (show f191 6 = I (bQ x pick) from ((hf196 6 rfl).trans (h162_.at 6))) (Ag.cons (show f191 10 = .pointer (some ⟨b168, 0, none⟩) from ((hf196 10 rfl).trans (show _ = (.pointer (some ⟨b168, 0, none⟩) : Value) from rfl))) Ag.nil)))).put.put.put [] [(78, .agg #[I (aP x.yard (bQ x pick) (x.turns % 1000)).2.code, I (aP x.yard (bQ x pick) (x.turns % 1000)).2.run, I (aP x.yard (bQ x pick) (x.turns % 1000)).2.task, I (aP x.yard (bQ x pick) (x.turns % 1000)).2.try_]), (79, .pointer (some ⟨b204, pre204.length, none⟩))] [qb 2 rfl 4, qb 7 rfl 0, qxe hPA204 (e := bQ x pick) aD] aE fun f211 h211_ => (sgn (fC (i := 0) (cs := [I (aP x.yard (bQ x pick) (x.turns % 1000)).2.code, I (aP x.yard (bQ x pick) (x.turns % 1000)).2.run, I (aP x.yard (bQ x pick) (x.turns % 1000)).2.task, I (aP x.yard (bQ x pick) (x.turns % 1000)).2.try_]) (C' := [I (aP x.yard (bQ x pick) (x.turns % 1000)).2.code, I (aP x.yard (bQ x pick) (x.turns % 1000)).2.run, I (aP x.yard (bQ x pick) (x.turns % 1000)).2.task, I (aP x.yard (bQ x pick) (x.turns % 1000)).2.try_]) aE (h211_.at 79) (h211_.at 78) (aG rfl (aG rfl (aG rfl (aG rfl bK)))) st205.d1 rfl bP rfl ?_))); intro W212 st213
      refine aB (wp_seq ?_)
      have st214 := st213.cs0 (cs := [I (aP x.yard (bQ x pick) (x.turns % 1000)).2.code, I (aP x.yard (bQ x pick) (x.turns % 1000)).2.run, I (aP x.yard (bQ x pick) (x.turns % 1000)).2.task, I (aP x.yard (bQ x pick) (x.turns % 1000)).2.try_]) (x := (aP x.yard (bQ x pick) (x.turns % 1000)).2) ⟨rfl, rfl, (by first | assumption | simp [zR, Reply.ok, I64])⟩
      have hq_ := St.give (α := Reply) st214.f2.f1.f2
      obtain ⟨fp219, st220⟩ := hq_
      refine aA (rn st220 4 h211_ [] [(82, I (x.turns + 1)), (83, .pointer (some ⟨b19, 5, none⟩))] [qb 1 rfl 5, qad x.turns 1] aE fun f222 h222_ => (sgn (aQ (v := I (x.turns + 1)) (C' := [I (aP x.yard (bQ x pick) (x.turns % 1000)).1.now, I (aP x.yard (bQ x pick) (x.turns % 1000)).1.seq, v186_0, v186_1, v180_2, I (x.turns + 1), I x.did]) aE (h222_.at 83) (h222_.at 82) rfl rfl st220.f1 bP rfl ?_))); intro W224 st225
      refine aB (wp_seq (wp_seq (aA (sg (aF (v := I (aP x.yard (bQ x pick) (x.turns % 1000)).2.code) (h222_.at 8) (sg (dI rfl rfl (aB (fH rfl h202 (aA (rn st225 4 h222_.put.put [] [(88, I (x.did + 1)), (89, .pointer (some ⟨b19, 6, none⟩))] [qb 0 rfl 6, qad x.did 1] aE fun f229 h229_ => (sgn (aQ (v := I (x.did + 1)) (C' := [I (aP x.yard (bQ x pick) (x.turns % 1000)).1.now, I (aP x.yard (bQ x pick) (x.turns % 1000)).1.seq, v186_0, v186_1, v180_2, I (x.turns + 1), I (x.did + 1)]) aE (h229_.at 89) (h229_.at 88) rfl rfl st225 bP rfl ?_))))))))))))); intro W230 st231
      refine aB (wp_seq (aA (sg (aV (cs := [I (aP x.yard (bQ x pick) (x.turns % 1000)).1.now, I (aP x.yard (bQ x pick) (x.turns % 1000)).1.seq, v186_0, v186_1, v180_2, I (x.turns + 1), I (x.did + 1)]) bT rfl (h229_.at 5) (st231.get 0 rfl) rfl rfl (sgn (aM (cs := [I (aP x.yard (bQ x pick) (x.turns % 1000)).1.now, I (aP x.yard (bQ x pick) (x.turns % 1000)).1.seq, v186_0, v186_1, v180_2, I (x.turns + 1), I (x.did + 1)]) (C' := [I (aP x.yard (bQ x pick) (x.turns % 1000)).1.now, I (aP x.yard (bQ x pick) (x.turns % 1000)).1.seq, v186_0, v186_1, v180_2, I (x.turns + 1), I (x.did + 1)]) aE (h229_.at 4) rfl (aG rfl (aG rfl (aG (Sl.one (aI (st231.f9.get 3 rfl))) (aG (Sl.one (aI (st231.f9.get 4 rfl))) (aG (Sl.one (aI (st231.f9.get 2 rfl))) (aG rfl (aG rfl bK))))))) st231.f9 bP rfl ?_)))))); intro W235 st236
      refine aB (wr (eO bT rfl Tryz.results28 (h229_.at 4) (st236.get 0 rfl) rfl ?_))
      have st240 := fV (x := (⟨(aP x.yard (bQ x pick) (x.turns % 1000)).1, x.holds.set (bQ x pick).toNat (aP x.yard (bQ x pick) (x.turns % 1000)).2, x.turns + 1, x.did + 1⟩ : Crew)) st236.f2.f4.f4 (show Crew.ok _ from ⟨(by assumption), by unfold I64; simp only; omega, by unfold I64; simp only; omega⟩)
      try dsimp only at st240
      have st242 := st240.d1
      have hfe : gL x pick = (⟨(aP x.yard (bQ x pick) (x.turns % 1000)).1, x.holds.set (bQ x pick).toNat (aP x.yard (bQ x pick) (x.turns % 1000)).2, x.turns + 1, x.did + 1⟩ : Crew) := by rw [iW hnb hh]; unfold lQ; rw [if_neg h64p, if_pos h202p, if_pos h202p]
      rw [hfe]
      exact ⟨_, _, rfl, st242.d1.d1.d1.d1.d1.d1.d1⟩
     ·have h202 := decide_eq_false h202p
      refine wp_skip (wp_seq (aA (rn st193 4 (Ag.cons (show f191 4 = .pointer (some ⟨b6, 0, none⟩) from ((hf196 4 rfl).trans (h162_.at 4))) (Ag.cons (show f191 5 = .pointer (some ⟨b19, 0, none⟩) from ((hf196 5 rfl).trans (h162_.at 5))) (Ag.cons (show f191 6 = I (bQ x pick) from ((hf196 6 rfl).trans (h162_.at 6))) (Ag.cons (show f191 10 = .pointer (some ⟨b168, 0, none⟩) from ((hf196 10 rfl).trans (show _ = (.pointer (some ⟨b168, 0, none⟩) : Value) from rfl))) Ag.nil)))).put.put.put [] [(82, I (x.turns + 1)), (83, .pointer (some ⟨b19, 5, none⟩))] [qb 0 rfl 5, qad x.turns 1] aE fun f251 h251_ => (sgn (aQ (v := I (x.turns + 1)) (C' := [I (aP x.yard (bQ x pick) (x.turns % 1000)).1.now, I (aP x.yard (bQ x pick) (x.turns % 1000)).1.seq, v186_0, v186_1, v180_2, I (x.turns + 1), I x.did]) aE (h251_.at 83) (h251_.at 82) rfl rfl st193 bP rfl ?_))))); intro W252 st253
      refine aB (wp_seq (wp_seq (aA (sg (aF (v := I (aP x.yard (bQ x pick) (x.turns % 1000)).2.code) (h251_.at 8) (sg (dI rfl rfl (aB (gK rfl h202 (wp_skip (wp_seq (aA (sg (aV (cs := [I (aP x.yard (bQ x pick) (x.turns % 1000)).1.now, I (aP x.yard (bQ x pick) (x.turns % 1000)).1.seq, v186_0, v186_1, v180_2, I (x.turns + 1), I x.did]) bT rfl (h251_.at 5) (st253.get 0 rfl) rfl rfl ?_))))))))))))))
      refine sgn (aM (cs := [I (aP x.yard (bQ x pick) (x.turns % 1000)).1.now, I (aP x.yard (bQ x pick) (x.turns % 1000)).1.seq, v186_0, v186_1, v180_2, I (x.turns + 1), I x.did]) (C' := [I (aP x.yard (bQ x pick) (x.turns % 1000)).1.now, I (aP x.yard (bQ x pick) (x.turns % 1000)).1.seq, v186_0, v186_1, v180_2, I (x.turns + 1), I x.did]) aE (h251_.at 4) rfl (aG rfl (aG rfl (aG (Sl.one (aI (st253.f9.get 2 rfl))) (aG (Sl.one (aI (st253.f9.get 3 rfl))) (aG (Sl.one (aI (st253.f9.get 6 rfl))) (aG rfl (aG rfl bK))))))) st253.f9 bP rfl ?_); intro W259 st260
      refine aB (wr (eO bT rfl Tryz.results28 (h251_.at 4) (st260.get 0 rfl) rfl ?_))
      have st264 := fV (x := (⟨(aP x.yard (bQ x pick) (x.turns % 1000)).1, x.holds, x.turns + 1, x.did⟩ : Crew)) st260.f6.f4.f4 (show Crew.ok _ from ⟨(by assumption), by unfold I64; simp only; omega, by unfold I64; simp only; omega⟩)
      try dsimp only at st264
      have st266 := st264.d1
      have hfe : gL x pick = (⟨(aP x.yard (bQ x pick) (x.turns % 1000)).1, x.holds, x.turns + 1, x.did⟩ : Crew) := by rw [iW hnb hh]; unfold lQ; rw [if_neg h64p, if_neg h202p, if_neg h202p]
      rw [hfe]
      exact ⟨_, _, rfl, st266.d1.d1.d1.d1.d1.d1.d1⟩
  ·have h29 := decide_eq_true h29p
   refine rc st25 13 Ag.nil.put.put.put.put.put.put.put [] [(25, .bool true)] [qb 3 rfl 0, qc Tryz.func13 rfl (fun W s b => xJ W (bA hc s.below) aD), qk h27, qb 3 rfl 5, qk h29] aE fun f274 W275 h274_ st276 hb277 => (aB (fH (h274_.at 25) rfl (wp_seq (aA (sg (bB bT rfl (h274_.at 5) (st276.get 0 rfl) (Shape.len (bO (st276.get 1 rfl) rfl)) (sgn (aO (cs := cs13) bT (bO (st276.f2.get 2 rfl) rfl) (h274_.at 4) rfl st276.f2 rfl ?_)))))))); intro W281 st282
   refine aB (wr (eO bT rfl Tryz.results28 (h274_.at 4) (st282.get 0 rfl) (Shape.len (bO (st282.get 2 rfl) rfl)) ?_))
   have hfe : gL x pick = x := jD (.inr (.inl h29p)) pick
   rw [hfe]
   exact ⟨_, _, rfl, st282.f2.d1.d1.d1⟩
 ·refine rc st25 13 Ag.nil.put.put.put.put.put.put.put [] [(25, .bool true)] [qw 3 rfl (Shape.len hc), qc Tryz.func13 rfl (fun W s b => xJ W (bA hc s.below) aD), qk h27] aE fun f287 W288 h287_ st289 hb290 => (aB (fH (h287_.at 25) rfl (wp_seq (aA (sg (bB bT rfl (h287_.at 5) (st289.get 0 rfl) (Shape.len (bO (st289.get 1 rfl) rfl)) (sgn (aO (cs := cs13) bT (bO (st289.f2.get 2 rfl) rfl) (h287_.at 4) rfl st289.f2 rfl ?_)))))))); intro W294 st295
  refine aB (wr (eO bT rfl Tryz.results28 (h287_.at 4) (st295.get 0 rfl) (Shape.len (bO (st295.get 2 rfl) rfl)) ?_))
  have hfe : gL x pick = x := jD (.inl (aW h27)) pick
  rw [hfe]
  exact ⟨_, _, rfl, st295.f2.d1.d1.d1⟩
theorem TurnS_ (w : World) {x : Crew} {cs : List Value} {fp : List Nat} (hc : Shape.C w cs x fp) (pick : Int) (hpk : I64 pick) (hw : x.yard.wt + x.holds.length ≤ 1048576) :
  Calls Tryz.prog 27 #[.agg cs.toArray, I pick] w fun e w' => ∃ (cs' : List Value) (fp' : List Nat), e = .returned (.agg cs'.toArray) ∧ St w w' [Res.own (.agg cs'.toArray) (gL x pick) fp'] := by
 have hpk2 := hpk
 unfold I64 at hpk2
 have hxw : x.wt ≤ 1048576 := hw
 have hw2 : x.yard.wt ≤ 1048576 := by omega
 refine bR Tryz.func27 rfl Tryz.ntmps27 aX (wp_seq (aA (sg (aJ (cs := cs) rfl (St.start w) ?_)))); intro b1 W2 hb3 st4
 refine sg (aR gD st4 ?_); intro b6 W7 hb8 st9
 refine aB (wp_seq (aA (sg (bB bT rfl rfl (st9.get 1 rfl) (Shape.len hc) (sg (bF Tryz.func64 rfl rfl ((wQ W7 (bA hc st9.below) aD).mono ?_))))))); rintro _ W15 ⟨cs13, fp13, rfl, hk16⟩; refine ⟨_, rfl, ?_⟩
 have st17 := St.call st9 hk16
 refine sg (aR gD st17 ?_); intro b19 W20 hb21 st22
 refine sgn (aO (cs := cs13) bT (bO (st22.get 1 rfl) rfl) rfl rfl st22 rfl ?_); intro W24 st25
 refine aB (wp_seq (wp_seq (aA ?_)))
 rcases bd (!(fS x)) with h27 | h27
 ·have hk28 := hc
  obtain ⟨v28_0, v28_1, v28_2, g28_0, g28_1, g28_2, rfl, hok28, h28_0, h28_1, h28_2, rfl⟩ := hk28
  rcases nem (x.turns = 1000000000) with h29p | h29p
  ·have h29 := decide_eq_false h29p
   refine rc st25 13 Ag.nil.put.put.put.put.put.put.put [] [(24, .bool (decide (x.did = 1000000000)))] [qb 3 rfl 0, qc Tryz.func11 rfl (fun W s b => xI W (bA hc s.below) aD), qk h27, qb 3 rfl 5, qk h29, qb 3 rfl 6, .o] aE fun f30 W31 h30_ st32 hb33 => (aB (aK (h30_.at 24) (fun h34p => ?_) (fun h34p => ?_)))
   ·refine wp_seq (aA (sg (bB bT rfl (h30_.at 5) (st32.get 0 rfl) (Shape.len (bO (st32.get 1 rfl) rfl)) (sgn (aO (cs := cs13) bT (bO (st32.f2.get 2 rfl) rfl) (h30_.at 4) rfl st32.f2 rfl ?_))))); intro W38 st39
    refine aB (wr (eO bT rfl Tryz.results27 (h30_.at 4) (st39.get 0 rfl) (Shape.len (bO (st39.get 2 rfl) rfl)) ?_))
    have hfe : gL x pick = x := jD (.inr (.inr h34p)) pick
    rw [hfe]
    exact ⟨_, _, rfl, st39.f2.d1.d1.d1⟩
   ·refine wp_skip (wp_seq (wp_seq (aA (sg (aF (v := I pick) (h30_.at 1) (sg (bS rfl rfl (aB (sx_joinc (fun (f : Nat → Value) (W : World) => Ag [(1, I (max pick 0)), (2, .pointer (some ⟨b1, 0, none⟩)), (4, .pointer (some ⟨b6, 0, none⟩)), (5, .pointer (some ⟨b19, 0, none⟩))] f ∧ St w W ([Res.bx b19 cs13 37, Res.own (α := Crew) (.agg cs13.toArray) x fp13, Res.bx b6 [I 0, I 0, .slice none 0 0, .slice none 0 0, .slice none 0 0, I 0, I 0] 37, Res.bx b1 [I x.yard.now, I x.yard.seq, v28_0, v28_1, v28_2, I x.turns, I x.did] 37])) ?_ (fun f46 W47 hJ48 => ?_))))))))))
    ·refine aK rfl (fun h51p => ?_) (fun h51p => ?_)
     ·refine aA (sg (aC (v := I 0) rfl (aB ?_)))
      exact ⟨_, rfl, (Ag.cons (Eq.trans (show _ = I 0 from rfl) (congrArg I aD)) (Ag.cons (h30_.at 2) (Ag.cons (h30_.at 4) (Ag.cons (h30_.at 5) Ag.nil)))), st32⟩
     ·refine wp_skip ?_
      exact ⟨_, rfl, (Ag.cons (Eq.trans (show _ = I pick from (h30_.at 1)) (congrArg I aD)) (Ag.cons (h30_.at 2) (Ag.cons (h30_.at 4) (Ag.cons (h30_.at 5) Ag.nil)))), st32⟩
    obtain ⟨hA50, st49⟩ := hJ48
    refine wp_seq ?_
    have hcr := zB (bG h27)
    obtain ⟨hyo, hhl, htn, hdd, hho⟩ := hcr
    have hnb : ¬ kY x := by unfold kY; rintro (h | h | h); rw [(bG h27)] at h; cases h; exact absurd h h29p; exact absurd h h34p
    have hwr : 0 ≤ (bQ x pick) ∧ (bQ x pick) < (x.holds.length : Int) := by unfold bQ; exact ⟨Int.emod_nonneg _ aD, Int.emod_lt_of_pos _ aD⟩
    have hq_ := eH (xs := x.holds) (i := (bQ x pick).toNat) aD
    obtain ⟨h, hh⟩ := hq_
    have hhr := hho h (List.mem_of_getElem? hh)
    unfold jW at hhr
    refine aA (rn st49 6 hA50 [] [(6, I ((max pick 0) % (x.holds.length : Int)))] [qb 3 rfl 4, ql h28_2, qq (max pick 0) (x.holds.length : Int)] aE fun f55 h55_ => (aB (wp_seq (aA ?_))))
    have hq_ := oB st49.f1
    obtain ⟨v58_0, v58_1, v58_2, g58_0, g58_1, g58_2, he58, hok58, st59⟩ := hq_
    subst he58
    have hic53e7 : (bQ x pick).toNat < x.holds.length := (List.getElem?_eq_some_iff.1 hh).1
    have hq_ := gT (aI (st59.get 2 rfl)) (i := (bQ x pick).toNat) hh
    obtain ⟨b63, o63, cs63, f63, hp63, hr63, hc63, hm63⟩ := hq_
    refine rn st59 5 h55_ [] [(37, .agg cs63.toArray)] [qb 3 rfl 4, qxe hp63 (e := bQ x pick) aD, qtw hr63 (Below.refl _ _) (Shape.len hc63)] aE fun f64 h64_ => (sg (aR iV st59 ?_)); intro b65 W66 hb67 st68
    refine sgn (aO (cs := cs63) fZ hc63 rfl (h64_.at 37) st68 rfl ?_); intro W70 st71
    refine aB (wp_seq (aA (sg (aC (v := I 0) rfl (aB (wp_seq (wp_seq (aA ?_))))))))
    have hk75 := hc63
    obtain ⟨he75, rfl, hok75⟩ := hk75
    have he75 : _ = [I h.code, I h.run, I h.task, I h.try_] := he75
    subst he75
    refine rn st71 3 h64_.put.put [] [(40, .bool (decide (0 < h.try_)))] [qb 0 rfl 3, .o] aE fun f76 h76_ => (aB (aK (h76_.at 40) (fun h77p => ?_) (fun h77p => ?_)))
    ·refine wp_seq (aA (rn st71 8 h76_ [] [(43, .agg #[I x.yard.now, I x.yard.seq, v58_0, v58_1]), (45, I h.run), (47, I h.task), (49, I h.try_)] [qb 4 rfl 0, qb 0 rfl 1, qb 0 rfl 2, qb 0 rfl 3] aE fun f79 h79_ => (sg (vK Tryz.func65 rfl (h79_.at 43) (h79_.at 45) (h79_.at 47) (h79_.at 49) ((CompleteS W70 (show Shape.C _ [I x.yard.now, I x.yard.seq, v58_0, v58_1] x.yard _ from ⟨_, _, _, _, rfl, eS, (aI (st71.get 1 rfl)), (aI (st71.get 2 rfl)), rfl⟩) h.run h.task h.try_ aD).mono ?_))))); rintro _ W82 ⟨cs80, fp80, rfl, hk83⟩; refine ⟨_, rfl, ?_⟩
     have st84 := St.call st71 hk83
     refine rn st84 4 h79_.put [] [(51, .agg cs80.toArray), (52, I (gU x.yard h.run h.task h.try_)), (53, .pointer (some ⟨b19, 0, none⟩))] [] aE fun f87 h87_ => ?_
     have hq_ := eB st84
     obtain ⟨v88_0, v88_1, g88_0, g88_1, he88, hok88, st89⟩ := hq_
     subst he88
     refine sgn (aM (cs := [I (bI x.yard h.run h.task h.try_).now, I (bI x.yard h.run h.task h.try_).seq, v88_0, v88_1]) (C' := [I (bI x.yard h.run h.task h.try_).now, I (bI x.yard h.run h.task h.try_).seq, v88_0, v88_1, v58_2, I x.turns, I x.did]) aE (h87_.at 53) (h87_.at 51) (aG rfl (aG rfl (aG (Sl.one (aI (st89.f6.get 1 rfl))) (aG (Sl.one (aI (st89.f6.get 2 rfl))) bK)))) st89.f6 bP rfl ?_); intro W93 st94
     refine sg (aC (v := I (gU x.yard h.run h.task h.try_)) (h87_.at 52) (aB ?_))
     have hq_ := St.lendx (α := Reply) aX st94.f6 (x := h) hh
     obtain ⟨b98, e98, pre98, cs98, post98, fi98, fr98, hPA98, hC98, st99⟩ := hq_
     obtain ⟨he98, hf98, hok98⟩ := hC98; have he98 : _ = [I h.code, I h.run, I h.task, I h.try_] := he98; subst he98
     refine aA (rn st99.d1 3 h87_.put [] [(55, v58_2), (56, I (bQ x pick))] [qb 2 rfl 4] aE fun f105 h105_ => (sg (eJ (vs := []) (cs := [I 0, I 0, I 0, I 0]) eA aE (sg (aN lT (h105_.at 55) hPA98 (h105_.at 56) aD (sgn (fC (i := 0) (cs := [I 0, I 0, I 0, I 0]) (C' := [I 0, I 0, I 0, I 0]) aE rfl rfl (aG rfl (aG rfl (aG rfl (aG rfl bK)))) st99.d1 rfl bP rfl ?_))))))); intro W108 st109
     refine aB (wp_seq ?_)
     have st110 := st109.cs0 (cs := [I 0, I 0, I 0, I 0]) (x := zR) ⟨rfl, rfl, (by first | assumption | simp [zR, Reply.ok, I64])⟩
     have hq_ := St.give (α := Reply) st110.f2.f1.f2
     obtain ⟨fp115, st116⟩ := hq_
     refine aA (lw h105_.put.put [(4, .pointer (some ⟨b6, 0, none⟩)), (5, .pointer (some ⟨b19, 0, none⟩)), (8, I (gU x.yard h.run h.task h.try_))] aE fun h119_ => (rn st116 4 h119_ [] [(82, I (x.turns + 1)), (83, .pointer (some ⟨b19, 5, none⟩))] [qb 1 rfl 5, qad x.turns 1] aE fun f118 h118_ => (sgn (aQ (v := I (x.turns + 1)) (C' := [I (bI x.yard h.run h.task h.try_).now, I (bI x.yard h.run h.task h.try_).seq, v88_0, v88_1, v58_2, I (x.turns + 1), I x.did]) aE (h118_.at 83) (h118_.at 82) rfl rfl st116.f1 bP rfl ?_)))); intro W121 st122
     refine aB (wp_seq (wp_seq (aA (sg (aF (v := I (gU x.yard h.run h.task h.try_)) (h118_.at 8) (sg (dI rfl rfl (aB (aK rfl (fun h125p => ?_) (fun h125p => ?_))))))))))
     ·refine aA (rn st122 4 h118_.put.put [] [(88, I (x.did + 1)), (89, .pointer (some ⟨b19, 6, none⟩))] [qb 0 rfl 6, qad x.did 1] aE fun f127 h127_ => (sgn (aQ (v := I (x.did + 1)) (C' := [I (bI x.yard h.run h.task h.try_).now, I (bI x.yard h.run h.task h.try_).seq, v88_0, v88_1, v58_2, I (x.turns + 1), I (x.did + 1)]) aE (h127_.at 89) (h127_.at 88) rfl rfl st122 bP rfl ?_))); intro W128 st129
      refine aB (wp_seq (aA (sg (aV (cs := [I (bI x.yard h.run h.task h.try_).now, I (bI x.yard h.run h.task h.try_).seq, v88_0, v88_1, v58_2, I (x.turns + 1), I (x.did + 1)]) bT rfl (h127_.at 5) (st129.get 0 rfl) rfl rfl (sgn (aM (cs := [I (bI x.yard h.run h.task h.try_).now, I (bI x.yard h.run h.task h.try_).seq, v88_0, v88_1, v58_2, I (x.turns + 1), I (x.did + 1)]) (C' := [I (bI x.yard h.run h.task h.try_).now, I (bI x.yard h.run h.task h.try_).seq, v88_0, v88_1, v58_2, I (x.turns + 1), I (x.did + 1)]) aE (h127_.at 4) rfl (aG rfl (aG rfl (aG (Sl.one (aI (st129.f7.get 3 rfl))) (aG (Sl.one (aI (st129.f7.get 4 rfl))) (aG (Sl.one (aI (st129.f7.get 2 rfl))) (aG rfl (aG rfl bK))))))) st129.f7 bP rfl ?_)))))); intro W133 st134
      refine aB (wr (eO bT rfl Tryz.results27 (h127_.at 4) (st134.get 0 rfl) rfl ?_))
      have st138 := fV (x := (⟨bI x.yard h.run h.task h.try_, x.holds.set (bQ x pick).toNat zR, x.turns + 1, x.did + 1⟩ : Crew)) st134.f2.f4.f4 (show Crew.ok _ from ⟨(by assumption), by unfold I64; simp only; omega, by unfold I64; simp only; omega⟩)
      try dsimp only at st138
      have st140 := st138.d1
      have hfe : gL x pick = (⟨bI x.yard h.run h.task h.try_, x.holds.set (bQ x pick).toNat zR, x.turns + 1, x.did + 1⟩ : Crew) := by rw [iW hnb hh]; unfold lQ; rw [if_pos h77p, if_pos h125p]
      rw [hfe]
      exact ⟨_, _, rfl, st140.d1.d1.d1.d1.d1⟩
     ·refine wp_skip (wp_seq (aA (sg (aV (cs := [I (bI x.yard h.run h.task h.try_).now, I (bI x.yard h.run h.task h.try_).seq, v88_0, v88_1, v58_2, I (x.turns + 1), I x.did]) bT rfl (h118_.at 5) (st122.get 0 rfl) rfl rfl (sgn (aM (cs := [I (bI x.yard h.run h.task h.try_).now, I (bI x.yard h.run h.task h.try_).seq, v88_0, v88_1, v58_2, I (x.turns + 1), I x.did]) (C' := [I (bI x.yard h.run h.task h.try_).now, I (bI x.yard h.run h.task h.try_).seq, v88_0, v88_1, v58_2, I (x.turns + 1), I x.did]) aE (h118_.at 4) rfl (aG rfl (aG rfl (aG (Sl.one (aI (st122.f7.get 3 rfl))) (aG (Sl.one (aI (st122.f7.get 4 rfl))) (aG (Sl.one (aI (st122.f7.get 2 rfl))) (aG rfl (aG rfl bK))))))) st122.f7 bP rfl ?_)))))); intro W149 st150
      refine aB (wr (eO bT rfl Tryz.results27 (h118_.at 4) (st150.get 0 rfl) rfl ?_))
      have st154 := fV (x := (⟨bI x.yard h.run h.task h.try_, x.holds.set (bQ x pick).toNat zR, x.turns + 1, x.did⟩ : Crew)) st150.f2.f4.f4 (show Crew.ok _ from ⟨(by assumption), by unfold I64; simp only; omega, by unfold I64; simp only; omega⟩)
      try dsimp only at st154
      have st156 := st154.d1
      have hfe : gL x pick = (⟨bI x.yard h.run h.task h.try_, x.holds.set (bQ x pick).toNat zR, x.turns + 1, x.did⟩ : Crew) := by rw [iW hnb hh]; unfold lQ; rw [if_pos h77p, if_neg h125p]
      rw [hfe]
      exact ⟨_, _, rfl, st156.d1.d1.d1.d1.d1⟩
    ·refine wp_seq (aA (sg (eJ (vs := []) (cs := [I 0, I 0, I 0, I 0]) eA aE (sg (aR iV st71 ?_))))); intro b162 W163 hb164 st165
     refine sgn (aM (cs := [I 0, I 0, I 0, I 0]) (C' := [I 0, I 0, I 0, I 0]) aE rfl rfl (aG rfl (aG rfl (aG rfl (aG rfl bK)))) st165 bP rfl ?_); intro W167 st168
     refine aB (wp_seq (aA (rn st168 6 h76_.put.put [] [(62, .agg #[I x.yard.now, I x.yard.seq, v58_0, v58_1]), (63, I (bQ x pick)), (66, I (x.turns % 1000))] [qb 5 rfl 0, qb 7 rfl 5, qq x.turns 1000] aE fun f170 h170_ => (sg (hX Tryz.func66 rfl (h170_.at 62) (h170_.at 63) (h170_.at 66) ((PollS W167 (show Shape.C _ [I x.yard.now, I x.yard.seq, v58_0, v58_1] x.yard _ from ⟨_, _, _, _, rfl, eS, (aI (st168.get 2 rfl)), (aI (st168.get 3 rfl)), rfl⟩) (bQ x pick) (x.turns % 1000) aD dX).mono ?_)))))); rintro _ W173 ⟨cs171, fp171, rfl, hokf176, hk174⟩; refine ⟨_, rfl, ?_⟩
     have st175 := St.call st168 hk174
     refine rn st175 4 h170_.put [] [(68, .agg cs171.toArray), (69, .agg #[I (aP x.yard (bQ x pick) (x.turns % 1000)).2.code, I (aP x.yard (bQ x pick) (x.turns % 1000)).2.run, I (aP x.yard (bQ x pick) (x.turns % 1000)).2.task, I (aP x.yard (bQ x pick) (x.turns % 1000)).2.try_]), (70, .pointer (some ⟨b19, 0, none⟩))] [] aE fun f178 h178_ => ?_
     have hq_ := eB st175
     obtain ⟨v179_0, v179_1, g179_0, g179_1, he179, hok179, st180⟩ := hq_
     subst he179
     refine sgn (aM (cs := [I (aP x.yard (bQ x pick) (x.turns % 1000)).1.now, I (aP x.yard (bQ x pick) (x.turns % 1000)).1.seq, v179_0, v179_1]) (C' := [I (aP x.yard (bQ x pick) (x.turns % 1000)).1.now, I (aP x.yard (bQ x pick) (x.turns % 1000)).1.seq, v179_0, v179_1, v58_2, I x.turns, I x.did]) aE (h178_.at 70) (h178_.at 68) (aG rfl (aG rfl (aG (Sl.one (aI (st180.f7.get 1 rfl))) (aG (Sl.one (aI (st180.f7.get 2 rfl))) bK)))) st180.f7 bP rfl ?_); intro W184 st185
     refine sgn (aM (cs := [I (aP x.yard (bQ x pick) (x.turns % 1000)).2.code, I (aP x.yard (bQ x pick) (x.turns % 1000)).2.run, I (aP x.yard (bQ x pick) (x.turns % 1000)).2.task, I (aP x.yard (bQ x pick) (x.turns % 1000)).2.try_]) (C' := [I (aP x.yard (bQ x pick) (x.turns % 1000)).2.code, I (aP x.yard (bQ x pick) (x.turns % 1000)).2.run, I (aP x.yard (bQ x pick) (x.turns % 1000)).2.task, I (aP x.yard (bQ x pick) (x.turns % 1000)).2.try_]) aE (h178_.at 9) (h178_.at 69) (aG rfl (aG rfl (aG rfl (aG rfl bK)))) st185.f3 bP rfl ?_); intro W187 st188
     refine aB (wp_seq (aA (rn st188 3 h178_ [8] [(8, I (aP x.yard (bQ x pick) (x.turns % 1000)).2.code)] [qb 0 rfl 0] aE fun f190 h190_ => (aB (wp_seq (aA (sg (aF (v := I (aP x.yard (bQ x pick) (x.turns % 1000)).2.code) (h190_.at 8) (sg (dI rfl rfl (aB (aK rfl (fun h193p => ?_) (fun h193p => ?_)))))))))))))
     ·have h193 := decide_eq_true h193p
      have hq_ := St.lendx (α := Reply) aX st188.f7 (x := h) hh
      obtain ⟨b195, e195, pre195, cs195, post195, fi195, fr195, hPA195, hC195, st196⟩ := hq_
      obtain ⟨he195, hf195, hok195⟩ := hC195; have he195 : _ = [I h.code, I h.run, I h.task, I h.try_] := he195; subst he195
      refine aA (lw h190_.put.put [(4, .pointer (some ⟨b6, 0, none⟩)), (5, .pointer (some ⟨b19, 0, none⟩)), (6, I (bQ x pick)), (8, I (aP x.yard (bQ x pick) (x.turns % 1000)).2.code), (9, .pointer (some ⟨b162, 0, none⟩))] aE fun h203_ => (rn st196.d1 5 h203_ [] [(78, .agg #[I (aP x.yard (bQ x pick) (x.turns % 1000)).2.code, I (aP x.yard (bQ x pick) (x.turns % 1000)).2.run, I (aP x.yard (bQ x pick) (x.turns % 1000)).2.task, I (aP x.yard (bQ x pick) (x.turns % 1000)).2.try_]), (79, .pointer (some ⟨b195, pre195.length, none⟩))] [qb 3 rfl 4, qb 2 rfl 0, qxe hPA195 (e := bQ x pick) aD] aE fun f202 h202_ => (sgn (fC (i := 0) (cs := [I (aP x.yard (bQ x pick) (x.turns % 1000)).2.code, I (aP x.yard (bQ x pick) (x.turns % 1000)).2.run, I (aP x.yard (bQ x pick) (x.turns % 1000)).2.task, I (aP x.yard (bQ x pick) (x.turns % 1000)).2.try_]) (C' := [I (aP x.yard (bQ x pick) (x.turns % 1000)).2.code, I (aP x.yard (bQ x pick) (x.turns % 1000)).2.run, I (aP x.yard (bQ x pick) (x.turns % 1000)).2.task, I (aP x.yard (bQ x pick) (x.turns % 1000)).2.try_]) aE (h202_.at 79) (h202_.at 78) (aG rfl (aG rfl (aG rfl (aG rfl bK)))) st196.d1 rfl bP rfl ?_)))); intro W204 st205
      refine aB (wp_seq ?_)
      have st206 := st205.cs0 (cs := [I (aP x.yard (bQ x pick) (x.turns % 1000)).2.code, I (aP x.yard (bQ x pick) (x.turns % 1000)).2.run, I (aP x.yard (bQ x pick) (x.turns % 1000)).2.task, I (aP x.yard (bQ x pick) (x.turns % 1000)).2.try_]) (x := (aP x.yard (bQ x pick) (x.turns % 1000)).2) ⟨rfl, rfl, (by first | assumption | simp [zR, Reply.ok, I64])⟩
      have hq_ := St.give (α := Reply) st206.f2.f1.f2
      obtain ⟨fp211, st212⟩ := hq_
      refine aA (rn st212 4 h202_ [] [(82, I (x.turns + 1)), (83, .pointer (some ⟨b19, 5, none⟩))] [qb 2 rfl 5, qad x.turns 1] aE fun f214 h214_ => (sgn (aQ (v := I (x.turns + 1)) (C' := [I (aP x.yard (bQ x pick) (x.turns % 1000)).1.now, I (aP x.yard (bQ x pick) (x.turns % 1000)).1.seq, v179_0, v179_1, v58_2, I (x.turns + 1), I x.did]) aE (h214_.at 83) (h214_.at 82) rfl rfl st212.f2 bP rfl ?_))); intro W216 st217
      refine aB (wp_seq (wp_seq (aA (sg (aF (v := I (aP x.yard (bQ x pick) (x.turns % 1000)).2.code) (h214_.at 8) (sg (dI rfl rfl (aB (fH rfl h193 (aA (rn st217 4 h214_.put.put [] [(88, I (x.did + 1)), (89, .pointer (some ⟨b19, 6, none⟩))] [qb 0 rfl 6, qad x.did 1] aE fun f221 h221_ => (sgn (aQ (v := I (x.did + 1)) (C' := [I (aP x.yard (bQ x pick) (x.turns % 1000)).1.now, I (aP x.yard (bQ x pick) (x.turns % 1000)).1.seq, v179_0, v179_1, v58_2, I (x.turns + 1), I (x.did + 1)]) aE (h221_.at 89) (h221_.at 88) rfl rfl st217 bP rfl ?_))))))))))))); intro W222 st223
      refine aB (wp_seq (aA (sg (aV (cs := [I (aP x.yard (bQ x pick) (x.turns % 1000)).1.now, I (aP x.yard (bQ x pick) (x.turns % 1000)).1.seq, v179_0, v179_1, v58_2, I (x.turns + 1), I (x.did + 1)]) bT rfl (h221_.at 5) (st223.get 0 rfl) rfl rfl (sgn (aM (cs := [I (aP x.yard (bQ x pick) (x.turns % 1000)).1.now, I (aP x.yard (bQ x pick) (x.turns % 1000)).1.seq, v179_0, v179_1, v58_2, I (x.turns + 1), I (x.did + 1)]) (C' := [I (aP x.yard (bQ x pick) (x.turns % 1000)).1.now, I (aP x.yard (bQ x pick) (x.turns % 1000)).1.seq, v179_0, v179_1, v58_2, I (x.turns + 1), I (x.did + 1)]) aE (h221_.at 4) rfl (aG rfl (aG rfl (aG (Sl.one (aI (st223.f8.get 4 rfl))) (aG (Sl.one (aI (st223.f8.get 5 rfl))) (aG (Sl.one (aI (st223.f8.get 2 rfl))) (aG rfl (aG rfl bK))))))) st223.f8 bP rfl ?_)))))); intro W227 st228
      refine aB (wr (eO bT rfl Tryz.results27 (h221_.at 4) (st228.get 0 rfl) rfl ?_))
      have st232 := fV (x := (⟨(aP x.yard (bQ x pick) (x.turns % 1000)).1, x.holds.set (bQ x pick).toNat (aP x.yard (bQ x pick) (x.turns % 1000)).2, x.turns + 1, x.did + 1⟩ : Crew)) st228.f2.f5.f5 (show Crew.ok _ from ⟨(by assumption), by unfold I64; simp only; omega, by unfold I64; simp only; omega⟩)
      try dsimp only at st232
      have st234 := st232.d1
      have hfe : gL x pick = (⟨(aP x.yard (bQ x pick) (x.turns % 1000)).1, x.holds.set (bQ x pick).toNat (aP x.yard (bQ x pick) (x.turns % 1000)).2, x.turns + 1, x.did + 1⟩ : Crew) := by rw [iW hnb hh]; unfold lQ; rw [if_neg h77p, if_pos h193p, if_pos h193p]
      rw [hfe]
      exact ⟨_, _, rfl, st234.d1.d1.d1.d1.d1.d1⟩
     ·have h193 := decide_eq_false h193p
      refine wp_skip (wp_seq (aA (lw h190_.put.put [(4, .pointer (some ⟨b6, 0, none⟩)), (5, .pointer (some ⟨b19, 0, none⟩)), (8, I (aP x.yard (bQ x pick) (x.turns % 1000)).2.code)] aE fun h243_ => (rn st188 4 h243_ [] [(82, I (x.turns + 1)), (83, .pointer (some ⟨b19, 5, none⟩))] [qb 1 rfl 5, qad x.turns 1] aE fun f242 h242_ => (sgn (aQ (v := I (x.turns + 1)) (C' := [I (aP x.yard (bQ x pick) (x.turns % 1000)).1.now, I (aP x.yard (bQ x pick) (x.turns % 1000)).1.seq, v179_0, v179_1, v58_2, I (x.turns + 1), I x.did]) aE (h242_.at 83) (h242_.at 82) rfl rfl st188.f1 bP rfl ?_)))))); intro W245 st246
      refine aB (wp_seq (wp_seq (aA (sg (aF (v := I (aP x.yard (bQ x pick) (x.turns % 1000)).2.code) (h242_.at 8) (sg (dI rfl rfl (aB (gK rfl h193 (wp_skip (wp_seq (aA (sg (aV (cs := [I (aP x.yard (bQ x pick) (x.turns % 1000)).1.now, I (aP x.yard (bQ x pick) (x.turns % 1000)).1.seq, v179_0, v179_1, v58_2, I (x.turns + 1), I x.did]) bT rfl (h242_.at 5) (st246.get 0 rfl) rfl rfl ?_))))))))))))))
      refine sgn (aM (cs := [I (aP x.yard (bQ x pick) (x.turns % 1000)).1.now, I (aP x.yard (bQ x pick) (x.turns % 1000)).1.seq, v179_0, v179_1, v58_2, I (x.turns + 1), I x.did]) (C' := [I (aP x.yard (bQ x pick) (x.turns % 1000)).1.now, I (aP x.yard (bQ x pick) (x.turns % 1000)).1.seq, v179_0, v179_1, v58_2, I (x.turns + 1), I x.did]) aE (h242_.at 4) rfl (aG rfl (aG rfl (aG (Sl.one (aI (st246.f8.get 3 rfl))) (aG (Sl.one (aI (st246.f8.get 4 rfl))) (aG (Sl.one (aI (st246.f8.get 8 rfl))) (aG rfl (aG rfl bK))))))) st246.f8 bP rfl ?_); intro W252 st253
      refine aB (wr (eO bT rfl Tryz.results27 (h242_.at 4) (st253.get 0 rfl) rfl ?_))
      have st257 := fV (x := (⟨(aP x.yard (bQ x pick) (x.turns % 1000)).1, x.holds, x.turns + 1, x.did⟩ : Crew)) st253.f8.f5.f5 (show Crew.ok _ from ⟨(by assumption), by unfold I64; simp only; omega, by unfold I64; simp only; omega⟩)
      try dsimp only at st257
      have st259 := st257.d1
      have hfe : gL x pick = (⟨(aP x.yard (bQ x pick) (x.turns % 1000)).1, x.holds, x.turns + 1, x.did⟩ : Crew) := by rw [iW hnb hh]; unfold lQ; rw [if_neg h77p, if_neg h193p, if_neg h193p]
      rw [hfe]
      exact ⟨_, _, rfl, st259.d1.d1.d1.d1.d1.d1⟩
  ·have h29 := decide_eq_true h29p
   refine rc st25 13 Ag.nil.put.put.put.put.put.put.put [] [(24, .bool true)] [qb 3 rfl 0, qc Tryz.func11 rfl (fun W s b => xI W (bA hc s.below) aD), qk h27, qb 3 rfl 5, qk h29] aE fun f266 W267 h266_ st268 hb269 => (aB (fH (h266_.at 24) rfl (wp_seq (aA (sg (bB bT rfl (h266_.at 5) (st268.get 0 rfl) (Shape.len (bO (st268.get 1 rfl) rfl)) (sgn (aO (cs := cs13) bT (bO (st268.f2.get 2 rfl) rfl) (h266_.at 4) rfl st268.f2 rfl ?_)))))))); intro W273 st274
   refine aB (wr (eO bT rfl Tryz.results27 (h266_.at 4) (st274.get 0 rfl) (Shape.len (bO (st274.get 2 rfl) rfl)) ?_))
   have hfe : gL x pick = x := jD (.inr (.inl h29p)) pick
   rw [hfe]
   exact ⟨_, _, rfl, st274.f2.d1.d1.d1⟩
 ·refine rc st25 13 Ag.nil.put.put.put.put.put.put.put [] [(24, .bool true)] [qw 3 rfl (Shape.len hc), qc Tryz.func11 rfl (fun W s b => xI W (bA hc s.below) aD), qk h27] aE fun f279 W280 h279_ st281 hb282 => (aB (fH (h279_.at 24) rfl (wp_seq (aA (sg (bB bT rfl (h279_.at 5) (st281.get 0 rfl) (Shape.len (bO (st281.get 1 rfl) rfl)) (sgn (aO (cs := cs13) bT (bO (st281.f2.get 2 rfl) rfl) (h279_.at 4) rfl st281.f2 rfl ?_)))))))); intro W286 st287
  refine aB (wr (eO bT rfl Tryz.results27 (h279_.at 4) (st287.get 0 rfl) (Shape.len (bO (st287.get 2 rfl) rfl)) ?_))
  have hfe : gL x pick = x := jD (.inl (aW h27)) pick
  rw [hfe]
  exact ⟨_, _, rfl, st287.f2.d1.d1.d1⟩
theorem take_600 (xs : List Int) : xs.take (min (xs.length : Int) 600).toNat = xs.take 600 := by
 apply List.ext_getElem?
 intro i
 simp only [List.getElem?_take]
 by_cases h : i < xs.length
 ·by_cases h2 : i < 600
  ·rw [if_pos h2, if_pos aD]
  ·rw [if_neg h2, if_neg aD]
 ·rw [List.getElem?_eq_none aD]; simp
theorem xM {xs : List Int} {k : Nat} (h : k ≤ 600) (h2 : ¬ (k : Int) < (xs.length : Int) ∨ ¬ (k : Int) < 600) : xs.take k = xs.take 600 := by
 rcases h2 with h2 | h2
 ·rw [List.take_of_length_le aD, List.take_of_length_le aD]
 ·rw [show k = 600 by omega]

theorem yP (w : World) {x : Crew} {cs : List Value} {fp : List Nat} (hc : Shape.C w cs x fp) {v : Value} {xs : List Int} {gp : List Nat} (hs : Sl w v xs gp) (hw : x.yard.wt + x.holds.length ≤ 1048576) :
  Calls Tryz.prog 30 #[.agg cs.toArray, v] w fun e w' => ∃ (cs' : List Value) (fp' : List Nat), e = .returned (.agg cs'.toArray) ∧ St w w' [Res.own (.agg cs'.toArray) (fO x (xs.take 600)) fp'] := by
 refine bR Tryz.func30 rfl Tryz.ntmps30 aX (wp_seq (aA (sg (aJ (cs := cs) rfl (St.start w) ?_)))); intro b1 W2 hb3 st4
 refine sg (aR gD st4 ?_); intro b6 W7 hb8 st9
 refine aB (wp_seq (aA (sg (bB bT rfl rfl (st9.get 1 rfl) (Shape.len hc) (sg (bF Tryz.func67 rfl rfl ((wR W7 (bA hc st9.below) aD).mono ?_))))))); rintro _ W15 ⟨cs13, fp13, rfl, hk16⟩; refine ⟨_, rfl, ?_⟩
 have st17 := St.call st9 hk16
 refine sg (aR gD st17 ?_); intro b19 W20 hb21 st22
 refine sgn (aO (cs := cs13) bT (bO (st22.get 1 rfl) rfl) rfl rfl st22 rfl ?_); intro W24 st25
 refine aB (wp_seq (wp_seq (aA (rn st25 4 Ag.nil.put.put.put.put.put.put.put [] [(10, v), (13, I (min (xs.length : Int) 600))] [ql hs] aE fun f27 h27_ => (sg (lB (h := (min (xs.length : Int) 600).toNat) eP (h27_.at 10) hs (h27_.at 13) aD aD ?_)))))); intro v28 g29 h30 hm31
 refine sg (fK eP rfl h30 (sg (aF (v := I 0) rfl (aB (wp_block (aY (fun (m : Nat) (f : Nat → Value) (W : World) => ∃ (k : Nat) (cs34 : List Value) (fo35 : List Nat), k ≤ (xs.take (min (xs.length : Int) 600).toNat).length ∧ m = (xs.take (min (xs.length : Int) 600).toNat).length - k ∧ Ag [(4, .pointer (some ⟨b6, 0, none⟩)), (5, .pointer (some ⟨b19, 0, none⟩)), (14, v28), (15, I ((xs.take (min (xs.length : Int) 600).toNat).length : Int)), (16, I (k : Int))] f ∧ St w W ([Res.bx b19 cs34 37, Res.own (α := Crew) (.agg cs34.toArray) (fO x ((xs.take (min (xs.length : Int) 600).toNat).take k)) fo35, Res.bx b6 [I 0, I 0, .slice none 0 0, .slice none 0 0, .slice none 0 0, I 0, I 0] 37, Res.bx b1 cs 37])) ((xs.take (min (xs.length : Int) 600).toNat).length - 0) ?_ ?_))))))
 ·exact ⟨0, cs13, fp13, Nat.zero_le _, rfl, (h27_.put.put.put.to aE), st25⟩
 intro m36 f37 W38 hJ39
 obtain ⟨k, cs34, fo35, hcd41_0, rfl, hA41, st40⟩ := hJ39
 have hmx : (xs.take (min (xs.length : Int) 600).toNat).length ≤ 600 := by rw [List.length_take]; omega
 refine wp_seq (aA (sg (bS (hA41.at 16) (hA41.at 15) (aB (wp_seq (aK rfl (fun h44p => ?_) (fun h44p => ?_)))))))
 ·refine wp_skip (wp_seq (wp_block (wp_seq ?_)))
  have hq_ := eH (xs := (xs.take (min (xs.length : Int) 600).toNat)) (i := k) aD
  obtain ⟨p, hp⟩ := hq_
  have hwk := pP ((xs.take (min (xs.length : Int) 600).toNat).take k) hw
  refine aA ?_
  have hi52698 : k < (xs.take (min (xs.length : Int) 600).toNat).length := (List.getElem?_eq_some_iff.1 hp).1
  have hq_ := gT h30 (i := k) hp
  obtain ⟨b45, o45, cs45, f45, hp45, hr45, hc45, hm45⟩ := hq_
  have hk45 := hc45
  obtain ⟨rfl, rfl, hok45⟩ := hk45
  refine rn st40 3 hA41.put [] [(7, I p)] [qx hp45, qr hr45 0] aE fun f47 h47_ => (aB ?_)
  have hpk := hok45
  refine aA (sg (bB bT rfl (h47_.at 5) (st40.get 0 rfl) (Shape.len (bO (st40.get 1 rfl) rfl)) (sg (aF (v := I p) (h47_.at 7) (sg (bJ Tryz.func28 rfl rfl rfl ((TurnI_ W38 (bO (st40.get 1 rfl) rfl) p hpk aD).mono ?_))))))); rintro _ W52 ⟨cs50, fp50, rfl, hk53⟩; refine ⟨_, rfl, ?_⟩
  have st54 := St.call st40 hk53
  refine sgn (aO (cs := cs50) bT (bO (st54.f1.get 1 rfl) rfl) (h47_.at 5) rfl st54.f1 (Shape.len (bO (st54.f1.get 2 rfl) rfl)) ?_); intro W57 st58
  refine aB (aA (sg (bY (h47_.at 16) rfl dX (sg (aF (v := I ((k : Int) + 1)) rfl (aB ?_))))))
  exact ⟨_, (xs.take (min (xs.length : Int) 600).toNat).length - (k + 1), aD, rfl, k + 1, cs50, fp50, aD, rfl, (h47_.put.put.put.put.put.to aE), (by rw [xK hp]; exact st58.f4.f4.f3.f3.d4)⟩
 ·refine wp_exit (wp_seq (aA (sg (bB bT rfl (hA41.at 5) (st40.get 0 rfl) (Shape.len (bO (st40.get 1 rfl) rfl)) (sgn (aO (cs := cs34) bT (bO (st40.f2.get 2 rfl) rfl) (hA41.at 4) rfl st40.f2 rfl ?_)))))); intro W70 st71
  refine aB (wr (eO bT rfl Tryz.results30 (hA41.at 4) (st71.get 0 rfl) (Shape.len (bO (st71.get 2 rfl) rfl)) ?_))
  have st75 := st71.f2.d1.d1.d1
  have hke : k = (xs.take (min (xs.length : Int) 600).toNat).length := by omega
  rw [hke, List.take_length, take_600] at st75
  exact ⟨_, _, rfl, st75⟩
theorem WorkOffS (w : World) {x : Crew} {cs : List Value} {fp : List Nat} (hc : Shape.C w cs x fp) {v : Value} {xs : List Int} {gp : List Nat} (hs : Sl w v xs gp) (hw : x.yard.wt + x.holds.length ≤ 1048576) :
  Calls Tryz.prog 29 #[.agg cs.toArray, v] w fun e w' => ∃ (cs' : List Value) (fp' : List Nat), e = .returned (.agg cs'.toArray) ∧ St w w' [Res.own (.agg cs'.toArray) (fO x (xs.take 600)) fp'] := by
 refine bR Tryz.func29 rfl Tryz.ntmps29 aX (wp_seq (aA (sg (aJ (cs := cs) rfl (St.start w) ?_)))); intro b1 W2 hb3 st4
 refine sg (aR gD st4 ?_); intro b6 W7 hb8 st9
 refine aB (wp_seq (aA (sg (bB bT rfl rfl (st9.get 1 rfl) (Shape.len hc) (sg (bF Tryz.func64 rfl rfl ((wQ W7 (bA hc st9.below) aD).mono ?_))))))); rintro _ W15 ⟨cs13, fp13, rfl, hk16⟩; refine ⟨_, rfl, ?_⟩
 have st17 := St.call st9 hk16
 refine sg (aR gD st17 ?_); intro b19 W20 hb21 st22
 refine sgn (aO (cs := cs13) bT (bO (st22.get 1 rfl) rfl) rfl rfl st22 rfl ?_); intro W24 st25
 refine aB (wp_seq (wp_seq (aA (sg (aC (v := I 0) rfl (aB (wW (fun (f : Nat → Value) (W : World) => ∃ (cs28 : List Value) (fo29 : List Nat), Ag [(4, .pointer (some ⟨b6, 0, none⟩)), (5, .pointer (some ⟨b19, 0, none⟩))] f ∧ St w W ([Res.bx b19 cs28 37, Res.own (α := Crew) (.agg cs28.toArray) (fO x (xs.take 600)) fo29, Res.bx b6 [I 0, I 0, .slice none 0 0, .slice none 0 0, .slice none 0 0, I 0, I 0] 37, Res.bx b1 cs 37])) ?_ (fun f30 W31 hJ32 => ?_))))))))
 ·refine wp_block (aY (fun (m : Nat) (f : Nat → Value) (W : World) => ∃ (k : Nat) (cs35 : List Value) (fo36 : List Nat), k ≤ xs.length ∧ k ≤ 600 ∧ m = xs.length - k ∧ Ag [(1, v), (4, .pointer (some ⟨b6, 0, none⟩)), (5, .pointer (some ⟨b19, 0, none⟩)), (6, I (k : Int))] f ∧ St w W ([Res.bx b19 cs35 37, Res.own (α := Crew) (.agg cs35.toArray) (fO x (xs.take k)) fo36, Res.bx b6 [I 0, I 0, .slice none 0 0, .slice none 0 0, .slice none 0 0, I 0, I 0] 37, Res.bx b1 cs 37])) (xs.length - 0) ?_ ?_)
  ·exact ⟨0, cs13, fp13, Nat.zero_le _, Nat.zero_le _, rfl, (Ag.nil.put.put.put.put.put.put.put.put.to aE), st25⟩
  intro m37 f38 W39 hJ40
  obtain ⟨k, cs35, fo36, hcd42_0, hcd42_1, rfl, hA42, st41⟩ := hJ40
  refine wp_seq (wp_seq (aA ?_))
  rcases nem ((k : Int) < (xs.length : Int)) with h44p | h44p
  ·have h44 := decide_eq_false h44p
   refine rn st41 8 hA42 [] [(16, .bool false)] [ql hs, qk h44] aE fun f45 h45_ => (aB (gK (h45_.at 16) rfl (wp_exit ?_)))
   have hfin : xs.take k = xs.take 600 := xM aD (.inl h44p)
   exact ⟨_, rfl, cs35, fo36, (h45_.to aE), (by rw [← hfin]; exact st41)⟩
  ·have h44 := decide_eq_true h44p
   refine rn st41 8 hA42 [] [(16, .bool (decide ((k : Int) < 600)))] [ql hs, qk h44, .o] aE fun f46 h46_ => (aB (aK (h46_.at 16) (fun h47p => ?_) (fun h47p => ?_)))
   ·refine wp_skip (wp_seq (wp_block ?_))
    have hq_ := eH (xs := xs) (i := k) aD
    obtain ⟨p, hp⟩ := hq_
    have hwk := pP (xs.take k) hw
    have hpk : I64 p := by obtain ⟨_, _, _, _, _, _, h_, _⟩ := gT hs hp; exact h_.2.2
    have hi51fab : k < xs.length := (List.getElem?_eq_some_iff.1 hp).1
    have hq_ := gT hs (i := k) hp
    obtain ⟨b49, o49, cs49, f49, hp49, hr49, hc49, hm49⟩ := hq_
    have hk49 := hc49
    obtain ⟨rfl, rfl, hok49⟩ := hk49
    refine rk 5 st41 h46_ [] [(19, .agg cs35.toArray), (23, I p)] [qw 0 rfl (Shape.len (bO (st41.get 1 rfl) rfl)), qx hp49, qr hr49 0] aE aE fun f50 W51 h50_ st52 hb53 => (sg (bJ Tryz.func27 rfl (h50_.at 19) (h50_.at 23) ((TurnS_ W51 (bO (st52.get 1 rfl) rfl) p hpk aD).mono ?_))); rintro _ W56 ⟨cs54, fp54, rfl, hk57⟩; refine ⟨_, rfl, ?_⟩
    have st58 := St.call st52 hk57
    refine sgn (aO (cs := cs54) bT (bO (st58.f1.get 1 rfl) rfl) (h50_.at 5) rfl st58.f1 (Shape.len (bO (st58.f1.get 2 rfl) rfl)) ?_); intro W61 st62
    refine aB (aA (rn st62 3 h50_.put [6] [(6, I ((k : Int) + 1))] [qad (k : Int) 1] aE fun f64 h64_ => (aB ?_)))
    exact ⟨_, xs.length - (k + 1), aD, rfl, k + 1, cs54, fp54, aD, aD, rfl, (h64_.to aE), (by rw [xK hp]; exact st62.f4.f4.f3.f3.d4)⟩
   ·refine wp_exit ?_
    have hfin : xs.take k = xs.take 600 := xM aD (.inr h47p)
    exact ⟨_, rfl, cs35, fo36, (h46_.to aE), (by rw [← hfin]; exact st41)⟩
 obtain ⟨cs28, fo29, hA34, st33⟩ := hJ32
 refine wp_seq (aA (sg (bB bT rfl (hA34.at 5) (st33.get 0 rfl) (Shape.len (bO (st33.get 1 rfl) rfl)) (sgn (aO (cs := cs28) bT (bO (st33.f2.get 2 rfl) rfl) (hA34.at 4) rfl st33.f2 rfl ?_))))); intro W74 st75
 refine aB (wr (eO bT rfl Tryz.results29 (hA34.at 4) (st75.get 0 rfl) (Shape.len (bO (st75.get 2 rfl) rfl)) ?_))
 exact ⟨_, _, rfl, st75.f2.d1.d1.d1⟩
end Go.Proofs.YtchnllpegfbleaaGreat
