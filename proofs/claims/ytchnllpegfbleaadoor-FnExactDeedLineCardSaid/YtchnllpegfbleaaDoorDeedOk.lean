/-
  DeedOk of the program, and what the reference looks at. (Printed by a program of this project's.)
-/
import Derived.Test.YtchnllpegfbleaaDoorSxLit
import Derived.Test.YtchnllpegfbleaaDoorLeft
import Derived.Test.YtchnllpegfbleaaDoorEq
namespace Go.Proofs.YtchnllpegfbleaaDoor
set_option linter.unusedSimpArgs false
set_option linter.unusedVariables false
set_option maxRecDepth 100000
open Go.RowKit


def num (n : Int) : Bool := inB n 0 1000000000
def zP : Plan := ⟨0, 0, 0, 0, []⟩
def usedD (d : Deed) : Deed :=
  if d.kind = 1 then ⟨d.kind, d.run, d.plan, 0, 0, 0, 0⟩
  else if d.kind = 2 then ⟨d.kind, 0, zP, 0, 0, d.worker, d.draw⟩
  else if d.kind = 3 ∨ d.kind = 4 then ⟨d.kind, d.run, zP, d.task, d.try_, 0, 0⟩
  else if d.kind = 6 ∨ d.kind = 7 then ⟨d.kind, d.run, zP, 0, 0, 0, 0⟩
  else ⟨d.kind, 0, zP, 0, 0, 0, 0⟩
def edgeNums (es : List Edge) : List Int := es.flatMap (fun e => [e.from_, e.to_])
theorem edgeNums_s {es : List Edge} {k : Nat} (h : k < es.length) : edgeNums (es.take (k + 1)) = edgeNums (es.take k) ++ [es[k].from_, es[k].to_] := by
  unfold edgeNums
  rw [List.take_succ_eq_append_getElem h, List.flatMap_append]; rfl
theorem edgeNums_len : ∀ (es : List Edge), (edgeNums es).length = 2 * es.length
  | [] => rfl
  | e :: es => by have := edgeNums_len es; unfold edgeNums at *; simp only [List.flatMap_cons, List.length_append, List.length_cons, List.length_nil, this]; omega
def deedNums (d : Deed) : List Int :=
  if d.kind = 1 then [d.run, d.plan.prio, d.plan.most, d.plan.wait, d.plan.tasks, (d.plan.edges.length : Int)] ++ edgeNums d.plan.edges
  else if d.kind = 2 then [d.worker, d.draw]
  else if d.kind = 3 ∨ d.kind = 4 then [d.run, d.task, d.try_]
  else if d.kind = 6 ∨ d.kind = 7 then [d.run]
  else []
theorem deedNums_len (d : Deed) : (deedNums d).length ≤ 6 + 2 * d.plan.edges.length := by
  unfold deedNums
  have := edgeNums_len d.plan.edges
  split
  · simp only [List.length_append, List.length_cons, List.length_nil, this]; omega
  · split
    · simp; omega
    · split
      · simp; omega
      · split <;> simp <;> omega
def deedOk (d : Deed) : Bool := inB d.kind 1 8 && decide (d.plan.edges.length ≤ 31) && eqB d (usedD d) && !((deedNums d).any (fun n => !num n))
def planNum (p : Plan) : Bool := num p.prio && num p.most && num p.wait && num p.tasks && decide (p.edges.length ≤ 31) && !(p.edges.any (fun e : Edge => !(num e.from_ && num e.to_)))
def noPlan (p : Plan) : Bool := decide (p.prio = 0) && decide (p.most = 0) && decide (p.wait = 0) && decide (p.tasks = 0) && decide (p.edges.length = 0)
def spanOk (s : Span) : Bool := deedOk s.deed && decide (s.begin_ < s.end_)
theorem noPlan_iff {p : Plan} : noPlan p = true ↔ p = zP := by
  cases p
  simp [noPlan, zP, List.length_eq_zero_iff, and_assoc]
theorem any_edges (es : List Edge) : (edgeNums es).any (fun n => !num n) = es.any (fun e : Edge => !(num e.from_ && num e.to_)) := by
  unfold edgeNums
  rw [List.any_flatMap]
  congr 1
  funext e
  simp
theorem deedOk_0 {d : Deed} (h : inB d.kind 1 8 = false) : deedOk d = false := by unfold deedOk; rw [h]; rfl
theorem num0 : num 0 = true := rfl
theorem num_len {n : Nat} (h : n ≤ 31) : num (n : Int) = true := by unfold num; rw [inB_iff']; omega
theorem deedOk_1 {d : Deed} (h : d.kind = 1) : deedOk d = (num d.run && decide (d.task = 0) && decide (d.try_ = 0) && decide (d.worker = 0) && decide (d.draw = 0) && planNum d.plan) := by
  obtain ⟨k, r, p, t, y, w, dr⟩ := d
  simp only at h
  subst h
  have h1 : eqB (⟨1, r, p, t, y, w, dr⟩ : Deed) (usedD ⟨1, r, p, t, y, w, dr⟩) = (decide (t = 0) && decide (y = 0) && decide (w = 0) && decide (dr = 0)) := by
    rw [Bool.eq_iff_iff]; simp [eqB, usedD, and_assoc]
  have h2 : inB (⟨1, r, p, t, y, w, dr⟩ : Deed).kind 1 8 = true := rfl
  unfold deedOk planNum
  rw [h1, h2]
  by_cases hl : p.edges.length ≤ 31
  · have hn := num_len hl
    simp only [deedNums, if_true, List.any_append, List.any_cons, List.any_nil, any_edges, hn, decide_eq_true hl, Bool.not_true, Bool.or_false, Bool.not_or, Bool.not_not, Bool.true_and, Bool.and_true]
    ac_rfl
  · simp [hl]
theorem deedOk_2 {d : Deed} (h : d.kind = 2) : deedOk d = (decide (d.run = 0) && decide (d.task = 0) && decide (d.try_ = 0) && num d.worker && num d.draw && noPlan d.plan) := by
  obtain ⟨k, r, p, t, y, w, dr⟩ := d
  simp only at h
  subst h
  rw [Bool.eq_iff_iff]
  simp only [deedOk, usedD, deedNums, Bool.and_eq_true, noPlan_iff, eqB, decide_eq_true_eq, Deed.mk.injEq]
  simp [inB]
  constructor
  · rintro ⟨⟨h1, h2, h3, h4, h5⟩, h6⟩; simp_all
  · rintro h; simp_all [zP]
theorem deedOk_3 {d : Deed} (h : d.kind = 3 ∨ d.kind = 4) : deedOk d = (num d.run && num d.task && num d.try_ && decide (d.worker = 0) && decide (d.draw = 0) && noPlan d.plan) := by
  obtain ⟨k, r, p, t, y, w, dr⟩ := d
  simp only at h
  rw [Bool.eq_iff_iff]
  have h1 : ¬ k = 1 := by omega
  have h2 : ¬ k = 2 := by omega
  have h8 : inB k 1 8 = true := by rw [inB_iff']; omega
  simp only [deedOk, usedD, deedNums, Bool.and_eq_true, noPlan_iff, eqB, decide_eq_true_eq, Deed.mk.injEq, if_neg h1, if_neg h2, if_pos h, h8]
  simp
  constructor
  · rintro ⟨⟨h1, h2, h3, h4⟩, h6⟩; simp_all
  · rintro h; simp_all [zP]
theorem deedOk_6 {d : Deed} (h : d.kind = 6 ∨ d.kind = 7) : deedOk d = (num d.run && decide (d.task = 0) && decide (d.try_ = 0) && decide (d.worker = 0) && decide (d.draw = 0) && noPlan d.plan) := by
  obtain ⟨k, r, p, t, y, w, dr⟩ := d
  simp only at h
  rw [Bool.eq_iff_iff]
  have h1 : ¬ k = 1 := by omega
  have h2 : ¬ k = 2 := by omega
  have h3 : ¬ (k = 3 ∨ k = 4) := by omega
  have h8 : inB k 1 8 = true := by rw [inB_iff']; omega
  simp only [deedOk, usedD, deedNums, Bool.and_eq_true, noPlan_iff, eqB, decide_eq_true_eq, Deed.mk.injEq, if_neg h1, if_neg h2, if_neg h3, if_pos h, h8]
  simp
  constructor
  · rintro ⟨⟨h1, h2, h3, h4⟩, h6⟩; simp_all
  · rintro h; simp_all [zP]
theorem deedOk_5 {d : Deed} (h : d.kind = 5 ∨ d.kind = 8) : deedOk d = (decide (d.run = 0) && decide (d.task = 0) && decide (d.try_ = 0) && decide (d.worker = 0) && decide (d.draw = 0) && noPlan d.plan) := by
  obtain ⟨k, r, p, t, y, w, dr⟩ := d
  simp only at h
  rw [Bool.eq_iff_iff]
  have h1 : ¬ k = 1 := by omega
  have h2 : ¬ k = 2 := by omega
  have h3 : ¬ (k = 3 ∨ k = 4) := by omega
  have h4 : ¬ (k = 6 ∨ k = 7) := by omega
  have h8 : inB k 1 8 = true := by rw [inB_iff']; omega
  simp only [deedOk, usedD, deedNums, Bool.and_eq_true, noPlan_iff, eqB, decide_eq_true_eq, Deed.mk.injEq, if_neg h1, if_neg h2, if_neg h3, if_neg h4, h8]
  simp
  constructor
  · rintro ⟨h1, h2, h3, h4⟩; simp_all
  · rintro h; simp_all [zP]

set_option maxHeartbeats 2000000 in
theorem EqualEdge (w : World) {v u : Value} {xs ys : List Edge} {fp gp : List Nat} (h : Sl w v xs fp) (g : Sl w u ys gp) :
    Calls Tryd.prog 77 #[v, u] w fun e w' => e = .returned (.bool (eqB xs ys)) ∧ St w w' [] := by
  have hcap := h.len_le
  have hcap2 := g.len_le
  refine enter2 Tryd.func77 rfl Tryd.ntmps77 (by decide) ?_
  refine wp_seq ?_
  refine sx_region ?_
  refine sx rfl (stp_assign (v := .bool false) rfl ?_)
  refine sx_nil ?_
  refine wp_seq ?_
  refine wp_seq ?_
  refine sx_region ?_
  refine sx rfl (stp_move (v := v) rfl ?_)
  refine sx rfl (stp_len sl_EdgeS rfl h ?_)
  refine sx rfl (stp_move (v := u) rfl ?_)
  refine sx rfl (stp_len sl_EdgeS rfl g ?_)
  refine sx rfl (stp_neq rfl rfl ?_)
  refine sx_nil ?_
  refine sx_if rfl (fun h1 => ?_) (fun h1 => ?_)
  · skip
    have h1p := of_decide_eq_false (bnot_t h1)
    refine wp_seq ?_
    refine sx_region ?_
    refine sx rfl (stp_assign (v := .bool false) rfl ?_)
    refine sx_nil ?_
    refine wp_ret ?_; repeat (first | refine then_ret ?_ | refine blk_ret ?_)
    refine ret1 Tryd.results77 rfl ?_
    exact ⟨(congrArg (fun z => Ending.returned (.bool z)) (eqB_f (fun e => h1p (by rw [e]))).symm), (St.start w).bare⟩
  · skip
    have h1p := of_decide_eq_true (bnot_f h1)
    refine wp_skip ?_
    refine wp_seq ?_
    refine wp_seq ?_
    refine sx_region ?_
    refine sx rfl (stp_move (v := v) rfl ?_)
    refine sx rfl (stp_len sl_EdgeS rfl h ?_)
    refine sx rfl (stp_move (v := I 0) rfl ?_)
    refine sx_nil ?_
    refine wp_block ?_
    refine sx_loop (fun (m : Nat) (f : Nat → Value) (W : World) => ∃ (k : Nat), k ≤ xs.length ∧ xs.take k = ys.take k ∧ m = xs.length - k ∧ f 0 = v ∧ f 1 = u ∧ f 12 = I (xs.length : Int) ∧ f 13 = I (k : Int) ∧ St w W ([])) (xs.length - 0) ?_ ?_
    · exact ⟨0, Nat.zero_le _, rfl, rfl, rfl, rfl, rfl, rfl, (St.start w)⟩
    intro m2 f3 W4 hJ5
    obtain ⟨k, hk, htk, rfl, hs7_0, hs7_1, hs7_12, hs7_13, st6⟩ := hJ5
    refine wp_seq ?_
    refine sx_region ?_
    refine sx rfl (stp_lss hs7_13 hs7_12 ?_)
    refine sx_nil ?_
    refine wp_seq ?_
    refine sx_if rfl (fun h8 => ?_) (fun h8 => ?_)
    · skip
      have h8p := of_decide_eq_true h8
      refine wp_skip ?_
      refine wp_seq ?_
      refine wp_block ?_
      refine wp_seq ?_
      refine sx_region ?_
      refine sx rfl (stp_move (v := I (k : Int)) hs7_13 ?_)
      refine sx rfl (stp_assign (v := I (k : Int)) rfl ?_)
      refine sx_nil ?_
      refine wp_seq ?_
      have hi51fab : k < xs.length := (by omega)
      have hq_ := idx h (i := k) hi51fab
      obtain ⟨b9, o9, cs9, f9, hp9, hr9, hc9, hm9⟩ := hq_
      have hk10 := hc9
      obtain ⟨he10, rfl, hok10⟩ := hk10
      have he10 : _ = [I (xs[k]'hi51fab).from_, I (xs[k]'hi51fab).to_] := he10
      subst he10
      have hi28e79 : k < ys.length := (by omega)
      have hq_ := idx g (i := k) hi28e79
      obtain ⟨b11, o11, cs11, f11, hp11, hr11, hc11, hm11⟩ := hq_
      have hk12 := hc11
      obtain ⟨he12, rfl, hok12⟩ := hk12
      have he12 : _ = [I (ys[k]'hi28e79).from_, I (ys[k]'hi28e79).to_] := he12
      subst he12
      refine sx_any [Pl.is (v) (Sl.yl h), Pl.is (I (k : Int)), Pl.is (.pointer (some ⟨b9, o9, none⟩)), Pl.is (.agg #[I (xs[k]'hi51fab).from_, I (xs[k]'hi51fab).to_]), Pl.is (u) (Sl.yl g), Pl.is (I (k : Int)), Pl.is (.pointer (some ⟨b11, o11, none⟩)), Pl.is (.agg #[I (ys[k]'hi28e79).from_, I (ys[k]'hi28e79).to_]), Pl.bool (!(eqB (xs[k]'hi51fab) (ys[k]'hi28e79)))] mix (by rfl) st6 ⟨(fun f W hst hbl hd hf => stp_move (v := v) ((hf 0 rfl).trans hs7_0) ⟨Below.refl _ _, rfl⟩), (fun f W hst hbl hd hf => stp_move (v := I (k : Int)) ((hf 5 rfl).trans (show _ = I (k : Int) from rfl)) ⟨Below.refl _ _, rfl⟩), (fun f W hst hbl hd hf => stp_indexAddr sl_EdgeS (hd 0 16 rfl rfl) hp9 (hd 1 17 rfl rfl) rfl ⟨Below.refl _ _, rfl⟩), (fun f W hst hbl hd hf => stp_load_rgs (cs := [I (xs[k]'hi51fab).from_, I (xs[k]'hi51fab).to_]) ld_Edge rfl (hd 2 18 rfl rfl) hr9 hst.below (i := 0) rfl rfl rfl ⟨Below.refl _ _, rfl⟩), (fun f W hst hbl hd hf => stp_move (v := u) ((hf 1 rfl).trans hs7_1) ⟨Below.refl _ _, rfl⟩), (fun f W hst hbl hd hf => stp_move (v := I (k : Int)) ((hf 5 rfl).trans (show _ = I (k : Int) from rfl)) ⟨Below.refl _ _, rfl⟩), (fun f W hst hbl hd hf => stp_indexAddr sl_EdgeS (hd 4 20 rfl rfl) hp11 (hd 5 21 rfl rfl) rfl ⟨Below.refl _ _, rfl⟩), (fun f W hst hbl hd hf => stp_load_rgs (cs := [I (ys[k]'hi28e79).from_, I (ys[k]'hi28e79).to_]) ld_Edge rfl (hd 6 22 rfl rfl) hr11 hst.below (i := 0) rfl rfl rfl ⟨Below.refl _ _, rfl⟩), (fun f W hst hbl hd hf => stp_aneq (se_Edge (xs[k]'hi51fab) (ys[k]'hi28e79)) eg_Edge (hd 3 19 rfl rfl) (hd 7 23 rfl rfl) ⟨Below.refl _ _, rfl⟩), trivial⟩ ?_
      intro f13 W14 st15 hb16 hv17 hf18
      refine sx_if (hv17 8 24 (by decide) rfl) (fun h19 => ?_) (fun h19 => ?_)
      · skip
        refine wp_seq ?_
        refine sx_region ?_
        refine sx rfl (stp_assign (v := .bool false) rfl ?_)
        refine sx_nil ?_
        refine wp_ret ?_; repeat (first | refine then_ret ?_ | refine blk_ret ?_)
        refine ret1 Tryd.results77 rfl ?_
        have hne : ¬ xs[k] = ys[k]'(by omega) := fun e => absurd (bnot_t h19) (by rw [eqB_t e]; decide)
        exact ⟨(congrArg (fun z => Ending.returned (.bool z)) (eqB_f (fun e => hne (by subst e; rfl))).symm), st15.bare⟩
      · skip
        refine wp_skip ?_
        refine sx_region ?_
        refine sx rfl (stp_add ((hf18 13 rfl).trans hs7_13) rfl (by (simp only [I64] at *; omega)) ?_)
        refine sx rfl (stp_move (v := I ((k : Int) + 1)) rfl ?_)
        refine sx_nil ?_
        exact ⟨_, xs.length - (k + 1), (by omega), rfl, k + 1, (by omega), (take_eq_succ (by omega) (by omega) htk (eqB_iff.1 (bnot_f h19))), rfl, ((hf18 0 rfl).trans hs7_0), ((hf18 1 rfl).trans hs7_1), ((hf18 12 rfl).trans hs7_12), rfl, st15⟩
    · skip
      have h8p := of_decide_eq_false h8
      refine wp_exit ?_
      refine wp_seq ?_
      refine sx_region ?_
      refine sx rfl (stp_assign (v := .bool true) rfl ?_)
      refine sx_nil ?_
      refine wp_ret ?_; repeat (first | refine then_ret ?_ | refine blk_ret ?_)
      refine ret1 Tryd.results77 rfl ?_
      obtain rfl : k = xs.length := by omega
      rw [List.take_length, List.take_of_length_le (by omega)] at htk
      exact ⟨(congrArg (fun z => Ending.returned (.bool z)) (eqB_t htk).symm), st6.bare⟩
set_option maxHeartbeats 2000000 in
theorem samePlanI (w : World) {x y : Plan} {cs ds : List Value} {fp gp : List Nat} (hc : Shape.C w cs x fp) (hd : Shape.C w ds y gp) :
    Calls Tryd.prog 70 #[.agg cs.toArray, .agg ds.toArray] w fun e w' => e = .returned (.bool (eqB x y)) ∧ St w w' [] := by
  refine enter2 Tryd.func70 rfl Tryd.ntmps70 (by decide) ?_
  refine wp_seq ?_
  refine sx_region ?_
  refine sx rfl (stp_box_agg (cs := cs) rfl (St.start w) ?_); intro b1 W2 hb3 st4
  refine sx rfl (stp_box_agg (cs := ds) rfl st4 ?_); intro b6 W7 hb8 st9
  refine sx rfl (stp_assign (v := .bool false) rfl ?_)
  refine sx_nil ?_
  refine wp_seq ?_
  refine sx_region ?_
  refine sx rfl (stp_fieldAddr fa_Plan_0 rfl ?_)
  have hk11 := hc
  obtain ⟨v11_0, g11_0, rfl, hok11, h11_0, rfl⟩ := hk11
  refine sx rfl (stp_load_bx ld_int rfl rfl (st9.get 1 rfl) (i := 0) rfl rfl ?_)
  refine sx rfl (stp_fieldAddr fa_Plan_0 rfl ?_)
  have hk12 := hd
  obtain ⟨v12_0, g12_0, rfl, hok12, h12_0, rfl⟩ := hk12
  refine sx rfl (stp_load_bx ld_int rfl rfl (st9.get 0 rfl) (i := 0) rfl rfl ?_)
  refine sx rfl (stp_eql rfl rfl ?_)
  refine sx rfl (stp_move (v := .bool (decide (x.prio = y.prio))) rfl ?_)
  rcases bd (decide (x.prio = y.prio)) with h13 | h13
  · skip
    have h13p := of_decide_eq_false h13
    iterate 5 refine sx_off (j := 5) (dd := 10) rfl rfl (by decide) (yl_off (e := decide (x.prio = y.prio)) rfl h13) ?_
    refine sx rfl (stp_pick_f (v := .bool false) ((rfl : _ = (.bool (decide (x.prio = y.prio)) : Value)).trans (congrArg Value.bool h13)) rfl ?_)
    refine sx rfl (stp_move (v := .bool false) rfl ?_)
    iterate 5 refine sx_off (j := 12) (dd := 17) rfl rfl (by decide) (yl_off (e := false) rfl rfl) ?_
    refine sx rfl (stp_pick_f (v := .bool false) rfl rfl ?_)
    refine sx rfl (stp_move (v := .bool false) rfl ?_)
    iterate 5 refine sx_off (j := 19) (dd := 24) rfl rfl (by decide) (yl_off (e := false) rfl rfl) ?_
    refine sx rfl (stp_pick_f (v := .bool false) rfl rfl ?_)
    refine sx rfl (stp_move (v := .bool false) rfl ?_)
    iterate 5 refine sx_off (j := 26) (dd := 31) rfl rfl (by decide) (yl_off (e := false) rfl rfl) ?_
    refine sx rfl (stp_pick_f (v := .bool false) rfl rfl ?_)
    refine sx rfl (stp_assign (v := .bool false) rfl ?_)
    refine sx_nil ?_
    refine wp_ret ?_; repeat (first | refine then_ret ?_ | refine blk_ret ?_)
    refine ret1 Tryd.results70 rfl ?_
    exact ⟨(congrArg (fun z => Ending.returned (.bool z)) (eqB_f (fun e => h13p (by rw [e]))).symm), st9.bare⟩
  · skip
    have h13p := of_decide_eq_true h13
    refine sx_on (j := 5) (dd := 10) rfl rfl (by decide) (yl_on (e := decide (x.prio = y.prio)) rfl h13) (stp_fieldAddr fa_Plan_1 rfl ?_)
    refine sx_on (j := 5) (dd := 10) rfl rfl (by decide) (yl_on (e := decide (x.prio = y.prio)) rfl h13) (stp_load_bx ld_int rfl rfl (st9.get 1 rfl) (i := 1) rfl rfl ?_)
    refine sx_on (j := 5) (dd := 10) rfl rfl (by decide) (yl_on (e := decide (x.prio = y.prio)) rfl h13) (stp_fieldAddr fa_Plan_1 rfl ?_)
    refine sx_on (j := 5) (dd := 10) rfl rfl (by decide) (yl_on (e := decide (x.prio = y.prio)) rfl h13) (stp_load_bx ld_int rfl rfl (st9.get 0 rfl) (i := 1) rfl rfl ?_)
    refine sx_on (j := 5) (dd := 10) rfl rfl (by decide) (yl_on (e := decide (x.prio = y.prio)) rfl h13) (stp_eql rfl rfl ?_)
    refine sx rfl (stp_pick_t (v := .bool (decide (x.most = y.most))) ((rfl : _ = (.bool (decide (x.prio = y.prio)) : Value)).trans (congrArg Value.bool h13)) rfl ?_)
    refine sx rfl (stp_move (v := .bool (decide (x.most = y.most))) rfl ?_)
    rcases bd (decide (x.most = y.most)) with h14 | h14
    · skip
      have h14p := of_decide_eq_false h14
      iterate 5 refine sx_off (j := 12) (dd := 17) rfl rfl (by decide) (yl_off (e := decide (x.most = y.most)) rfl h14) ?_
      refine sx rfl (stp_pick_f (v := .bool false) ((rfl : _ = (.bool (decide (x.most = y.most)) : Value)).trans (congrArg Value.bool h14)) rfl ?_)
      refine sx rfl (stp_move (v := .bool false) rfl ?_)
      iterate 5 refine sx_off (j := 19) (dd := 24) rfl rfl (by decide) (yl_off (e := false) rfl rfl) ?_
      refine sx rfl (stp_pick_f (v := .bool false) rfl rfl ?_)
      refine sx rfl (stp_move (v := .bool false) rfl ?_)
      iterate 5 refine sx_off (j := 26) (dd := 31) rfl rfl (by decide) (yl_off (e := false) rfl rfl) ?_
      refine sx rfl (stp_pick_f (v := .bool false) rfl rfl ?_)
      refine sx rfl (stp_assign (v := .bool false) rfl ?_)
      refine sx_nil ?_
      refine wp_ret ?_; repeat (first | refine then_ret ?_ | refine blk_ret ?_)
      refine ret1 Tryd.results70 rfl ?_
      exact ⟨(congrArg (fun z => Ending.returned (.bool z)) (eqB_f (fun e => h14p (by rw [e]))).symm), st9.bare⟩
    · skip
      have h14p := of_decide_eq_true h14
      refine sx_on (j := 12) (dd := 17) rfl rfl (by decide) (yl_on (e := decide (x.most = y.most)) rfl h14) (stp_fieldAddr fa_Plan_2 rfl ?_)
      refine sx_on (j := 12) (dd := 17) rfl rfl (by decide) (yl_on (e := decide (x.most = y.most)) rfl h14) (stp_load_bx ld_int rfl rfl (st9.get 1 rfl) (i := 2) rfl rfl ?_)
      refine sx_on (j := 12) (dd := 17) rfl rfl (by decide) (yl_on (e := decide (x.most = y.most)) rfl h14) (stp_fieldAddr fa_Plan_2 rfl ?_)
      refine sx_on (j := 12) (dd := 17) rfl rfl (by decide) (yl_on (e := decide (x.most = y.most)) rfl h14) (stp_load_bx ld_int rfl rfl (st9.get 0 rfl) (i := 2) rfl rfl ?_)
      refine sx_on (j := 12) (dd := 17) rfl rfl (by decide) (yl_on (e := decide (x.most = y.most)) rfl h14) (stp_eql rfl rfl ?_)
      refine sx rfl (stp_pick_t (v := .bool (decide (x.wait = y.wait))) ((rfl : _ = (.bool (decide (x.most = y.most)) : Value)).trans (congrArg Value.bool h14)) rfl ?_)
      refine sx rfl (stp_move (v := .bool (decide (x.wait = y.wait))) rfl ?_)
      rcases bd (decide (x.wait = y.wait)) with h15 | h15
      · skip
        have h15p := of_decide_eq_false h15
        iterate 5 refine sx_off (j := 19) (dd := 24) rfl rfl (by decide) (yl_off (e := decide (x.wait = y.wait)) rfl h15) ?_
        refine sx rfl (stp_pick_f (v := .bool false) ((rfl : _ = (.bool (decide (x.wait = y.wait)) : Value)).trans (congrArg Value.bool h15)) rfl ?_)
        refine sx rfl (stp_move (v := .bool false) rfl ?_)
        iterate 5 refine sx_off (j := 26) (dd := 31) rfl rfl (by decide) (yl_off (e := false) rfl rfl) ?_
        refine sx rfl (stp_pick_f (v := .bool false) rfl rfl ?_)
        refine sx rfl (stp_assign (v := .bool false) rfl ?_)
        refine sx_nil ?_
        refine wp_ret ?_; repeat (first | refine then_ret ?_ | refine blk_ret ?_)
        refine ret1 Tryd.results70 rfl ?_
        exact ⟨(congrArg (fun z => Ending.returned (.bool z)) (eqB_f (fun e => h15p (by rw [e]))).symm), st9.bare⟩
      · skip
        have h15p := of_decide_eq_true h15
        refine sx_on (j := 19) (dd := 24) rfl rfl (by decide) (yl_on (e := decide (x.wait = y.wait)) rfl h15) (stp_fieldAddr fa_Plan_3 rfl ?_)
        refine sx_on (j := 19) (dd := 24) rfl rfl (by decide) (yl_on (e := decide (x.wait = y.wait)) rfl h15) (stp_load_bx ld_int rfl rfl (st9.get 1 rfl) (i := 3) rfl rfl ?_)
        refine sx_on (j := 19) (dd := 24) rfl rfl (by decide) (yl_on (e := decide (x.wait = y.wait)) rfl h15) (stp_fieldAddr fa_Plan_3 rfl ?_)
        refine sx_on (j := 19) (dd := 24) rfl rfl (by decide) (yl_on (e := decide (x.wait = y.wait)) rfl h15) (stp_load_bx ld_int rfl rfl (st9.get 0 rfl) (i := 3) rfl rfl ?_)
        refine sx_on (j := 19) (dd := 24) rfl rfl (by decide) (yl_on (e := decide (x.wait = y.wait)) rfl h15) (stp_eql rfl rfl ?_)
        refine sx rfl (stp_pick_t (v := .bool (decide (x.tasks = y.tasks))) ((rfl : _ = (.bool (decide (x.wait = y.wait)) : Value)).trans (congrArg Value.bool h15)) rfl ?_)
        refine sx rfl (stp_move (v := .bool (decide (x.tasks = y.tasks))) rfl ?_)
        rcases bd (decide (x.tasks = y.tasks)) with h16 | h16
        · skip
          have h16p := of_decide_eq_false h16
          iterate 5 refine sx_off (j := 26) (dd := 31) rfl rfl (by decide) (yl_off (e := decide (x.tasks = y.tasks)) rfl h16) ?_
          refine sx rfl (stp_pick_f (v := .bool false) ((rfl : _ = (.bool (decide (x.tasks = y.tasks)) : Value)).trans (congrArg Value.bool h16)) rfl ?_)
          refine sx rfl (stp_assign (v := .bool false) rfl ?_)
          refine sx_nil ?_
          refine wp_ret ?_; repeat (first | refine then_ret ?_ | refine blk_ret ?_)
          refine ret1 Tryd.results70 rfl ?_
          exact ⟨(congrArg (fun z => Ending.returned (.bool z)) (eqB_f (fun e => h16p (by rw [e]))).symm), st9.bare⟩
        · skip
          have h16p := of_decide_eq_true h16
          refine sx_on (j := 26) (dd := 31) rfl rfl (by decide) (yl_on (e := decide (x.tasks = y.tasks)) rfl h16) (stp_fieldAddr fa_Plan_4 rfl ?_)
          refine sx_on (j := 26) (dd := 31) rfl rfl (by decide) (yl_on (e := decide (x.tasks = y.tasks)) rfl h16) (stp_load_bx ld_EdgeS rfl rfl (st9.get 1 rfl) (i := 4) rfl rfl ?_)
          refine sx_on (j := 26) (dd := 31) rfl rfl (by decide) (yl_on (e := decide (x.tasks = y.tasks)) rfl h16) (stp_fieldAddr fa_Plan_4 rfl ?_)
          refine sx_on (j := 26) (dd := 31) rfl rfl (by decide) (yl_on (e := decide (x.tasks = y.tasks)) rfl h16) (stp_load_bx ld_EdgeS rfl rfl (st9.get 0 rfl) (i := 4) rfl rfl ?_)
          refine sx_on (j := 26) (dd := 31) rfl rfl (by decide) (yl_on (e := decide (x.tasks = y.tasks)) rfl h16) (stp_call2 Tryd.func77 rfl rfl rfl ((EqualEdge W7 (h11_0.below st9.below) (h12_0.below st9.below)).mono ?_)); rintro _ W17 ⟨rfl, hk18⟩; refine ⟨_, rfl, ?_⟩
          have st19 := St.call st9 hk18
          refine sx rfl (stp_pick_t (v := .bool (eqB x.edges y.edges)) ((rfl : _ = (.bool (decide (x.tasks = y.tasks)) : Value)).trans (congrArg Value.bool h16)) rfl ?_)
          refine sx rfl (stp_assign (v := .bool (eqB x.edges y.edges)) rfl ?_)
          refine sx_nil ?_
          rcases bd (eqB x.edges y.edges) with h21 | h21
          · skip
            refine wp_ret ?_; repeat (first | refine then_ret ?_ | refine blk_ret ?_)
            refine ret1 Tryd.results70 ((rfl : _ = (.bool (eqB x.edges y.edges) : Value)).trans (congrArg Value.bool h21)) ?_
            exact ⟨(congrArg (fun z => Ending.returned (.bool z)) (eqB_f (fun e => absurd h21 (by rw [eqB_t (by rw [e])]; decide))).symm), st19.bare⟩
          · skip
            refine wp_ret ?_; repeat (first | refine then_ret ?_ | refine blk_ret ?_)
            refine ret1 Tryd.results70 ((rfl : _ = (.bool (eqB x.edges y.edges) : Value)).trans (congrArg Value.bool h21)) ?_
            exact ⟨(congrArg (fun z => Ending.returned (.bool z)) (eqB_t (Plan_ext h13p h14p h15p h16p (eqB_iff.1 h21))).symm), st19.bare⟩
set_option maxHeartbeats 2000000 in
theorem sameDeedI (w : World) {x y : Deed} {cs ds : List Value} {fp gp : List Nat} (hc : Shape.C w cs x fp) (hd : Shape.C w ds y gp) :
    Calls Tryd.prog 59 #[.agg cs.toArray, .agg ds.toArray] w fun e w' => e = .returned (.bool (eqB x y)) ∧ St w w' [] := by
  refine enter2 Tryd.func59 rfl Tryd.ntmps59 (by decide) ?_
  refine wp_seq ?_
  refine sx_region ?_
  refine sx rfl (stp_box_agg (cs := cs) rfl (St.start w) ?_); intro b1 W2 hb3 st4
  refine sx rfl (stp_box_agg (cs := ds) rfl st4 ?_); intro b6 W7 hb8 st9
  refine sx rfl (stp_assign (v := .bool false) rfl ?_)
  refine sx_nil ?_
  refine wp_seq ?_
  refine sx_region ?_
  refine sx rfl (stp_fieldAddr fa_Deed_0 rfl ?_)
  have hk11 := hc
  obtain ⟨v11_0, g11_0, rfl, hok11, h11_0, rfl⟩ := hk11
  refine sx rfl (stp_load_bx ld_int rfl rfl (st9.get 1 rfl) (i := 0) rfl rfl ?_)
  refine sx rfl (stp_fieldAddr fa_Deed_0 rfl ?_)
  have hk12 := hd
  obtain ⟨v12_0, g12_0, rfl, hok12, h12_0, rfl⟩ := hk12
  refine sx rfl (stp_load_bx ld_int rfl rfl (st9.get 0 rfl) (i := 0) rfl rfl ?_)
  refine sx rfl (stp_eql rfl rfl ?_)
  refine sx rfl (stp_move (v := .bool (decide (x.kind = y.kind))) rfl ?_)
  rcases bd (decide (x.kind = y.kind)) with h13 | h13
  · skip
    have h13p := of_decide_eq_false h13
    iterate 5 refine sx_off (j := 5) (dd := 10) rfl rfl (by decide) (yl_off (e := decide (x.kind = y.kind)) rfl h13) ?_
    refine sx rfl (stp_pick_f (v := .bool false) ((rfl : _ = (.bool (decide (x.kind = y.kind)) : Value)).trans (congrArg Value.bool h13)) rfl ?_)
    refine sx rfl (stp_move (v := .bool false) rfl ?_)
    iterate 5 refine sx_off (j := 12) (dd := 17) rfl rfl (by decide) (yl_off (e := false) rfl rfl) ?_
    refine sx rfl (stp_pick_f (v := .bool false) rfl rfl ?_)
    refine sx rfl (stp_move (v := .bool false) rfl ?_)
    iterate 5 refine sx_off (j := 19) (dd := 24) rfl rfl (by decide) (yl_off (e := false) rfl rfl) ?_
    refine sx rfl (stp_pick_f (v := .bool false) rfl rfl ?_)
    refine sx rfl (stp_move (v := .bool false) rfl ?_)
    iterate 5 refine sx_off (j := 26) (dd := 31) rfl rfl (by decide) (yl_off (e := false) rfl rfl) ?_
    refine sx rfl (stp_pick_f (v := .bool false) rfl rfl ?_)
    refine sx rfl (stp_move (v := .bool false) rfl ?_)
    iterate 5 refine sx_off (j := 33) (dd := 38) rfl rfl (by decide) (yl_off (e := false) rfl rfl) ?_
    refine sx rfl (stp_pick_f (v := .bool false) rfl rfl ?_)
    refine sx rfl (stp_move (v := .bool false) rfl ?_)
    iterate 5 refine sx_off (j := 40) (dd := 45) rfl rfl (by decide) (yl_off (e := false) rfl rfl) ?_
    refine sx rfl (stp_pick_f (v := .bool false) rfl rfl ?_)
    refine sx rfl (stp_assign (v := .bool false) rfl ?_)
    refine sx_nil ?_
    refine wp_ret ?_; repeat (first | refine then_ret ?_ | refine blk_ret ?_)
    refine ret1 Tryd.results59 rfl ?_
    exact ⟨(congrArg (fun z => Ending.returned (.bool z)) (eqB_f (fun e => h13p (by rw [e]))).symm), st9.bare⟩
  · skip
    have h13p := of_decide_eq_true h13
    refine sx_on (j := 5) (dd := 10) rfl rfl (by decide) (yl_on (e := decide (x.kind = y.kind)) rfl h13) (stp_fieldAddr fa_Deed_1 rfl ?_)
    refine sx_on (j := 5) (dd := 10) rfl rfl (by decide) (yl_on (e := decide (x.kind = y.kind)) rfl h13) (stp_load_bx ld_int rfl rfl (st9.get 1 rfl) (i := 1) rfl rfl ?_)
    refine sx_on (j := 5) (dd := 10) rfl rfl (by decide) (yl_on (e := decide (x.kind = y.kind)) rfl h13) (stp_fieldAddr fa_Deed_1 rfl ?_)
    refine sx_on (j := 5) (dd := 10) rfl rfl (by decide) (yl_on (e := decide (x.kind = y.kind)) rfl h13) (stp_load_bx ld_int rfl rfl (st9.get 0 rfl) (i := 1) rfl rfl ?_)
    refine sx_on (j := 5) (dd := 10) rfl rfl (by decide) (yl_on (e := decide (x.kind = y.kind)) rfl h13) (stp_eql rfl rfl ?_)
    refine sx rfl (stp_pick_t (v := .bool (decide (x.run = y.run))) ((rfl : _ = (.bool (decide (x.kind = y.kind)) : Value)).trans (congrArg Value.bool h13)) rfl ?_)
    refine sx rfl (stp_move (v := .bool (decide (x.run = y.run))) rfl ?_)
    rcases bd (decide (x.run = y.run)) with h14 | h14
    · skip
      have h14p := of_decide_eq_false h14
      iterate 5 refine sx_off (j := 12) (dd := 17) rfl rfl (by decide) (yl_off (e := decide (x.run = y.run)) rfl h14) ?_
      refine sx rfl (stp_pick_f (v := .bool false) ((rfl : _ = (.bool (decide (x.run = y.run)) : Value)).trans (congrArg Value.bool h14)) rfl ?_)
      refine sx rfl (stp_move (v := .bool false) rfl ?_)
      iterate 5 refine sx_off (j := 19) (dd := 24) rfl rfl (by decide) (yl_off (e := false) rfl rfl) ?_
      refine sx rfl (stp_pick_f (v := .bool false) rfl rfl ?_)
      refine sx rfl (stp_move (v := .bool false) rfl ?_)
      iterate 5 refine sx_off (j := 26) (dd := 31) rfl rfl (by decide) (yl_off (e := false) rfl rfl) ?_
      refine sx rfl (stp_pick_f (v := .bool false) rfl rfl ?_)
      refine sx rfl (stp_move (v := .bool false) rfl ?_)
      iterate 5 refine sx_off (j := 33) (dd := 38) rfl rfl (by decide) (yl_off (e := false) rfl rfl) ?_
      refine sx rfl (stp_pick_f (v := .bool false) rfl rfl ?_)
      refine sx rfl (stp_move (v := .bool false) rfl ?_)
      iterate 5 refine sx_off (j := 40) (dd := 45) rfl rfl (by decide) (yl_off (e := false) rfl rfl) ?_
      refine sx rfl (stp_pick_f (v := .bool false) rfl rfl ?_)
      refine sx rfl (stp_assign (v := .bool false) rfl ?_)
      refine sx_nil ?_
      refine wp_ret ?_; repeat (first | refine then_ret ?_ | refine blk_ret ?_)
      refine ret1 Tryd.results59 rfl ?_
      exact ⟨(congrArg (fun z => Ending.returned (.bool z)) (eqB_f (fun e => h14p (by rw [e]))).symm), st9.bare⟩
    · skip
      have h14p := of_decide_eq_true h14
      refine sx_on (j := 12) (dd := 17) rfl rfl (by decide) (yl_on (e := decide (x.run = y.run)) rfl h14) (stp_fieldAddr fa_Deed_2 rfl ?_)
      refine sx_on (j := 12) (dd := 17) rfl rfl (by decide) (yl_on (e := decide (x.run = y.run)) rfl h14) (stp_load_bxs (cs := [I x.plan.prio, I x.plan.most, I x.plan.wait, I x.plan.tasks, v11_0]) ld_Plan rfl rfl (st9.get 1 rfl) rfl rfl ?_)
      refine sx_on (j := 12) (dd := 17) rfl rfl (by decide) (yl_on (e := decide (x.run = y.run)) rfl h14) (stp_fieldAddr fa_Deed_2 rfl ?_)
      refine sx_on (j := 12) (dd := 17) rfl rfl (by decide) (yl_on (e := decide (x.run = y.run)) rfl h14) (stp_load_bxs (cs := [I y.plan.prio, I y.plan.most, I y.plan.wait, I y.plan.tasks, v12_0]) ld_Plan rfl rfl (st9.get 0 rfl) rfl rfl ?_)
      refine sx_on (j := 12) (dd := 17) rfl rfl (by decide) (yl_on (e := decide (x.run = y.run)) rfl h14) (stp_call2 Tryd.func70 rfl rfl rfl ((samePlanI W7 (show Shape.C _ [I x.plan.prio, I x.plan.most, I x.plan.wait, I x.plan.tasks, v11_0] x.plan _ from ⟨_, _, rfl, (by simp only [Edge.ok, Plan.ok, Entry.ok, Task.ok, Run.ok, Yard.ok, Reply.ok, Deed.ok, Note.ok, Wait.ok, File.ok, Disk.ok, Engine.ok, WorldD.ok, ActD.ok, Hand.ok, Span.ok, Crew.ok, View.ok, I64] at *; omega), (h11_0.below st9.below), rfl⟩) (show Shape.C _ [I y.plan.prio, I y.plan.most, I y.plan.wait, I y.plan.tasks, v12_0] y.plan _ from ⟨_, _, rfl, (by simp only [Edge.ok, Plan.ok, Entry.ok, Task.ok, Run.ok, Yard.ok, Reply.ok, Deed.ok, Note.ok, Wait.ok, File.ok, Disk.ok, Engine.ok, WorldD.ok, ActD.ok, Hand.ok, Span.ok, Crew.ok, View.ok, I64] at *; omega), (h12_0.below st9.below), rfl⟩)).mono ?_)); rintro _ W15 ⟨rfl, hk16⟩; refine ⟨_, rfl, ?_⟩
      have st17 := St.call st9 hk16
      refine sx rfl (stp_pick_t (v := .bool (eqB x.plan y.plan)) ((rfl : _ = (.bool (decide (x.run = y.run)) : Value)).trans (congrArg Value.bool h14)) rfl ?_)
      refine sx rfl (stp_move (v := .bool (eqB x.plan y.plan)) rfl ?_)
      rcases bd (eqB x.plan y.plan) with h19 | h19
      · skip
        iterate 5 refine sx_off (j := 19) (dd := 24) rfl rfl (by decide) (yl_off (e := eqB x.plan y.plan) rfl h19) ?_
        refine sx rfl (stp_pick_f (v := .bool false) ((rfl : _ = (.bool (eqB x.plan y.plan) : Value)).trans (congrArg Value.bool h19)) rfl ?_)
        refine sx rfl (stp_move (v := .bool false) rfl ?_)
        iterate 5 refine sx_off (j := 26) (dd := 31) rfl rfl (by decide) (yl_off (e := false) rfl rfl) ?_
        refine sx rfl (stp_pick_f (v := .bool false) rfl rfl ?_)
        refine sx rfl (stp_move (v := .bool false) rfl ?_)
        iterate 5 refine sx_off (j := 33) (dd := 38) rfl rfl (by decide) (yl_off (e := false) rfl rfl) ?_
        refine sx rfl (stp_pick_f (v := .bool false) rfl rfl ?_)
        refine sx rfl (stp_move (v := .bool false) rfl ?_)
        iterate 5 refine sx_off (j := 40) (dd := 45) rfl rfl (by decide) (yl_off (e := false) rfl rfl) ?_
        refine sx rfl (stp_pick_f (v := .bool false) rfl rfl ?_)
        refine sx rfl (stp_assign (v := .bool false) rfl ?_)
        refine sx_nil ?_
        refine wp_ret ?_; repeat (first | refine then_ret ?_ | refine blk_ret ?_)
        refine ret1 Tryd.results59 rfl ?_
        exact ⟨(congrArg (fun z => Ending.returned (.bool z)) (eqB_f (fun e => absurd h19 (by rw [eqB_t (by rw [e])]; decide))).symm), st17.bare⟩
      · skip
        refine sx_on (j := 19) (dd := 24) rfl rfl (by decide) (yl_on (e := eqB x.plan y.plan) rfl h19) (stp_fieldAddr fa_Deed_3 rfl ?_)
        refine sx_on (j := 19) (dd := 24) rfl rfl (by decide) (yl_on (e := eqB x.plan y.plan) rfl h19) (stp_load_bx ld_int rfl rfl (st17.get 1 rfl) (i := 7) rfl rfl ?_)
        refine sx_on (j := 19) (dd := 24) rfl rfl (by decide) (yl_on (e := eqB x.plan y.plan) rfl h19) (stp_fieldAddr fa_Deed_3 rfl ?_)
        refine sx_on (j := 19) (dd := 24) rfl rfl (by decide) (yl_on (e := eqB x.plan y.plan) rfl h19) (stp_load_bx ld_int rfl rfl (st17.get 0 rfl) (i := 7) rfl rfl ?_)
        refine sx_on (j := 19) (dd := 24) rfl rfl (by decide) (yl_on (e := eqB x.plan y.plan) rfl h19) (stp_eql rfl rfl ?_)
        refine sx rfl (stp_pick_t (v := .bool (decide (x.task = y.task))) ((rfl : _ = (.bool (eqB x.plan y.plan) : Value)).trans (congrArg Value.bool h19)) rfl ?_)
        refine sx rfl (stp_move (v := .bool (decide (x.task = y.task))) rfl ?_)
        rcases bd (decide (x.task = y.task)) with h20 | h20
        · skip
          have h20p := of_decide_eq_false h20
          iterate 5 refine sx_off (j := 26) (dd := 31) rfl rfl (by decide) (yl_off (e := decide (x.task = y.task)) rfl h20) ?_
          refine sx rfl (stp_pick_f (v := .bool false) ((rfl : _ = (.bool (decide (x.task = y.task)) : Value)).trans (congrArg Value.bool h20)) rfl ?_)
          refine sx rfl (stp_move (v := .bool false) rfl ?_)
          iterate 5 refine sx_off (j := 33) (dd := 38) rfl rfl (by decide) (yl_off (e := false) rfl rfl) ?_
          refine sx rfl (stp_pick_f (v := .bool false) rfl rfl ?_)
          refine sx rfl (stp_move (v := .bool false) rfl ?_)
          iterate 5 refine sx_off (j := 40) (dd := 45) rfl rfl (by decide) (yl_off (e := false) rfl rfl) ?_
          refine sx rfl (stp_pick_f (v := .bool false) rfl rfl ?_)
          refine sx rfl (stp_assign (v := .bool false) rfl ?_)
          refine sx_nil ?_
          refine wp_ret ?_; repeat (first | refine then_ret ?_ | refine blk_ret ?_)
          refine ret1 Tryd.results59 rfl ?_
          exact ⟨(congrArg (fun z => Ending.returned (.bool z)) (eqB_f (fun e => h20p (by rw [e]))).symm), st17.bare⟩
        · skip
          have h20p := of_decide_eq_true h20
          refine sx_on (j := 26) (dd := 31) rfl rfl (by decide) (yl_on (e := decide (x.task = y.task)) rfl h20) (stp_fieldAddr fa_Deed_4 rfl ?_)
          refine sx_on (j := 26) (dd := 31) rfl rfl (by decide) (yl_on (e := decide (x.task = y.task)) rfl h20) (stp_load_bx ld_int rfl rfl (st17.get 1 rfl) (i := 8) rfl rfl ?_)
          refine sx_on (j := 26) (dd := 31) rfl rfl (by decide) (yl_on (e := decide (x.task = y.task)) rfl h20) (stp_fieldAddr fa_Deed_4 rfl ?_)
          refine sx_on (j := 26) (dd := 31) rfl rfl (by decide) (yl_on (e := decide (x.task = y.task)) rfl h20) (stp_load_bx ld_int rfl rfl (st17.get 0 rfl) (i := 8) rfl rfl ?_)
          refine sx_on (j := 26) (dd := 31) rfl rfl (by decide) (yl_on (e := decide (x.task = y.task)) rfl h20) (stp_eql rfl rfl ?_)
          refine sx rfl (stp_pick_t (v := .bool (decide (x.try_ = y.try_))) ((rfl : _ = (.bool (decide (x.task = y.task)) : Value)).trans (congrArg Value.bool h20)) rfl ?_)
          refine sx rfl (stp_move (v := .bool (decide (x.try_ = y.try_))) rfl ?_)
          rcases bd (decide (x.try_ = y.try_)) with h21 | h21
          · skip
            have h21p := of_decide_eq_false h21
            iterate 5 refine sx_off (j := 33) (dd := 38) rfl rfl (by decide) (yl_off (e := decide (x.try_ = y.try_)) rfl h21) ?_
            refine sx rfl (stp_pick_f (v := .bool false) ((rfl : _ = (.bool (decide (x.try_ = y.try_)) : Value)).trans (congrArg Value.bool h21)) rfl ?_)
            refine sx rfl (stp_move (v := .bool false) rfl ?_)
            iterate 5 refine sx_off (j := 40) (dd := 45) rfl rfl (by decide) (yl_off (e := false) rfl rfl) ?_
            refine sx rfl (stp_pick_f (v := .bool false) rfl rfl ?_)
            refine sx rfl (stp_assign (v := .bool false) rfl ?_)
            refine sx_nil ?_
            refine wp_ret ?_; repeat (first | refine then_ret ?_ | refine blk_ret ?_)
            refine ret1 Tryd.results59 rfl ?_
            exact ⟨(congrArg (fun z => Ending.returned (.bool z)) (eqB_f (fun e => h21p (by rw [e]))).symm), st17.bare⟩
          · skip
            have h21p := of_decide_eq_true h21
            refine sx_on (j := 33) (dd := 38) rfl rfl (by decide) (yl_on (e := decide (x.try_ = y.try_)) rfl h21) (stp_fieldAddr fa_Deed_5 rfl ?_)
            refine sx_on (j := 33) (dd := 38) rfl rfl (by decide) (yl_on (e := decide (x.try_ = y.try_)) rfl h21) (stp_load_bx ld_int rfl rfl (st17.get 1 rfl) (i := 9) rfl rfl ?_)
            refine sx_on (j := 33) (dd := 38) rfl rfl (by decide) (yl_on (e := decide (x.try_ = y.try_)) rfl h21) (stp_fieldAddr fa_Deed_5 rfl ?_)
            refine sx_on (j := 33) (dd := 38) rfl rfl (by decide) (yl_on (e := decide (x.try_ = y.try_)) rfl h21) (stp_load_bx ld_int rfl rfl (st17.get 0 rfl) (i := 9) rfl rfl ?_)
            refine sx_on (j := 33) (dd := 38) rfl rfl (by decide) (yl_on (e := decide (x.try_ = y.try_)) rfl h21) (stp_eql rfl rfl ?_)
            refine sx rfl (stp_pick_t (v := .bool (decide (x.worker = y.worker))) ((rfl : _ = (.bool (decide (x.try_ = y.try_)) : Value)).trans (congrArg Value.bool h21)) rfl ?_)
            refine sx rfl (stp_move (v := .bool (decide (x.worker = y.worker))) rfl ?_)
            rcases bd (decide (x.worker = y.worker)) with h22 | h22
            · skip
              have h22p := of_decide_eq_false h22
              iterate 5 refine sx_off (j := 40) (dd := 45) rfl rfl (by decide) (yl_off (e := decide (x.worker = y.worker)) rfl h22) ?_
              refine sx rfl (stp_pick_f (v := .bool false) ((rfl : _ = (.bool (decide (x.worker = y.worker)) : Value)).trans (congrArg Value.bool h22)) rfl ?_)
              refine sx rfl (stp_assign (v := .bool false) rfl ?_)
              refine sx_nil ?_
              refine wp_ret ?_; repeat (first | refine then_ret ?_ | refine blk_ret ?_)
              refine ret1 Tryd.results59 rfl ?_
              exact ⟨(congrArg (fun z => Ending.returned (.bool z)) (eqB_f (fun e => h22p (by rw [e]))).symm), st17.bare⟩
            · skip
              have h22p := of_decide_eq_true h22
              refine sx_on (j := 40) (dd := 45) rfl rfl (by decide) (yl_on (e := decide (x.worker = y.worker)) rfl h22) (stp_fieldAddr fa_Deed_6 rfl ?_)
              refine sx_on (j := 40) (dd := 45) rfl rfl (by decide) (yl_on (e := decide (x.worker = y.worker)) rfl h22) (stp_load_bx ld_int rfl rfl (st17.get 1 rfl) (i := 10) rfl rfl ?_)
              refine sx_on (j := 40) (dd := 45) rfl rfl (by decide) (yl_on (e := decide (x.worker = y.worker)) rfl h22) (stp_fieldAddr fa_Deed_6 rfl ?_)
              refine sx_on (j := 40) (dd := 45) rfl rfl (by decide) (yl_on (e := decide (x.worker = y.worker)) rfl h22) (stp_load_bx ld_int rfl rfl (st17.get 0 rfl) (i := 10) rfl rfl ?_)
              refine sx_on (j := 40) (dd := 45) rfl rfl (by decide) (yl_on (e := decide (x.worker = y.worker)) rfl h22) (stp_eql rfl rfl ?_)
              refine sx rfl (stp_pick_t (v := .bool (decide (x.draw = y.draw))) ((rfl : _ = (.bool (decide (x.worker = y.worker)) : Value)).trans (congrArg Value.bool h22)) rfl ?_)
              refine sx rfl (stp_assign (v := .bool (decide (x.draw = y.draw))) rfl ?_)
              refine sx_nil ?_
              rcases bd (decide (x.draw = y.draw)) with h23 | h23
              · skip
                have h23p := of_decide_eq_false h23
                refine wp_ret ?_; repeat (first | refine then_ret ?_ | refine blk_ret ?_)
                refine ret1 Tryd.results59 ((rfl : _ = (.bool (decide (x.draw = y.draw)) : Value)).trans (congrArg Value.bool h23)) ?_
                exact ⟨(congrArg (fun z => Ending.returned (.bool z)) (eqB_f (fun e => h23p (by rw [e]))).symm), st17.bare⟩
              · skip
                have h23p := of_decide_eq_true h23
                refine wp_ret ?_; repeat (first | refine then_ret ?_ | refine blk_ret ?_)
                refine ret1 Tryd.results59 ((rfl : _ = (.bool (decide (x.draw = y.draw)) : Value)).trans (congrArg Value.bool h23)) ?_
                exact ⟨(congrArg (fun z => Ending.returned (.bool z)) (eqB_t (Deed_ext h13p h14p (eqB_iff.1 h19) h20p h21p h22p h23p)).symm), st17.bare⟩
set_option maxHeartbeats 2000000 in
theorem usedOfI (w : World) {d : Deed} {cs : List Value} {fp : List Nat} (hc : Shape.C w cs d fp) :
    Calls Tryd.prog 60 #[.agg cs.toArray] w fun e w' => ∃ (cs' : List Value) (fp' : List Nat), e = .returned (.agg cs'.toArray) ∧ Shape.C w' cs' (usedD d) fp' ∧ St w w' [] := by
  refine enter1 Tryd.func60 rfl Tryd.ntmps60 (by decide) ?_
  refine wp_seq ?_
  refine sx_region ?_
  refine sx rfl (stp_box_agg (cs := cs) rfl (St.start w) ?_); intro b1 W2 hb3 st4
  refine sx rfl (stp_alloc zz_Deed st4 ?_); intro b6 W7 hb8 st9
  refine sx_nil ?_
  refine wp_seq ?_
  refine sx_region ?_
  refine sx rfl (stp_fieldAddr fa_Deed_0 rfl ?_)
  have hk11 := hc
  obtain ⟨v11_0, g11_0, rfl, hok11, h11_0, rfl⟩ := hk11
  refine sx rfl (stp_load_bx ld_int rfl rfl (st9.get 1 rfl) (i := 0) rfl rfl ?_)
  refine sx rfl (stp_build (vs := [(0, I d.kind)]) (cs := [I d.kind, I 0, I 0, I 0, I 0, I 0, .slice none 0 0, I 0, I 0, I 0, I 0]) (pcons (v := I d.kind) rfl pnil) (by kernel_rfl) ?_)
  refine sx rfl (stp_alloc zz_Deed st9 ?_); intro b12 W13 hb14 st15
  refine sx rfl (stp_store_agg (cs := [I d.kind, I 0, I 0, I 0, I 0, I 0, .slice none 0 0, I 0, I 0, I 0, I 0]) (C' := [I d.kind, I 0, I 0, I 0, I 0, I 0, .slice none 0 0, I 0, I 0, I 0, I 0]) (by kernel_rfl) rfl rfl (one_cons rfl (one_cons rfl (one_cons rfl (one_cons rfl (one_cons rfl (one_cons rfl (one_cons rfl (one_cons rfl (one_cons rfl (one_cons rfl (one_cons rfl one_nil))))))))))) st15 (Nat.le_of_ble_eq_true rfl) rfl ?_); intro W17 st18
  refine sx_nil ?_
  refine wp_seq ?_
  refine wp_seq ?_
  refine sx_region ?_
  refine sx rfl (stp_fieldAddr fa_Deed_0 rfl ?_)
  refine sx rfl (stp_load_bx ld_int rfl rfl (st18.get 2 rfl) (i := 0) rfl rfl ?_)
  refine sx_nil ?_
  refine wp_block ?_
  refine wp_seq ?_
  refine sx_region ?_
  refine sx rfl (stp_eql rfl rfl ?_)
  refine sx rfl (stp_assign (v := .bool (decide (d.kind = 1))) rfl ?_)
  refine sx_nil ?_
  refine sx_if rfl (fun h19 => ?_) (fun h19 => ?_)
  · skip
    have h19p := of_decide_eq_true h19
    refine sx_anyW 6 [5] (fun q => match q with | 0 => Res.bx b12 [I d.kind, I 0, I 0, I 0, I 0, I 0, .slice none 0 0, I 0, I 0, I 0, I 0] 50 | _ => Res.bx b12 [I d.kind, I d.run, I 0, I 0, I 0, I 0, .slice none 0 0, I 0, I 0, I 0, I 0] 50) [Pl.is (.pointer (some ⟨b1, 0 + 1, none⟩)), Pl.is (I d.run), Pl.is (.pointer (some ⟨b1, 0 + 2, none⟩)), Pl.is (.agg #[I d.plan.prio, I d.plan.most, I d.plan.wait, I d.plan.tasks, v11_0]), Pl.is (.pointer (some ⟨b12, 0 + 1, none⟩)), Pl.off] mix (by rfl) (by rfl) (by rfl) st18 ⟨fun _ _ _ h => h, fun _ _ _ h => h, fun _ _ _ h => h, fun _ _ _ h => h, fun _ _ _ h => h, fun _ _ _ h => h, trivial⟩ ⟨(fun f W r hst hd hf => stp_fieldAddr fa_Deed_1 ((hf 1 rfl).trans (show _ = (.pointer (some ⟨b1, 0, none⟩) : Value) from rfl)) ⟨hst, rfl⟩), (fun f W r hst hd hf => stp_load_bx ld_int rfl (hd 0 11 rfl rfl) (hst.get 2 rfl) (i := 1) rfl rfl ⟨hst, rfl⟩), (fun f W r hst hd hf => stp_fieldAddr fa_Deed_2 ((hf 1 rfl).trans (show _ = (.pointer (some ⟨b1, 0, none⟩) : Value) from rfl)) ⟨hst, rfl⟩), (fun f W r hst hd hf => stp_load_bxs (cs := [I d.plan.prio, I d.plan.most, I d.plan.wait, I d.plan.tasks, v11_0]) ld_Plan rfl (hd 2 13 rfl rfl) (hst.get 2 rfl) rfl rfl ⟨hst, rfl⟩), (fun f W r hst hd hf => stp_fieldAddr fa_Deed_1 ((hf 3 rfl).trans (show _ = (.pointer (some ⟨b12, 0, none⟩) : Value) from rfl)) ⟨hst, rfl⟩), (⟨rfl, fun f W hst hd hf => stp_store_one (v := I d.run) (C' := [I d.kind, I d.run, I 0, I 0, I 0, I 0, .slice none 0 0, I 0, I 0, I 0, I 0]) (by kernel_rfl) (hd 4 15 rfl rfl) (hd 1 12 rfl rfl) rfl rfl hst (Nat.le_of_ble_eq_true rfl) rfl (fun W2 st2 => ⟨st2, rfl⟩)⟩), trivial⟩ ?_
    intro f20 W21 st22 hv24 hf25
    refine sx rfl (stp_fieldAddr fa_Deed_2 ((hf25 3 rfl).trans (show _ = (.pointer (some ⟨b12, 0, none⟩) : Value) from rfl)) ?_)
    refine sx rfl (stp_store_agg (cs := [I d.plan.prio, I d.plan.most, I d.plan.wait, I d.plan.tasks, v11_0]) (C' := [I d.kind, I d.run, I d.plan.prio, I d.plan.most, I d.plan.wait, I d.plan.tasks, v11_0, I 0, I 0, I 0, I 0]) (by kernel_rfl) rfl (hv24 3 14 (by decide) rfl) (one_cons rfl (one_cons rfl (one_cons rfl (one_cons rfl (one_cons (Sl.one h11_0) one_nil))))) st22 (Nat.le_of_ble_eq_true rfl) rfl ?_); intro W26 st27
    refine sx_nil ?_
    refine wp_seq ?_
    refine sx_region ?_
    refine sx rfl (stp_load_bxs (cs := [I d.kind, I d.run, I d.plan.prio, I d.plan.most, I d.plan.wait, I d.plan.tasks, v11_0, I 0, I 0, I 0, I 0]) ld_Deed rfl ((hf25 3 rfl).trans (show _ = (.pointer (some ⟨b12, 0, none⟩) : Value) from rfl)) (st27.get 0 rfl) rfl rfl ?_)
    have st28 := st27.f1
    refine sx rfl (stp_store_agg (cs := [I d.kind, I d.run, I d.plan.prio, I d.plan.most, I d.plan.wait, I d.plan.tasks, v11_0, I 0, I 0, I 0, I 0]) (C' := [I d.kind, I d.run, I d.plan.prio, I d.plan.most, I d.plan.wait, I d.plan.tasks, v11_0, I 0, I 0, I 0, I 0]) (by kernel_rfl) ((hf25 2 rfl).trans (show _ = (.pointer (some ⟨b6, 0, none⟩) : Value) from rfl)) rfl (one_cons rfl (one_cons rfl (one_cons rfl (one_cons rfl (one_cons rfl (one_cons rfl (one_cons (Sl.one h11_0) (one_cons rfl (one_cons rfl (one_cons rfl (one_cons rfl one_nil))))))))))) st28 (Nat.le_of_ble_eq_true rfl) rfl ?_); intro W29 st30
    refine sx_nil ?_
    refine wp_ret ?_; repeat (first | refine then_ret ?_ | refine blk_ret ?_)
    refine retc1 ld_Deed rfl Tryd.results60 ((hf25 2 rfl).trans (show _ = (.pointer (some ⟨b6, 0, none⟩) : Value) from rfl)) (st30.get 0 rfl) rfl ?_
    have hx : usedD d = (⟨d.kind, d.run, ⟨d.plan.prio, d.plan.most, d.plan.wait, d.plan.tasks, d.plan.edges⟩, 0, 0, 0, 0⟩ : Deed) := by simp [usedD, zP, h19p]
    rw [hx]
    exact ⟨_, _, rfl, (show Shape.C _ [I d.kind, I d.run, I d.plan.prio, I d.plan.most, I d.plan.wait, I d.plan.tasks, v11_0, I 0, I 0, I 0, I 0] (⟨d.kind, d.run, ⟨d.plan.prio, d.plan.most, d.plan.wait, d.plan.tasks, d.plan.edges⟩, 0, 0, 0, 0⟩ : Deed) _ from ⟨_, _, rfl, (by simp only [Edge.ok, Plan.ok, Entry.ok, Task.ok, Run.ok, Yard.ok, Reply.ok, Deed.ok, Note.ok, Wait.ok, File.ok, Disk.ok, Engine.ok, WorldD.ok, ActD.ok, Hand.ok, Span.ok, Crew.ok, View.ok, I64] at *; omega), (h11_0.below st30.below), rfl⟩), st30.bare⟩
  · skip
    have h19p := of_decide_eq_false h19
    refine wp_seq ?_
    refine sx_region ?_
    refine sx rfl (stp_eql rfl rfl ?_)
    refine sx rfl (stp_assign (v := .bool (decide (d.kind = 2))) rfl ?_)
    refine sx_nil ?_
    refine sx_if rfl (fun h31 => ?_) (fun h31 => ?_)
    · skip
      have h31p := of_decide_eq_true h31
      refine sx_anyW 6 [5] (fun q => match q with | 0 => Res.bx b12 [I d.kind, I 0, I 0, I 0, I 0, I 0, .slice none 0 0, I 0, I 0, I 0, I 0] 50 | _ => Res.bx b12 [I d.kind, I 0, I 0, I 0, I 0, I 0, .slice none 0 0, I 0, I 0, I d.worker, I 0] 50) [Pl.is (.pointer (some ⟨b1, 0 + 9, none⟩)), Pl.is (I d.worker), Pl.is (.pointer (some ⟨b1, 0 + 10, none⟩)), Pl.is (I d.draw), Pl.is (.pointer (some ⟨b12, 0 + 9, none⟩)), Pl.off] mix (by rfl) (by rfl) (by rfl) st18 ⟨fun _ _ _ h => h, fun _ _ _ h => h, fun _ _ _ h => h, fun _ _ _ h => h, fun _ _ _ h => h, fun _ _ _ h => h, trivial⟩ ⟨(fun f W r hst hd hf => stp_fieldAddr fa_Deed_5 ((hf 1 rfl).trans (show _ = (.pointer (some ⟨b1, 0, none⟩) : Value) from rfl)) ⟨hst, rfl⟩), (fun f W r hst hd hf => stp_load_bx ld_int rfl (hd 0 19 rfl rfl) (hst.get 2 rfl) (i := 9) rfl rfl ⟨hst, rfl⟩), (fun f W r hst hd hf => stp_fieldAddr fa_Deed_6 ((hf 1 rfl).trans (show _ = (.pointer (some ⟨b1, 0, none⟩) : Value) from rfl)) ⟨hst, rfl⟩), (fun f W r hst hd hf => stp_load_bx ld_int rfl (hd 2 21 rfl rfl) (hst.get 2 rfl) (i := 10) rfl rfl ⟨hst, rfl⟩), (fun f W r hst hd hf => stp_fieldAddr fa_Deed_5 ((hf 3 rfl).trans (show _ = (.pointer (some ⟨b12, 0, none⟩) : Value) from rfl)) ⟨hst, rfl⟩), (⟨rfl, fun f W hst hd hf => stp_store_one (v := I d.worker) (C' := [I d.kind, I 0, I 0, I 0, I 0, I 0, .slice none 0 0, I 0, I 0, I d.worker, I 0]) (by kernel_rfl) (hd 4 23 rfl rfl) (hd 1 20 rfl rfl) rfl rfl hst (Nat.le_of_ble_eq_true rfl) rfl (fun W2 st2 => ⟨st2, rfl⟩)⟩), trivial⟩ ?_
      intro f32 W33 st34 hv36 hf37
      refine sx rfl (stp_fieldAddr fa_Deed_6 ((hf37 3 rfl).trans (show _ = (.pointer (some ⟨b12, 0, none⟩) : Value) from rfl)) ?_)
      refine sx rfl (stp_store_one (v := I d.draw) (C' := [I d.kind, I 0, I 0, I 0, I 0, I 0, .slice none 0 0, I 0, I 0, I d.worker, I d.draw]) (by kernel_rfl) rfl (hv36 3 22 (by decide) rfl) rfl rfl st34 (Nat.le_of_ble_eq_true rfl) rfl ?_); intro W38 st39
      refine sx_nil ?_
      refine wp_seq ?_
      refine sx_region ?_
      refine sx rfl (stp_load_bxs (cs := [I d.kind, I 0, I 0, I 0, I 0, I 0, .slice none 0 0, I 0, I 0, I d.worker, I d.draw]) ld_Deed rfl ((hf37 3 rfl).trans (show _ = (.pointer (some ⟨b12, 0, none⟩) : Value) from rfl)) (st39.get 0 rfl) rfl rfl ?_)
      have st40 := st39.f1
      refine sx rfl (stp_store_agg (cs := [I d.kind, I 0, I 0, I 0, I 0, I 0, .slice none 0 0, I 0, I 0, I d.worker, I d.draw]) (C' := [I d.kind, I 0, I 0, I 0, I 0, I 0, .slice none 0 0, I 0, I 0, I d.worker, I d.draw]) (by kernel_rfl) ((hf37 2 rfl).trans (show _ = (.pointer (some ⟨b6, 0, none⟩) : Value) from rfl)) rfl (one_cons rfl (one_cons rfl (one_cons rfl (one_cons rfl (one_cons rfl (one_cons rfl (one_cons rfl (one_cons rfl (one_cons rfl (one_cons rfl (one_cons rfl one_nil))))))))))) st40 (Nat.le_of_ble_eq_true rfl) rfl ?_); intro W41 st42
      refine sx_nil ?_
      refine wp_ret ?_; repeat (first | refine then_ret ?_ | refine blk_ret ?_)
      refine retc1 ld_Deed rfl Tryd.results60 ((hf37 2 rfl).trans (show _ = (.pointer (some ⟨b6, 0, none⟩) : Value) from rfl)) (st42.get 0 rfl) rfl ?_
      have hx : usedD d = (⟨d.kind, 0, ⟨0, 0, 0, 0, []⟩, 0, 0, d.worker, d.draw⟩ : Deed) := by simp [usedD, zP, h19p, h31p]
      rw [hx]
      exact ⟨_, _, rfl, (show Shape.C _ [I d.kind, I 0, I 0, I 0, I 0, I 0, .slice none 0 0, I 0, I 0, I d.worker, I d.draw] (⟨d.kind, 0, ⟨0, 0, 0, 0, []⟩, 0, 0, d.worker, d.draw⟩ : Deed) _ from ⟨_, _, rfl, (by simp only [Edge.ok, Plan.ok, Entry.ok, Task.ok, Run.ok, Yard.ok, Reply.ok, Deed.ok, Note.ok, Wait.ok, File.ok, Disk.ok, Engine.ok, WorldD.ok, ActD.ok, Hand.ok, Span.ok, Crew.ok, View.ok, I64] at *; omega), nil_Sl, rfl⟩), st42.bare⟩
    · skip
      have h31p := of_decide_eq_false h31
      refine wp_seq ?_
      refine wp_seq ?_
      refine sx_region ?_
      refine sx rfl (stp_eql rfl rfl ?_)
      refine sx rfl (stp_assign (v := .bool (decide (d.kind = 3))) rfl ?_)
      refine sx_nil ?_
      refine sx_if rfl (fun h43 => ?_) (fun h43 => ?_)
      · skip
        have h43p := of_decide_eq_true h43
        refine wp_skip ?_
        refine sx_t rfl h43 ?_
        refine sx_anyW 10 [7, 9] (fun q => match q with | 0 => Res.bx b12 [I d.kind, I 0, I 0, I 0, I 0, I 0, .slice none 0 0, I 0, I 0, I 0, I 0] 50 | 1 => Res.bx b12 [I d.kind, I d.run, I 0, I 0, I 0, I 0, .slice none 0 0, I 0, I 0, I 0, I 0] 50 | _ => Res.bx b12 [I d.kind, I d.run, I 0, I 0, I 0, I 0, .slice none 0 0, I d.task, I 0, I 0, I 0] 50) [Pl.is (.pointer (some ⟨b1, 0 + 1, none⟩)), Pl.is (I d.run), Pl.is (.pointer (some ⟨b1, 0 + 7, none⟩)), Pl.is (I d.task), Pl.is (.pointer (some ⟨b1, 0 + 8, none⟩)), Pl.is (I d.try_), Pl.is (.pointer (some ⟨b12, 0 + 1, none⟩)), Pl.off, Pl.is (.pointer (some ⟨b12, 0 + 7, none⟩)), Pl.off] mix (by rfl) (by rfl) (by rfl) st18 ⟨fun _ _ _ h => h, fun _ _ _ h => h, fun _ _ _ h => h, fun _ _ _ h => h, fun _ _ _ h => h, fun _ _ _ h => h, fun _ _ _ h => h, fun _ _ _ h => h, fun _ _ _ h => h, fun _ _ _ h => h, trivial⟩ ⟨(fun f W r hst hd hf => stp_fieldAddr fa_Deed_1 ((hf 1 rfl).trans (show _ = (.pointer (some ⟨b1, 0, none⟩) : Value) from rfl)) ⟨hst, rfl⟩), (fun f W r hst hd hf => stp_load_bx ld_int rfl (hd 0 28 rfl rfl) (hst.get 2 rfl) (i := 1) rfl rfl ⟨hst, rfl⟩), (fun f W r hst hd hf => stp_fieldAddr fa_Deed_3 ((hf 1 rfl).trans (show _ = (.pointer (some ⟨b1, 0, none⟩) : Value) from rfl)) ⟨hst, rfl⟩), (fun f W r hst hd hf => stp_load_bx ld_int rfl (hd 2 30 rfl rfl) (hst.get 2 rfl) (i := 7) rfl rfl ⟨hst, rfl⟩), (fun f W r hst hd hf => stp_fieldAddr fa_Deed_4 ((hf 1 rfl).trans (show _ = (.pointer (some ⟨b1, 0, none⟩) : Value) from rfl)) ⟨hst, rfl⟩), (fun f W r hst hd hf => stp_load_bx ld_int rfl (hd 4 32 rfl rfl) (hst.get 2 rfl) (i := 8) rfl rfl ⟨hst, rfl⟩), (fun f W r hst hd hf => stp_fieldAddr fa_Deed_1 ((hf 3 rfl).trans (show _ = (.pointer (some ⟨b12, 0, none⟩) : Value) from rfl)) ⟨hst, rfl⟩), (⟨rfl, fun f W hst hd hf => stp_store_one (v := I d.run) (C' := [I d.kind, I d.run, I 0, I 0, I 0, I 0, .slice none 0 0, I 0, I 0, I 0, I 0]) (by kernel_rfl) (hd 6 34 rfl rfl) (hd 1 29 rfl rfl) rfl rfl hst (Nat.le_of_ble_eq_true rfl) rfl (fun W2 st2 => ⟨st2, rfl⟩)⟩), (fun f W r hst hd hf => stp_fieldAddr fa_Deed_3 ((hf 3 rfl).trans (show _ = (.pointer (some ⟨b12, 0, none⟩) : Value) from rfl)) ⟨hst, rfl⟩), (⟨rfl, fun f W hst hd hf => stp_store_one (v := I d.task) (C' := [I d.kind, I d.run, I 0, I 0, I 0, I 0, .slice none 0 0, I d.task, I 0, I 0, I 0]) (by kernel_rfl) (hd 8 35 rfl rfl) (hd 3 31 rfl rfl) rfl rfl hst (Nat.le_of_ble_eq_true rfl) rfl (fun W2 st2 => ⟨st2, rfl⟩)⟩), trivial⟩ ?_
        intro f44 W45 st46 hv48 hf49
        refine sx rfl (stp_fieldAddr fa_Deed_4 ((hf49 3 rfl).trans (show _ = (.pointer (some ⟨b12, 0, none⟩) : Value) from rfl)) ?_)
        refine sx rfl (stp_store_one (v := I d.try_) (C' := [I d.kind, I d.run, I 0, I 0, I 0, I 0, .slice none 0 0, I d.task, I d.try_, I 0, I 0]) (by kernel_rfl) rfl (hv48 5 33 (by decide) rfl) rfl rfl st46 (Nat.le_of_ble_eq_true rfl) rfl ?_); intro W50 st51
        refine sx_nil ?_
        refine wp_seq ?_
        refine sx_region ?_
        refine sx rfl (stp_load_bxs (cs := [I d.kind, I d.run, I 0, I 0, I 0, I 0, .slice none 0 0, I d.task, I d.try_, I 0, I 0]) ld_Deed rfl ((hf49 3 rfl).trans (show _ = (.pointer (some ⟨b12, 0, none⟩) : Value) from rfl)) (st51.get 0 rfl) rfl rfl ?_)
        have st52 := st51.f1
        refine sx rfl (stp_store_agg (cs := [I d.kind, I d.run, I 0, I 0, I 0, I 0, .slice none 0 0, I d.task, I d.try_, I 0, I 0]) (C' := [I d.kind, I d.run, I 0, I 0, I 0, I 0, .slice none 0 0, I d.task, I d.try_, I 0, I 0]) (by kernel_rfl) ((hf49 2 rfl).trans (show _ = (.pointer (some ⟨b6, 0, none⟩) : Value) from rfl)) rfl (one_cons rfl (one_cons rfl (one_cons rfl (one_cons rfl (one_cons rfl (one_cons rfl (one_cons rfl (one_cons rfl (one_cons rfl (one_cons rfl (one_cons rfl one_nil))))))))))) st52 (Nat.le_of_ble_eq_true rfl) rfl ?_); intro W53 st54
        refine sx_nil ?_
        refine wp_ret ?_; repeat (first | refine then_ret ?_ | refine blk_ret ?_)
        refine retc1 ld_Deed rfl Tryd.results60 ((hf49 2 rfl).trans (show _ = (.pointer (some ⟨b6, 0, none⟩) : Value) from rfl)) (st54.get 0 rfl) rfl ?_
        have hx : usedD d = (⟨d.kind, d.run, ⟨0, 0, 0, 0, []⟩, d.task, d.try_, 0, 0⟩ : Deed) := by simp [usedD, zP, h19p, h31p, h43p]
        rw [hx]
        exact ⟨_, _, rfl, (show Shape.C _ [I d.kind, I d.run, I 0, I 0, I 0, I 0, .slice none 0 0, I d.task, I d.try_, I 0, I 0] (⟨d.kind, d.run, ⟨0, 0, 0, 0, []⟩, d.task, d.try_, 0, 0⟩ : Deed) _ from ⟨_, _, rfl, (by simp only [Edge.ok, Plan.ok, Entry.ok, Task.ok, Run.ok, Yard.ok, Reply.ok, Deed.ok, Note.ok, Wait.ok, File.ok, Disk.ok, Engine.ok, WorldD.ok, ActD.ok, Hand.ok, Span.ok, Crew.ok, View.ok, I64] at *; omega), nil_Sl, rfl⟩), st54.bare⟩
      · skip
        have h43p := of_decide_eq_false h43
        refine sx_region ?_
        refine sx rfl (stp_eql rfl rfl ?_)
        refine sx rfl (stp_assign (v := .bool (decide (d.kind = 4))) rfl ?_)
        refine sx_nil ?_
        refine sx_if rfl (fun h55 => ?_) (fun h55 => ?_)
        · skip
          have h55p := of_decide_eq_true h55
          refine sx_anyW 10 [7, 9] (fun q => match q with | 0 => Res.bx b12 [I d.kind, I 0, I 0, I 0, I 0, I 0, .slice none 0 0, I 0, I 0, I 0, I 0] 50 | 1 => Res.bx b12 [I d.kind, I d.run, I 0, I 0, I 0, I 0, .slice none 0 0, I 0, I 0, I 0, I 0] 50 | _ => Res.bx b12 [I d.kind, I d.run, I 0, I 0, I 0, I 0, .slice none 0 0, I d.task, I 0, I 0, I 0] 50) [Pl.is (.pointer (some ⟨b1, 0 + 1, none⟩)), Pl.is (I d.run), Pl.is (.pointer (some ⟨b1, 0 + 7, none⟩)), Pl.is (I d.task), Pl.is (.pointer (some ⟨b1, 0 + 8, none⟩)), Pl.is (I d.try_), Pl.is (.pointer (some ⟨b12, 0 + 1, none⟩)), Pl.off, Pl.is (.pointer (some ⟨b12, 0 + 7, none⟩)), Pl.off] mix (by rfl) (by rfl) (by rfl) st18 ⟨fun _ _ _ h => h, fun _ _ _ h => h, fun _ _ _ h => h, fun _ _ _ h => h, fun _ _ _ h => h, fun _ _ _ h => h, fun _ _ _ h => h, fun _ _ _ h => h, fun _ _ _ h => h, fun _ _ _ h => h, trivial⟩ ⟨(fun f W r hst hd hf => stp_fieldAddr fa_Deed_1 ((hf 1 rfl).trans (show _ = (.pointer (some ⟨b1, 0, none⟩) : Value) from rfl)) ⟨hst, rfl⟩), (fun f W r hst hd hf => stp_load_bx ld_int rfl (hd 0 28 rfl rfl) (hst.get 2 rfl) (i := 1) rfl rfl ⟨hst, rfl⟩), (fun f W r hst hd hf => stp_fieldAddr fa_Deed_3 ((hf 1 rfl).trans (show _ = (.pointer (some ⟨b1, 0, none⟩) : Value) from rfl)) ⟨hst, rfl⟩), (fun f W r hst hd hf => stp_load_bx ld_int rfl (hd 2 30 rfl rfl) (hst.get 2 rfl) (i := 7) rfl rfl ⟨hst, rfl⟩), (fun f W r hst hd hf => stp_fieldAddr fa_Deed_4 ((hf 1 rfl).trans (show _ = (.pointer (some ⟨b1, 0, none⟩) : Value) from rfl)) ⟨hst, rfl⟩), (fun f W r hst hd hf => stp_load_bx ld_int rfl (hd 4 32 rfl rfl) (hst.get 2 rfl) (i := 8) rfl rfl ⟨hst, rfl⟩), (fun f W r hst hd hf => stp_fieldAddr fa_Deed_1 ((hf 3 rfl).trans (show _ = (.pointer (some ⟨b12, 0, none⟩) : Value) from rfl)) ⟨hst, rfl⟩), (⟨rfl, fun f W hst hd hf => stp_store_one (v := I d.run) (C' := [I d.kind, I d.run, I 0, I 0, I 0, I 0, .slice none 0 0, I 0, I 0, I 0, I 0]) (by kernel_rfl) (hd 6 34 rfl rfl) (hd 1 29 rfl rfl) rfl rfl hst (Nat.le_of_ble_eq_true rfl) rfl (fun W2 st2 => ⟨st2, rfl⟩)⟩), (fun f W r hst hd hf => stp_fieldAddr fa_Deed_3 ((hf 3 rfl).trans (show _ = (.pointer (some ⟨b12, 0, none⟩) : Value) from rfl)) ⟨hst, rfl⟩), (⟨rfl, fun f W hst hd hf => stp_store_one (v := I d.task) (C' := [I d.kind, I d.run, I 0, I 0, I 0, I 0, .slice none 0 0, I d.task, I 0, I 0, I 0]) (by kernel_rfl) (hd 8 35 rfl rfl) (hd 3 31 rfl rfl) rfl rfl hst (Nat.le_of_ble_eq_true rfl) rfl (fun W2 st2 => ⟨st2, rfl⟩)⟩), trivial⟩ ?_
          intro f56 W57 st58 hv60 hf61
          refine sx rfl (stp_fieldAddr fa_Deed_4 ((hf61 3 rfl).trans (show _ = (.pointer (some ⟨b12, 0, none⟩) : Value) from rfl)) ?_)
          refine sx rfl (stp_store_one (v := I d.try_) (C' := [I d.kind, I d.run, I 0, I 0, I 0, I 0, .slice none 0 0, I d.task, I d.try_, I 0, I 0]) (by kernel_rfl) rfl (hv60 5 33 (by decide) rfl) rfl rfl st58 (Nat.le_of_ble_eq_true rfl) rfl ?_); intro W62 st63
          refine sx_nil ?_
          refine wp_seq ?_
          refine sx_region ?_
          refine sx rfl (stp_load_bxs (cs := [I d.kind, I d.run, I 0, I 0, I 0, I 0, .slice none 0 0, I d.task, I d.try_, I 0, I 0]) ld_Deed rfl ((hf61 3 rfl).trans (show _ = (.pointer (some ⟨b12, 0, none⟩) : Value) from rfl)) (st63.get 0 rfl) rfl rfl ?_)
          have st64 := st63.f1
          refine sx rfl (stp_store_agg (cs := [I d.kind, I d.run, I 0, I 0, I 0, I 0, .slice none 0 0, I d.task, I d.try_, I 0, I 0]) (C' := [I d.kind, I d.run, I 0, I 0, I 0, I 0, .slice none 0 0, I d.task, I d.try_, I 0, I 0]) (by kernel_rfl) ((hf61 2 rfl).trans (show _ = (.pointer (some ⟨b6, 0, none⟩) : Value) from rfl)) rfl (one_cons rfl (one_cons rfl (one_cons rfl (one_cons rfl (one_cons rfl (one_cons rfl (one_cons rfl (one_cons rfl (one_cons rfl (one_cons rfl (one_cons rfl one_nil))))))))))) st64 (Nat.le_of_ble_eq_true rfl) rfl ?_); intro W65 st66
          refine sx_nil ?_
          refine wp_ret ?_; repeat (first | refine then_ret ?_ | refine blk_ret ?_)
          refine retc1 ld_Deed rfl Tryd.results60 ((hf61 2 rfl).trans (show _ = (.pointer (some ⟨b6, 0, none⟩) : Value) from rfl)) (st66.get 0 rfl) rfl ?_
          have hx : usedD d = (⟨d.kind, d.run, ⟨0, 0, 0, 0, []⟩, d.task, d.try_, 0, 0⟩ : Deed) := by simp [usedD, zP, h19p, h31p, h43p, h55p]
          rw [hx]
          exact ⟨_, _, rfl, (show Shape.C _ [I d.kind, I d.run, I 0, I 0, I 0, I 0, .slice none 0 0, I d.task, I d.try_, I 0, I 0] (⟨d.kind, d.run, ⟨0, 0, 0, 0, []⟩, d.task, d.try_, 0, 0⟩ : Deed) _ from ⟨_, _, rfl, (by simp only [Edge.ok, Plan.ok, Entry.ok, Task.ok, Run.ok, Yard.ok, Reply.ok, Deed.ok, Note.ok, Wait.ok, File.ok, Disk.ok, Engine.ok, WorldD.ok, ActD.ok, Hand.ok, Span.ok, Crew.ok, View.ok, I64] at *; omega), nil_Sl, rfl⟩), st66.bare⟩
        · skip
          have h55p := of_decide_eq_false h55
          refine wp_seq ?_
          refine wp_seq ?_
          refine sx_region ?_
          refine sx rfl (stp_eql rfl rfl ?_)
          refine sx rfl (stp_assign (v := .bool (decide (d.kind = 6))) rfl ?_)
          refine sx_nil ?_
          refine sx_if rfl (fun h67 => ?_) (fun h67 => ?_)
          · skip
            have h67p := of_decide_eq_true h67
            refine wp_skip ?_
            refine sx_t rfl h67 ?_
            refine sx_region ?_
            refine sx rfl (stp_fieldAddr fa_Deed_1 rfl ?_)
            refine sx rfl (stp_load_bx ld_int rfl rfl (st18.get 2 rfl) (i := 1) rfl rfl ?_)
            refine sx rfl (stp_fieldAddr fa_Deed_1 rfl ?_)
            refine sx rfl (stp_store_one (v := I d.run) (C' := [I d.kind, I d.run, I 0, I 0, I 0, I 0, .slice none 0 0, I 0, I 0, I 0, I 0]) (by kernel_rfl) rfl rfl rfl rfl st18 (Nat.le_of_ble_eq_true rfl) rfl ?_); intro W68 st69
            refine sx_nil ?_
            refine wp_seq ?_
            refine sx_region ?_
            refine sx rfl (stp_load_bxs (cs := [I d.kind, I d.run, I 0, I 0, I 0, I 0, .slice none 0 0, I 0, I 0, I 0, I 0]) ld_Deed rfl rfl (st69.get 0 rfl) rfl rfl ?_)
            have st70 := st69.f1
            refine sx rfl (stp_store_agg (cs := [I d.kind, I d.run, I 0, I 0, I 0, I 0, .slice none 0 0, I 0, I 0, I 0, I 0]) (C' := [I d.kind, I d.run, I 0, I 0, I 0, I 0, .slice none 0 0, I 0, I 0, I 0, I 0]) (by kernel_rfl) rfl rfl (one_cons rfl (one_cons rfl (one_cons rfl (one_cons rfl (one_cons rfl (one_cons rfl (one_cons rfl (one_cons rfl (one_cons rfl (one_cons rfl (one_cons rfl one_nil))))))))))) st70 (Nat.le_of_ble_eq_true rfl) rfl ?_); intro W71 st72
            refine sx_nil ?_
            refine wp_ret ?_; repeat (first | refine then_ret ?_ | refine blk_ret ?_)
            refine retc1 ld_Deed rfl Tryd.results60 rfl (st72.get 0 rfl) rfl ?_
            have hx : usedD d = (⟨d.kind, d.run, ⟨0, 0, 0, 0, []⟩, 0, 0, 0, 0⟩ : Deed) := by simp [usedD, zP, h19p, h31p, h43p, h55p, h67p]
            rw [hx]
            exact ⟨_, _, rfl, (show Shape.C _ [I d.kind, I d.run, I 0, I 0, I 0, I 0, .slice none 0 0, I 0, I 0, I 0, I 0] (⟨d.kind, d.run, ⟨0, 0, 0, 0, []⟩, 0, 0, 0, 0⟩ : Deed) _ from ⟨_, _, rfl, (by simp only [Edge.ok, Plan.ok, Entry.ok, Task.ok, Run.ok, Yard.ok, Reply.ok, Deed.ok, Note.ok, Wait.ok, File.ok, Disk.ok, Engine.ok, WorldD.ok, ActD.ok, Hand.ok, Span.ok, Crew.ok, View.ok, I64] at *; omega), nil_Sl, rfl⟩), st72.bare⟩
          · skip
            have h67p := of_decide_eq_false h67
            refine sx_region ?_
            refine sx rfl (stp_eql rfl rfl ?_)
            refine sx rfl (stp_assign (v := .bool (decide (d.kind = 7))) rfl ?_)
            refine sx_nil ?_
            refine sx_if rfl (fun h73 => ?_) (fun h73 => ?_)
            · skip
              have h73p := of_decide_eq_true h73
              refine sx_region ?_
              refine sx rfl (stp_fieldAddr fa_Deed_1 rfl ?_)
              refine sx rfl (stp_load_bx ld_int rfl rfl (st18.get 2 rfl) (i := 1) rfl rfl ?_)
              refine sx rfl (stp_fieldAddr fa_Deed_1 rfl ?_)
              refine sx rfl (stp_store_one (v := I d.run) (C' := [I d.kind, I d.run, I 0, I 0, I 0, I 0, .slice none 0 0, I 0, I 0, I 0, I 0]) (by kernel_rfl) rfl rfl rfl rfl st18 (Nat.le_of_ble_eq_true rfl) rfl ?_); intro W74 st75
              refine sx_nil ?_
              refine wp_seq ?_
              refine sx_region ?_
              refine sx rfl (stp_load_bxs (cs := [I d.kind, I d.run, I 0, I 0, I 0, I 0, .slice none 0 0, I 0, I 0, I 0, I 0]) ld_Deed rfl rfl (st75.get 0 rfl) rfl rfl ?_)
              have st76 := st75.f1
              refine sx rfl (stp_store_agg (cs := [I d.kind, I d.run, I 0, I 0, I 0, I 0, .slice none 0 0, I 0, I 0, I 0, I 0]) (C' := [I d.kind, I d.run, I 0, I 0, I 0, I 0, .slice none 0 0, I 0, I 0, I 0, I 0]) (by kernel_rfl) rfl rfl (one_cons rfl (one_cons rfl (one_cons rfl (one_cons rfl (one_cons rfl (one_cons rfl (one_cons rfl (one_cons rfl (one_cons rfl (one_cons rfl (one_cons rfl one_nil))))))))))) st76 (Nat.le_of_ble_eq_true rfl) rfl ?_); intro W77 st78
              refine sx_nil ?_
              refine wp_ret ?_; repeat (first | refine then_ret ?_ | refine blk_ret ?_)
              refine retc1 ld_Deed rfl Tryd.results60 rfl (st78.get 0 rfl) rfl ?_
              have hx : usedD d = (⟨d.kind, d.run, ⟨0, 0, 0, 0, []⟩, 0, 0, 0, 0⟩ : Deed) := by simp [usedD, zP, h19p, h31p, h43p, h55p, h67p, h73p]
              rw [hx]
              exact ⟨_, _, rfl, (show Shape.C _ [I d.kind, I d.run, I 0, I 0, I 0, I 0, .slice none 0 0, I 0, I 0, I 0, I 0] (⟨d.kind, d.run, ⟨0, 0, 0, 0, []⟩, 0, 0, 0, 0⟩ : Deed) _ from ⟨_, _, rfl, (by simp only [Edge.ok, Plan.ok, Entry.ok, Task.ok, Run.ok, Yard.ok, Reply.ok, Deed.ok, Note.ok, Wait.ok, File.ok, Disk.ok, Engine.ok, WorldD.ok, ActD.ok, Hand.ok, Span.ok, Crew.ok, View.ok, I64] at *; omega), nil_Sl, rfl⟩), st78.bare⟩
            · skip
              have h73p := of_decide_eq_false h73
              refine wp_skip ?_
              refine wp_seq ?_
              refine sx_region ?_
              refine sx rfl (stp_load_bxs (cs := [I d.kind, I 0, I 0, I 0, I 0, I 0, .slice none 0 0, I 0, I 0, I 0, I 0]) ld_Deed rfl rfl (st18.get 0 rfl) rfl rfl ?_)
              have st79 := st18.f1
              refine sx rfl (stp_store_agg (cs := [I d.kind, I 0, I 0, I 0, I 0, I 0, .slice none 0 0, I 0, I 0, I 0, I 0]) (C' := [I d.kind, I 0, I 0, I 0, I 0, I 0, .slice none 0 0, I 0, I 0, I 0, I 0]) (by kernel_rfl) rfl rfl (one_cons rfl (one_cons rfl (one_cons rfl (one_cons rfl (one_cons rfl (one_cons rfl (one_cons rfl (one_cons rfl (one_cons rfl (one_cons rfl (one_cons rfl one_nil))))))))))) st79 (Nat.le_of_ble_eq_true rfl) rfl ?_); intro W80 st81
              refine sx_nil ?_
              refine wp_ret ?_; repeat (first | refine then_ret ?_ | refine blk_ret ?_)
              refine retc1 ld_Deed rfl Tryd.results60 rfl (st81.get 0 rfl) rfl ?_
              have hx : usedD d = (⟨d.kind, 0, ⟨0, 0, 0, 0, []⟩, 0, 0, 0, 0⟩ : Deed) := by simp [usedD, zP, h19p, h31p, h43p, h55p, h67p, h73p]
              rw [hx]
              exact ⟨_, _, rfl, (show Shape.C _ [I d.kind, I 0, I 0, I 0, I 0, I 0, .slice none 0 0, I 0, I 0, I 0, I 0] (⟨d.kind, 0, ⟨0, 0, 0, 0, []⟩, 0, 0, 0, 0⟩ : Deed) _ from ⟨_, _, rfl, (by simp only [Edge.ok, Plan.ok, Entry.ok, Task.ok, Run.ok, Yard.ok, Reply.ok, Deed.ok, Note.ok, Wait.ok, File.ok, Disk.ok, Engine.ok, WorldD.ok, ActD.ok, Hand.ok, Span.ok, Crew.ok, View.ok, I64] at *; omega), nil_Sl, rfl⟩), st81.bare⟩
set_option maxHeartbeats 2000000 in
theorem deedNumsI (w : World) {d : Deed} {cs : List Value} {fp : List Nat} (hc : Shape.C w cs d fp) (hl : d.plan.edges.length ≤ 1048576) :
    Calls Tryd.prog 38 #[.agg cs.toArray] w fun e w' => ∃ v fp', e = .returned v ∧ St w w' [Res.own v (deedNums d) fp'] := by
  refine enter1 Tryd.func38 rfl Tryd.ntmps38 (by decide) ?_
  refine wp_seq ?_
  refine sx_region ?_
  refine sx rfl (stp_box_agg (cs := cs) rfl (St.start w) ?_); intro b1 W2 hb3 st4
  refine sx rfl (stp_assign (v := .slice none 0 0) rfl ?_)
  refine sx_nil ?_
  refine wp_seq ?_
  refine wp_seq ?_
  refine sx_region ?_
  refine sx rfl (stp_fieldAddr fa_Deed_0 rfl ?_)
  have hk6 := hc
  obtain ⟨v6_0, g6_0, rfl, hok6, h6_0, rfl⟩ := hk6
  refine sx rfl (stp_load_bx ld_int rfl rfl (st4.get 0 rfl) (i := 0) rfl rfl ?_)
  refine sx_nil ?_
  refine wp_block ?_
  refine wp_seq ?_
  refine sx_region ?_
  refine sx rfl (stp_eql rfl rfl ?_)
  refine sx rfl (stp_assign (v := .bool (decide (d.kind = 1))) rfl ?_)
  refine sx_nil ?_
  refine sx_if rfl (fun h7 => ?_) (fun h7 => ?_)
  · skip
    have h7p := of_decide_eq_true h7
    refine wp_seq ?_
    refine sx_region ?_
    refine sx rfl (stp_fieldAddr fa_Deed_1 rfl ?_)
    refine sx rfl (stp_load_bx ld_int rfl rfl (st4.get 0 rfl) (i := 1) rfl rfl ?_)
    refine sx rfl (stp_fieldAddr fa_Deed_2 rfl ?_)
    refine sx rfl (stp_fieldAddr fa_Plan_0 rfl ?_)
    refine sx rfl (stp_load_bx ld_int rfl rfl (st4.get 0 rfl) (i := 2) rfl rfl ?_)
    refine sx rfl (stp_fieldAddr fa_Deed_2 rfl ?_)
    refine sx rfl (stp_fieldAddr fa_Plan_1 rfl ?_)
    refine sx rfl (stp_load_bx ld_int rfl rfl (st4.get 0 rfl) (i := 3) rfl rfl ?_)
    refine sx rfl (stp_fieldAddr fa_Deed_2 rfl ?_)
    refine sx rfl (stp_fieldAddr fa_Plan_2 rfl ?_)
    refine sx rfl (stp_load_bx ld_int rfl rfl (st4.get 0 rfl) (i := 4) rfl rfl ?_)
    refine sx rfl (stp_fieldAddr fa_Deed_2 rfl ?_)
    refine sx rfl (stp_fieldAddr fa_Plan_3 rfl ?_)
    refine sx rfl (stp_load_bx ld_int rfl rfl (st4.get 0 rfl) (i := 5) rfl rfl ?_)
    refine sx rfl (stp_fieldAddr fa_Deed_2 rfl ?_)
    refine sx rfl (stp_fieldAddr fa_Plan_4 rfl ?_)
    refine sx rfl (stp_load_bx ld_EdgeS rfl rfl (st4.get 0 rfl) (i := 6) rfl rfl ?_)
    refine sx rfl (stp_len sl_EdgeS rfl h6_0 ?_)
    refine sx rfl (stp_buildSlice (cs := [I d.run, I d.plan.prio, I d.plan.most, I d.plan.wait, I d.plan.tasks, I (d.plan.edges.length : Int)]) (e := 3) (pcons (v := I d.run) rfl (pcons (v := I d.plan.prio) rfl (pcons (v := I d.plan.most) rfl (pcons (v := I d.plan.wait) rfl (pcons (v := I d.plan.tasks) rfl (pcons (v := I (d.plan.edges.length : Int)) rfl pnil)))))) (run_buildSliceN ap_IntS _ rfl (lc_cons rfl (lc_cons rfl (lc_cons rfl (lc_cons rfl (lc_cons rfl (lc_cons rfl lc_nil))))))) st4 ?_); intro b8 W9 hb10 st11
    refine sx rfl (stp_assign (v := .slice (some ⟨b8, 0, none⟩) 6 6) rfl ?_)
    refine sx_nil ?_
    refine wp_seq ?_
    refine wp_seq ?_
    refine sx_region ?_
    refine sx rfl (stp_fieldAddr fa_Deed_2 rfl ?_)
    refine sx rfl (stp_fieldAddr fa_Plan_4 rfl ?_)
    refine sx rfl (stp_load_bx ld_EdgeS rfl rfl (st11.get 1 rfl) (i := 6) rfl rfl ?_)
    have st13 := St.row_lit (α := Int) (ys := [d.run, d.plan.prio, d.plan.most, d.plan.wait, d.plan.tasks, (d.plan.edges.length : Int)]) st11 rfl (Nat.le_of_ble_eq_true rfl) (Elems.ic (by simp only [Deed.ok, Plan.ok, I64] at *; omega) (Elems.ic (by simp only [Deed.ok, Plan.ok, I64] at *; omega) (Elems.ic (by simp only [Deed.ok, Plan.ok, I64] at *; omega) (Elems.ic (by simp only [Deed.ok, Plan.ok, I64] at *; omega) (Elems.ic (by simp only [Deed.ok, Plan.ok, I64] at *; omega) (Elems.ic (by simp only [Deed.ok, Plan.ok, I64] at *; omega) Elems.i0))))))
    skip
    refine sx rfl (stp_len sl_EdgeS rfl h6_0 ?_)
    refine sx rfl (stp_move (v := I 0) rfl ?_)
    refine sx_nil ?_
    refine wp_block ?_
    refine sx_loop (fun (m : Nat) (f : Nat → Value) (W : World) => ∃ (k : Nat) (v14 : Value), k ≤ d.plan.edges.length ∧ m = d.plan.edges.length - k ∧ f 3 = v14 ∧ f 31 = v6_0 ∧ f 32 = I (d.plan.edges.length : Int) ∧ f 33 = I (k : Int) ∧ St w W ([Res.row (α := Int) 3 v14 ([d.run, d.plan.prio, d.plan.most, d.plan.wait, d.plan.tasks, (d.plan.edges.length : Int)] ++ edgeNums (d.plan.edges.take k)) [], Res.bx b1 [I d.kind, I d.run, I d.plan.prio, I d.plan.most, I d.plan.wait, I d.plan.tasks, v6_0, I d.task, I d.try_, I d.worker, I d.draw] 50])) (d.plan.edges.length - 0) ?_ ?_
    · exact ⟨0, (.slice (some ⟨b8, 0, none⟩) 6 6), (by first | omega | simp), rfl, rfl, rfl, rfl, rfl, (by simpa [edgeNums] using st13)⟩
    intro m15 f16 W17 hJ18
    obtain ⟨k, v14, hcd20_0, rfl, hs20_3, hs20_31, hs20_32, hs20_33, st19⟩ := hJ18
    have henl : (edgeNums (d.plan.edges.take k)).length = 2 * k := by rw [edgeNums_len, List.length_take]; omega
    have hll : ([d.run, d.plan.prio, d.plan.most, d.plan.wait, d.plan.tasks, (d.plan.edges.length : Int)] ++ edgeNums (d.plan.edges.take k)).length = 6 + 2 * k := by rw [List.length_append, henl]; rfl
    refine wp_seq ?_
    refine sx_region ?_
    refine sx rfl (stp_lss hs20_33 hs20_32 ?_)
    refine sx_nil ?_
    refine wp_seq ?_
    refine sx_if rfl (fun h21 => ?_) (fun h21 => ?_)
    · skip
      have h21p := of_decide_eq_true h21
      refine wp_skip ?_
      refine wp_seq ?_
      refine wp_block ?_
      refine wp_seq ?_
      refine sx_region ?_
      have hi86a04 : k < d.plan.edges.length := (by omega)
      have hq_ := idx h6_0 (i := k) hi86a04
      obtain ⟨b22, o22, cs22, f22, hp22, hr22, hc22, hm22⟩ := hq_
      refine sx rfl (stp_indexAddr sl_EdgeS hs20_31 hp22 hs20_33 rfl ?_)
      refine sx rfl (stp_load_rga ld_Edge rfl rfl hr22 st19.below (Shape.len hc22) ?_)
      refine sx rfl (stp_alloc zz_Edge st19 ?_); intro b23 W24 hb25 st26
      refine sx rfl (stp_store_all (cs := cs22) ld_Edge hc22 rfl rfl st26 rfl ?_); intro W28 st29
      refine sx_nil ?_
      refine sx_region ?_
      refine sx rfl (stp_move (v := v14) hs20_3 ?_)
      refine sx rfl (stp_fieldAddr fa_Edge_0 rfl ?_)
      have hk30 := hc22
      obtain ⟨he30, rfl, hok30⟩ := hk30
      have he30 : _ = [I (d.plan.edges[k]'hi86a04).from_, I (d.plan.edges[k]'hi86a04).to_] := he30
      subst he30
      refine sx rfl (stp_load_bx ld_int rfl rfl (st29.get 0 rfl) (i := 0) rfl rfl ?_)
      refine sx rfl (stp_fieldAddr fa_Edge_1 rfl ?_)
      refine sx rfl (stp_load_bx ld_int rfl rfl (st29.get 0 rfl) (i := 1) rfl rfl ?_)
      refine sx rfl (stp_buildSlice (cs := [I (d.plan.edges[k]'hi86a04).from_, I (d.plan.edges[k]'hi86a04).to_]) (e := 3) (pcons (v := I (d.plan.edges[k]'hi86a04).from_) rfl (pcons (v := I (d.plan.edges[k]'hi86a04).to_) rfl pnil)) (run_buildSliceN ap_IntS _ rfl (lc_cons rfl (lc_cons rfl lc_nil))) st29 ?_); intro b31 W32 hb33 st34
      have st36 := st34.f2
      refine sx rfl (stp_append_bx (ys := [(d.plan.edges[k]'hi86a04).from_, (d.plan.edges[k]'hi86a04).to_]) ap_IntS rfl rfl rfl st36 (Elems.ic (by simp only [Edge.ok, I64] at *; omega) (Elems.ic (by simp only [Edge.ok, I64] at *; omega) Elems.i0)) (by rw [hll]; unfold maxLen; omega) (by rw [hll]; omega) ?_); intro v37 W38 st39
      refine sx rfl (stp_assign (v := v37) rfl ?_)
      refine sx_nil ?_
      refine sx_region ?_
      refine sx rfl (stp_add hs20_33 rfl (by (simp only [I64] at *; omega)) ?_)
      refine sx rfl (stp_move (v := I ((k : Int) + 1)) rfl ?_)
      refine sx_nil ?_
      have st40 := st39.f2
      have st41 := st40.f1
      have st42 := st41.d2
      exact ⟨_, d.plan.edges.length - (k + 1), (by omega), rfl, k + 1, v37, (by omega), rfl, rfl, hs20_31, hs20_32, rfl, (by rw [edgeNums_s (by omega), ← List.append_assoc]; exact st42)⟩
    · skip
      have h21p := of_decide_eq_false h21
      refine wp_exit ?_
      refine wp_seq ?_
      refine sx_region ?_
      refine sx rfl (stp_move (v := v14) hs20_3 ?_)
      refine sx rfl (stp_assign (v := v14) rfl ?_)
      refine sx_nil ?_
      refine wp_ret ?_; repeat (first | refine then_ret ?_ | refine blk_ret ?_)
      refine ret1 Tryd.results38 rfl ?_
      obtain rfl : k = d.plan.edges.length := by omega
      rw [List.take_length] at st19
      have hx : deedNums d = [d.run, d.plan.prio, d.plan.most, d.plan.wait, d.plan.tasks, (d.plan.edges.length : Int)] ++ edgeNums d.plan.edges := by simp [deedNums, h7p]
      rw [hx]
      have hq_ := st19.shut
      obtain ⟨fpz, stz⟩ := hq_
      exact ⟨_, fpz, rfl, stz.only 0 rfl⟩
  · skip
    have h7p := of_decide_eq_false h7
    refine wp_seq ?_
    refine sx_region ?_
    refine sx rfl (stp_eql rfl rfl ?_)
    refine sx rfl (stp_assign (v := .bool (decide (d.kind = 2))) rfl ?_)
    refine sx_nil ?_
    refine sx_if rfl (fun h43 => ?_) (fun h43 => ?_)
    · skip
      have h43p := of_decide_eq_true h43
      refine wp_seq ?_
      refine sx_region ?_
      refine sx rfl (stp_fieldAddr fa_Deed_5 rfl ?_)
      refine sx rfl (stp_load_bx ld_int rfl rfl (st4.get 0 rfl) (i := 9) rfl rfl ?_)
      refine sx rfl (stp_fieldAddr fa_Deed_6 rfl ?_)
      refine sx rfl (stp_load_bx ld_int rfl rfl (st4.get 0 rfl) (i := 10) rfl rfl ?_)
      refine sx rfl (stp_buildSlice (cs := [I d.worker, I d.draw]) (e := 3) (pcons (v := I d.worker) rfl (pcons (v := I d.draw) rfl pnil)) (run_buildSliceN ap_IntS _ rfl (lc_cons rfl (lc_cons rfl lc_nil))) st4 ?_); intro b44 W45 hb46 st47
      refine sx rfl (stp_assign (v := .slice (some ⟨b44, 0, none⟩) 2 2) rfl ?_)
      refine sx_nil ?_
      refine wp_ret ?_; repeat (first | refine then_ret ?_ | refine blk_ret ?_)
      refine ret1 Tryd.results38 rfl ?_
      have st49 := St.row_lit (α := Int) (ys := [d.worker, d.draw]) st47 rfl (Nat.le_of_ble_eq_true rfl) (Elems.ic (by simp only [Deed.ok, Plan.ok, I64] at *; omega) (Elems.ic (by simp only [Deed.ok, Plan.ok, I64] at *; omega) Elems.i0))
      have hx : deedNums d = [d.worker, d.draw] := by simp [deedNums, h7p, h43p]
      rw [hx]
      have hq_ := st49.shut
      obtain ⟨fpz, stz⟩ := hq_
      exact ⟨_, fpz, rfl, stz.only 0 rfl⟩
    · skip
      have h43p := of_decide_eq_false h43
      refine wp_seq ?_
      refine wp_seq ?_
      refine sx_region ?_
      refine sx rfl (stp_eql rfl rfl ?_)
      refine sx rfl (stp_assign (v := .bool (decide (d.kind = 3))) rfl ?_)
      refine sx_nil ?_
      refine sx_if rfl (fun h50 => ?_) (fun h50 => ?_)
      · skip
        have h50p := of_decide_eq_true h50
        refine wp_skip ?_
        refine sx_t rfl h50 ?_
        refine wp_seq ?_
        refine sx_region ?_
        refine sx rfl (stp_fieldAddr fa_Deed_1 rfl ?_)
        refine sx rfl (stp_load_bx ld_int rfl rfl (st4.get 0 rfl) (i := 1) rfl rfl ?_)
        refine sx rfl (stp_fieldAddr fa_Deed_3 rfl ?_)
        refine sx rfl (stp_load_bx ld_int rfl rfl (st4.get 0 rfl) (i := 7) rfl rfl ?_)
        refine sx rfl (stp_fieldAddr fa_Deed_4 rfl ?_)
        refine sx rfl (stp_load_bx ld_int rfl rfl (st4.get 0 rfl) (i := 8) rfl rfl ?_)
        refine sx rfl (stp_buildSlice (cs := [I d.run, I d.task, I d.try_]) (e := 3) (pcons (v := I d.run) rfl (pcons (v := I d.task) rfl (pcons (v := I d.try_) rfl pnil))) (run_buildSliceN ap_IntS _ rfl (lc_cons rfl (lc_cons rfl (lc_cons rfl lc_nil)))) st4 ?_); intro b51 W52 hb53 st54
        refine sx rfl (stp_assign (v := .slice (some ⟨b51, 0, none⟩) 3 3) rfl ?_)
        refine sx_nil ?_
        refine wp_ret ?_; repeat (first | refine then_ret ?_ | refine blk_ret ?_)
        refine ret1 Tryd.results38 rfl ?_
        have st56 := St.row_lit (α := Int) (ys := [d.run, d.task, d.try_]) st54 rfl (Nat.le_of_ble_eq_true rfl) (Elems.ic (by simp only [Deed.ok, Plan.ok, I64] at *; omega) (Elems.ic (by simp only [Deed.ok, Plan.ok, I64] at *; omega) (Elems.ic (by simp only [Deed.ok, Plan.ok, I64] at *; omega) Elems.i0)))
        have hx : deedNums d = [d.run, d.task, d.try_] := by simp [deedNums, h7p, h43p, h50p]
        rw [hx]
        have hq_ := st56.shut
        obtain ⟨fpz, stz⟩ := hq_
        exact ⟨_, fpz, rfl, stz.only 0 rfl⟩
      · skip
        have h50p := of_decide_eq_false h50
        refine sx_region ?_
        refine sx rfl (stp_eql rfl rfl ?_)
        refine sx rfl (stp_assign (v := .bool (decide (d.kind = 4))) rfl ?_)
        refine sx_nil ?_
        refine sx_if rfl (fun h57 => ?_) (fun h57 => ?_)
        · skip
          have h57p := of_decide_eq_true h57
          refine wp_seq ?_
          refine sx_region ?_
          refine sx rfl (stp_fieldAddr fa_Deed_1 rfl ?_)
          refine sx rfl (stp_load_bx ld_int rfl rfl (st4.get 0 rfl) (i := 1) rfl rfl ?_)
          refine sx rfl (stp_fieldAddr fa_Deed_3 rfl ?_)
          refine sx rfl (stp_load_bx ld_int rfl rfl (st4.get 0 rfl) (i := 7) rfl rfl ?_)
          refine sx rfl (stp_fieldAddr fa_Deed_4 rfl ?_)
          refine sx rfl (stp_load_bx ld_int rfl rfl (st4.get 0 rfl) (i := 8) rfl rfl ?_)
          refine sx rfl (stp_buildSlice (cs := [I d.run, I d.task, I d.try_]) (e := 3) (pcons (v := I d.run) rfl (pcons (v := I d.task) rfl (pcons (v := I d.try_) rfl pnil))) (run_buildSliceN ap_IntS _ rfl (lc_cons rfl (lc_cons rfl (lc_cons rfl lc_nil)))) st4 ?_); intro b58 W59 hb60 st61
          refine sx rfl (stp_assign (v := .slice (some ⟨b58, 0, none⟩) 3 3) rfl ?_)
          refine sx_nil ?_
          refine wp_ret ?_; repeat (first | refine then_ret ?_ | refine blk_ret ?_)
          refine ret1 Tryd.results38 rfl ?_
          have st63 := St.row_lit (α := Int) (ys := [d.run, d.task, d.try_]) st61 rfl (Nat.le_of_ble_eq_true rfl) (Elems.ic (by simp only [Deed.ok, Plan.ok, I64] at *; omega) (Elems.ic (by simp only [Deed.ok, Plan.ok, I64] at *; omega) (Elems.ic (by simp only [Deed.ok, Plan.ok, I64] at *; omega) Elems.i0)))
          have hx : deedNums d = [d.run, d.task, d.try_] := by simp [deedNums, h7p, h43p, h50p, h57p]
          rw [hx]
          have hq_ := st63.shut
          obtain ⟨fpz, stz⟩ := hq_
          exact ⟨_, fpz, rfl, stz.only 0 rfl⟩
        · skip
          have h57p := of_decide_eq_false h57
          refine wp_seq ?_
          refine wp_seq ?_
          refine sx_region ?_
          refine sx rfl (stp_eql rfl rfl ?_)
          refine sx rfl (stp_assign (v := .bool (decide (d.kind = 6))) rfl ?_)
          refine sx_nil ?_
          refine sx_if rfl (fun h64 => ?_) (fun h64 => ?_)
          · skip
            have h64p := of_decide_eq_true h64
            refine wp_skip ?_
            refine sx_t rfl h64 ?_
            refine wp_seq ?_
            refine sx_region ?_
            refine sx rfl (stp_fieldAddr fa_Deed_1 rfl ?_)
            refine sx rfl (stp_load_bx ld_int rfl rfl (st4.get 0 rfl) (i := 1) rfl rfl ?_)
            refine sx rfl (stp_buildSlice (cs := [I d.run]) (e := 3) (pcons (v := I d.run) rfl pnil) (run_buildSlice1 ap_IntS _ _ rfl rfl (by decide)) st4 ?_); intro b65 W66 hb67 st68
            refine sx rfl (stp_assign (v := .slice (some ⟨b65, 0, none⟩) 1 1) rfl ?_)
            refine sx_nil ?_
            refine wp_ret ?_; repeat (first | refine then_ret ?_ | refine blk_ret ?_)
            refine ret1 Tryd.results38 rfl ?_
            have st70 := St.row_lit (α := Int) (ys := [d.run]) st68 rfl (Nat.le_of_ble_eq_true rfl) (Elems.ic (by simp only [Deed.ok, Plan.ok, I64] at *; omega) Elems.i0)
            have hx : deedNums d = [d.run] := by simp [deedNums, h7p, h43p, h50p, h57p, h64p]
            rw [hx]
            have hq_ := st70.shut
            obtain ⟨fpz, stz⟩ := hq_
            exact ⟨_, fpz, rfl, stz.only 0 rfl⟩
          · skip
            have h64p := of_decide_eq_false h64
            refine sx_region ?_
            refine sx rfl (stp_eql rfl rfl ?_)
            refine sx rfl (stp_assign (v := .bool (decide (d.kind = 7))) rfl ?_)
            refine sx_nil ?_
            refine sx_if rfl (fun h71 => ?_) (fun h71 => ?_)
            · skip
              have h71p := of_decide_eq_true h71
              refine wp_seq ?_
              refine sx_region ?_
              refine sx rfl (stp_fieldAddr fa_Deed_1 rfl ?_)
              refine sx rfl (stp_load_bx ld_int rfl rfl (st4.get 0 rfl) (i := 1) rfl rfl ?_)
              refine sx rfl (stp_buildSlice (cs := [I d.run]) (e := 3) (pcons (v := I d.run) rfl pnil) (run_buildSlice1 ap_IntS _ _ rfl rfl (by decide)) st4 ?_); intro b72 W73 hb74 st75
              refine sx rfl (stp_assign (v := .slice (some ⟨b72, 0, none⟩) 1 1) rfl ?_)
              refine sx_nil ?_
              refine wp_ret ?_; repeat (first | refine then_ret ?_ | refine blk_ret ?_)
              refine ret1 Tryd.results38 rfl ?_
              have st77 := St.row_lit (α := Int) (ys := [d.run]) st75 rfl (Nat.le_of_ble_eq_true rfl) (Elems.ic (by simp only [Deed.ok, Plan.ok, I64] at *; omega) Elems.i0)
              have hx : deedNums d = [d.run] := by simp [deedNums, h7p, h43p, h50p, h57p, h64p, h71p]
              rw [hx]
              have hq_ := st77.shut
              obtain ⟨fpz, stz⟩ := hq_
              exact ⟨_, fpz, rfl, stz.only 0 rfl⟩
            · skip
              have h71p := of_decide_eq_false h71
              refine wp_skip ?_
              refine wp_seq ?_
              refine sx_region ?_
              refine sx rfl (stp_assign (v := .slice none 0 0) rfl ?_)
              refine sx_nil ?_
              refine wp_ret ?_; repeat (first | refine then_ret ?_ | refine blk_ret ?_)
              refine ret1 Tryd.results38 rfl ?_
              have st78 := st4.row_nil (α := Int) 3
              have hx : deedNums d = [] := by simp [deedNums, h7p, h43p, h50p, h57p, h64p, h71p]
              rw [hx]
              have hq_ := st78.shut
              obtain ⟨fpz, stz⟩ := hq_
              exact ⟨_, fpz, rfl, stz.only 0 rfl⟩
set_option maxHeartbeats 2000000 in
theorem DeedOkI (w : World) {d : Deed} {cs : List Value} {fp : List Nat} (hc : Shape.C w cs d fp) :
    Calls Tryd.prog 36 #[.agg cs.toArray] w fun e w' => e = .returned (.bool (deedOk d)) ∧ St w w' [] := by
  refine enter1 Tryd.func36 rfl Tryd.ntmps36 (by decide) ?_
  refine wp_seq ?_
  refine sx_region ?_
  refine sx rfl (stp_box_agg (cs := cs) rfl (St.start w) ?_); intro b1 W2 hb3 st4
  refine sx rfl (stp_assign (v := .bool false) rfl ?_)
  refine sx_nil ?_
  refine wp_seq ?_
  refine wp_seq ?_
  have hk6 := hc
  obtain ⟨v6_0, g6_0, rfl, hok6, h6_0, rfl⟩ := hk6
  rcases bd (!(inB d.kind 1 8)) with h7 | h7
  · skip
    have h7p := inB_iff'.1 (bnot_f h7)
    rcases bd (decide (31 < (d.plan.edges.length : Int))) with h8 | h8
    · skip
      have h8p := of_decide_eq_false h8
      refine sx_any [Pl.is (.pointer (some ⟨b1, 0 + 0, none⟩)), Pl.is (I d.kind), Pl.bool (inB d.kind 1 8), Pl.bool false, Pl.bool false, Pl.is (.pointer (some ⟨b1, 0 + 2, none⟩)), Pl.is (.pointer (some ⟨b1, 0 + 2 + 4, none⟩)), Pl.is (v6_0) (Sl.yl h6_0), Pl.is (I (d.plan.edges.length : Int)), Pl.bool false, Pl.bool false, Pl.bool false, Pl.is (.agg #[I d.kind, I d.run, I d.plan.prio, I d.plan.most, I d.plan.wait, I d.plan.tasks, v6_0, I d.task, I d.try_, I d.worker, I d.draw]), Pl.is (.agg #[I d.kind, I d.run, I d.plan.prio, I d.plan.most, I d.plan.wait, I d.plan.tasks, v6_0, I d.task, I d.try_, I d.worker, I d.draw]), Pl.sval (α := Deed) (usedD d), Pl.bool (eqB d (usedD d)), Pl.bool (!(eqB d (usedD d))), Pl.bool (!(eqB d (usedD d)))] mix (by rfl) st4 ⟨(fun f W hst hbl hd hf => stp_fieldAddr fa_Deed_0 ((hf 1 rfl).trans (show _ = (.pointer (some ⟨b1, 0, none⟩) : Value) from rfl)) ⟨Below.refl _ _, rfl⟩), (fun f W hst hbl hd hf => stp_load_bx ld_int rfl (hd 0 5 rfl rfl) (hst.get 0 rfl) (i := 0) rfl rfl ⟨Below.refl _ _, rfl⟩), (fun f W hst hbl hd hf => stp_call3 Tryd.func53 rfl (hd 1 6 rfl rfl) rfl rfl ((within_n W d.kind 1 8).mono (by rintro e W2 ⟨rfl, hk⟩; exact ⟨_, rfl, hk.below, rfl⟩))), (fun f W hst hbl hd hf => stp_not (hd 2 7 rfl rfl) ⟨Below.refl _ _, congrArg Value.bool h7⟩), (fun f W hst hbl hd hf => stp_move (v := .bool false) (hd 3 8 rfl rfl) ⟨Below.refl _ _, rfl⟩), (fun f W hst hbl hd hf => stp_fieldAddr fa_Deed_2 ((hf 1 rfl).trans (show _ = (.pointer (some ⟨b1, 0, none⟩) : Value) from rfl)) ⟨Below.refl _ _, rfl⟩), (fun f W hst hbl hd hf => stp_fieldAddr fa_Plan_4 (hd 5 10 rfl rfl) ⟨Below.refl _ _, rfl⟩), (fun f W hst hbl hd hf => stp_load_bx ld_EdgeS rfl (hd 6 11 rfl rfl) (hst.get 0 rfl) (i := 6) rfl rfl ⟨Below.refl _ _, rfl⟩), (fun f W hst hbl hd hf => stp_len sl_EdgeS (hd 7 12 rfl rfl) h6_0 ⟨Below.refl _ _, rfl⟩), (fun f W hst hbl hd hf => stp_gtr (hd 8 13 rfl rfl) rfl ⟨Below.refl _ _, congrArg Value.bool h8⟩), (fun f W hst hbl hd hf => stp_pick_f (v := .bool false) (hd 4 9 rfl rfl) (hd 9 14 rfl rfl) ⟨Below.refl _ _, rfl⟩), (fun f W hst hbl hd hf => stp_move (v := .bool false) (hd 10 15 rfl rfl) ⟨Below.refl _ _, rfl⟩), (fun f W hst hbl hd hf => stp_load_bxs (cs := [I d.kind, I d.run, I d.plan.prio, I d.plan.most, I d.plan.wait, I d.plan.tasks, v6_0, I d.task, I d.try_, I d.worker, I d.draw]) ld_Deed rfl ((hf 1 rfl).trans (show _ = (.pointer (some ⟨b1, 0, none⟩) : Value) from rfl)) (hst.get 0 rfl) rfl rfl ⟨Below.refl _ _, rfl⟩), (fun f W hst hbl hd hf => stp_load_bxs (cs := [I d.kind, I d.run, I d.plan.prio, I d.plan.most, I d.plan.wait, I d.plan.tasks, v6_0, I d.task, I d.try_, I d.worker, I d.draw]) ld_Deed rfl ((hf 1 rfl).trans (show _ = (.pointer (some ⟨b1, 0, none⟩) : Value) from rfl)) (hst.get 0 rfl) rfl rfl ⟨Below.refl _ _, rfl⟩), (fun f W hst hbl hd hf => stp_call1 Tryd.func60 rfl (hd 13 18 rfl rfl) ((usedOfI W (C_below hc hst.below)).mono (by rintro e W2 ⟨cs, fp, rfl, hc, hk⟩; exact ⟨_, rfl, hk.below, fp, cs, rfl, hc⟩))), (fun f W hst hbl hd hf => by obtain ⟨fp10, cs10, e10, hc10⟩ := hd 14 19 rfl rfl; exact stp_call2 Tryd.func59 rfl (hd 12 17 rfl rfl) e10 ((sameDeedI W (C_below hc hst.below) hc10).mono (by rintro e W2 ⟨rfl, hk⟩; exact ⟨_, rfl, hk.below, rfl⟩))), (fun f W hst hbl hd hf => stp_not (hd 15 20 rfl rfl) ⟨Below.refl _ _, rfl⟩), (fun f W hst hbl hd hf => stp_pick_f (v := .bool (!(eqB d (usedD d)))) (hd 11 16 rfl rfl) (hd 16 21 rfl rfl) ⟨Below.refl _ _, rfl⟩), trivial⟩ ?_
      intro f11 W12 st13 hb14 hv15 hf16
      refine sx_if (hv15 17 22 (by decide) rfl) (fun h17 => ?_) (fun h17 => ?_)
      · skip
        refine wp_seq ?_
        refine sx_region ?_
        refine sx rfl (stp_assign (v := .bool false) rfl ?_)
        refine sx_nil ?_
        refine wp_ret ?_; repeat (first | refine then_ret ?_ | refine blk_ret ?_)
        refine ret1 Tryd.results36 rfl ?_
        exact ⟨(congrArg (fun z => Ending.returned (.bool z)) (by unfold deedOk; rw [bnot_t h17]; simp)), st13.bare⟩
      · skip
        refine wp_skip ?_
        refine wp_seq ?_
        refine wp_seq ?_
        refine sx_region ?_
        refine sx rfl (stp_load_bxs (cs := [I d.kind, I d.run, I d.plan.prio, I d.plan.most, I d.plan.wait, I d.plan.tasks, v6_0, I d.task, I d.try_, I d.worker, I d.draw]) ld_Deed rfl ((hf16 1 rfl).trans (show _ = (.pointer (some ⟨b1, 0, none⟩) : Value) from rfl)) (st13.get 0 rfl) rfl rfl ?_)
        refine sx rfl (stp_call1 Tryd.func38 rfl rfl ((deedNumsI W12 (C_below hc st13.below) (by omega)).mono ?_)); rintro _ W20 ⟨v18, fp18, rfl, hk21⟩; refine ⟨_, rfl, ?_⟩
        have st22 := St.call st13 hk21
        refine sx rfl (stp_len sl_IntS rfl (own_Sl (st22.get 0 rfl)) ?_)
        refine sx rfl (stp_move (v := I 0) rfl ?_)
        refine sx_nil ?_
        refine wp_block ?_
        refine sx_loop (fun (m : Nat) (f : Nat → Value) (W : World) => ∃ (k : Nat), k ≤ (deedNums d).length ∧ ((deedNums d).take k).any (fun n => !num n) = false ∧ m = (deedNums d).length - k ∧ f 24 = v18 ∧ f 25 = I ((deedNums d).length : Int) ∧ f 26 = I (k : Int) ∧ St w W ([Res.own (α := List Int) v18 (deedNums d) fp18, Res.bx b1 [I d.kind, I d.run, I d.plan.prio, I d.plan.most, I d.plan.wait, I d.plan.tasks, v6_0, I d.task, I d.try_, I d.worker, I d.draw] 50])) ((deedNums d).length - 0) ?_ ?_
        · exact ⟨0, Nat.zero_le _, rfl, rfl, rfl, rfl, rfl, st22⟩
        intro m24 f25 W26 hJ27
        obtain ⟨k, hk, hany, rfl, hs29_24, hs29_25, hs29_26, st28⟩ := hJ27
        have hdl := deedNums_len d
        refine wp_seq ?_
        refine sx_region ?_
        refine sx rfl (stp_lss hs29_26 hs29_25 ?_)
        refine sx_nil ?_
        refine wp_seq ?_
        refine sx_if rfl (fun h30 => ?_) (fun h30 => ?_)
        · skip
          have h30p := of_decide_eq_true h30
          refine wp_skip ?_
          refine wp_seq ?_
          refine wp_block ?_
          refine wp_seq ?_
          refine sx_region ?_
          have hi318ce : k < (deedNums d).length := (by omega)
          have hq_ := idx (own_Sl (st28.get 0 rfl)) (i := k) hi318ce
          obtain ⟨b31, o31, cs31, f31, hp31, hr31, hc31, hm31⟩ := hq_
          have hk31 := hc31
          obtain ⟨rfl, rfl, hok31⟩ := hk31
          refine sx rfl (stp_indexAddr sl_IntS hs29_24 hp31 hs29_26 rfl ?_)
          refine sx rfl (stp_load_rg ld_int rfl rfl hr31 (Below.refl _ _) (i := 0) rfl rfl ?_)
          refine sx rfl (stp_assign (v := I ((deedNums d)[k]'hi318ce)) rfl ?_)
          refine sx_nil ?_
          refine wp_seq ?_
          refine sx_region ?_
          refine sx rfl (stp_move (v := I ((deedNums d)[k]'hi318ce)) rfl ?_)
          refine sx rfl (stp_call3 Tryd.func53 rfl rfl rfl rfl ((within_n W26 ((deedNums d)[k]'hi318ce) 0 1000000000).mono ?_)); rintro _ W32 ⟨rfl, hk33⟩; refine ⟨_, rfl, ?_⟩
          have st34 := St.call st28 hk33
          refine sx rfl (stp_not rfl ?_)
          refine sx_nil ?_
          refine sx_if rfl (fun h36 => ?_) (fun h36 => ?_)
          · skip
            have h36p := inB_not (bnot_t h36)
            refine wp_seq ?_
            refine sx_region ?_
            refine sx rfl (stp_assign (v := .bool false) rfl ?_)
            refine sx_nil ?_
            refine wp_ret ?_; repeat (first | refine then_ret ?_ | refine blk_ret ?_)
            refine ret1 Tryd.results36 rfl ?_
            exact ⟨(congrArg (fun z => Ending.returned (.bool z)) (by unfold deedOk; rw [any_get_t (xs := deedNums d) (p := fun n => !num n) (k := k) (by omega) h36]; simp)), st34.bare⟩
          · skip
            have h36p := inB_iff'.1 (bnot_f h36)
            refine wp_skip ?_
            refine sx_region ?_
            refine sx rfl (stp_add hs29_26 rfl (by (simp only [I64] at *; omega)) ?_)
            refine sx rfl (stp_move (v := I ((k : Int) + 1)) rfl ?_)
            refine sx_nil ?_
            exact ⟨_, (deedNums d).length - (k + 1), (by omega), rfl, k + 1, (by omega), (any_take_f (p := fun n => !num n) (by omega) hany h36), rfl, hs29_24, hs29_25, rfl, st34⟩
        · skip
          have h30p := of_decide_eq_false h30
          refine wp_exit ?_
          refine wp_seq ?_
          refine sx_region ?_
          refine sx rfl (stp_assign (v := .bool true) rfl ?_)
          refine sx_nil ?_
          refine wp_ret ?_; repeat (first | refine then_ret ?_ | refine blk_ret ?_)
          refine ret1 Tryd.results36 rfl ?_
          obtain rfl : k = (deedNums d).length := by omega
          rw [List.take_length] at hany
          exact ⟨(congrArg (fun z => Ending.returned (.bool z)) (by unfold deedOk; rw [bnot_f h7, decide_eq_true (show d.plan.edges.length ≤ 31 by omega), bnot_f h17, hany]; rfl)), st28.bare⟩
    · skip
      have h8p := of_decide_eq_true h8
      refine sx_any [Pl.is (.pointer (some ⟨b1, 0 + 0, none⟩)), Pl.is (I d.kind), Pl.bool (inB d.kind 1 8), Pl.bool false, Pl.bool false, Pl.is (.pointer (some ⟨b1, 0 + 2, none⟩)), Pl.is (.pointer (some ⟨b1, 0 + 2 + 4, none⟩)), Pl.is (v6_0) (Sl.yl h6_0), Pl.is (I (d.plan.edges.length : Int)), Pl.bool true, Pl.bool true, Pl.bool true, Pl.off, Pl.off, Pl.off, Pl.off, Pl.off, Pl.bool true] mix (by rfl) st4 ⟨(fun f W hst hbl hd hf => stp_fieldAddr fa_Deed_0 ((hf 1 rfl).trans (show _ = (.pointer (some ⟨b1, 0, none⟩) : Value) from rfl)) ⟨Below.refl _ _, rfl⟩), (fun f W hst hbl hd hf => stp_load_bx ld_int rfl (hd 0 5 rfl rfl) (hst.get 0 rfl) (i := 0) rfl rfl ⟨Below.refl _ _, rfl⟩), (fun f W hst hbl hd hf => stp_call3 Tryd.func53 rfl (hd 1 6 rfl rfl) rfl rfl ((within_n W d.kind 1 8).mono (by rintro e W2 ⟨rfl, hk⟩; exact ⟨_, rfl, hk.below, rfl⟩))), (fun f W hst hbl hd hf => stp_not (hd 2 7 rfl rfl) ⟨Below.refl _ _, congrArg Value.bool h7⟩), (fun f W hst hbl hd hf => stp_move (v := .bool false) (hd 3 8 rfl rfl) ⟨Below.refl _ _, rfl⟩), (fun f W hst hbl hd hf => stp_fieldAddr fa_Deed_2 ((hf 1 rfl).trans (show _ = (.pointer (some ⟨b1, 0, none⟩) : Value) from rfl)) ⟨Below.refl _ _, rfl⟩), (fun f W hst hbl hd hf => stp_fieldAddr fa_Plan_4 (hd 5 10 rfl rfl) ⟨Below.refl _ _, rfl⟩), (fun f W hst hbl hd hf => stp_load_bx ld_EdgeS rfl (hd 6 11 rfl rfl) (hst.get 0 rfl) (i := 6) rfl rfl ⟨Below.refl _ _, rfl⟩), (fun f W hst hbl hd hf => stp_len sl_EdgeS (hd 7 12 rfl rfl) h6_0 ⟨Below.refl _ _, rfl⟩), (fun f W hst hbl hd hf => stp_gtr (hd 8 13 rfl rfl) rfl ⟨Below.refl _ _, congrArg Value.bool h8⟩), (fun f W hst hbl hd hf => stp_pick_f (v := .bool true) (hd 4 9 rfl rfl) (hd 9 14 rfl rfl) ⟨Below.refl _ _, rfl⟩), (fun f W hst hbl hd hf => stp_move (v := .bool true) (hd 10 15 rfl rfl) ⟨Below.refl _ _, rfl⟩), (fun f W hst hbl hd hf => rfl), (fun f W hst hbl hd hf => rfl), (fun f W hst hbl hd hf => rfl), (fun f W hst hbl hd hf => rfl), (fun f W hst hbl hd hf => rfl), (fun f W hst hbl hd hf => stp_pick_t (v := .bool true) (hd 11 16 rfl rfl) rfl ⟨Below.refl _ _, rfl⟩), trivial⟩ ?_
      intro f37 W38 st39 hb40 hv41 hf42
      refine sx_t (hv41 17 22 (by decide) rfl) rfl ?_
      refine wp_seq ?_
      refine sx_region ?_
      refine sx rfl (stp_assign (v := .bool false) rfl ?_)
      refine sx_nil ?_
      refine wp_ret ?_; repeat (first | refine then_ret ?_ | refine blk_ret ?_)
      refine ret1 Tryd.results36 rfl ?_
      exact ⟨(congrArg (fun z => Ending.returned (.bool z)) (by unfold deedOk; rw [decide_eq_false (show ¬ d.plan.edges.length ≤ 31 by omega)]; simp)), st39.bare⟩
  · skip
    have h7p := inB_not (bnot_t h7)
    refine sx_any [Pl.is (.pointer (some ⟨b1, 0 + 0, none⟩)), Pl.is (I d.kind), Pl.bool (inB d.kind 1 8), Pl.bool true, Pl.bool true, Pl.off, Pl.off, Pl.off, Pl.off, Pl.off, Pl.bool true, Pl.bool true, Pl.off, Pl.off, Pl.off, Pl.off, Pl.off, Pl.bool true] mix (by rfl) st4 ⟨(fun f W hst hbl hd hf => stp_fieldAddr fa_Deed_0 ((hf 1 rfl).trans (show _ = (.pointer (some ⟨b1, 0, none⟩) : Value) from rfl)) ⟨Below.refl _ _, rfl⟩), (fun f W hst hbl hd hf => stp_load_bx ld_int rfl (hd 0 5 rfl rfl) (hst.get 0 rfl) (i := 0) rfl rfl ⟨Below.refl _ _, rfl⟩), (fun f W hst hbl hd hf => stp_call3 Tryd.func53 rfl (hd 1 6 rfl rfl) rfl rfl ((within_n W d.kind 1 8).mono (by rintro e W2 ⟨rfl, hk⟩; exact ⟨_, rfl, hk.below, rfl⟩))), (fun f W hst hbl hd hf => stp_not (hd 2 7 rfl rfl) ⟨Below.refl _ _, congrArg Value.bool h7⟩), (fun f W hst hbl hd hf => stp_move (v := .bool true) (hd 3 8 rfl rfl) ⟨Below.refl _ _, rfl⟩), (fun f W hst hbl hd hf => rfl), (fun f W hst hbl hd hf => rfl), (fun f W hst hbl hd hf => rfl), (fun f W hst hbl hd hf => rfl), (fun f W hst hbl hd hf => rfl), (fun f W hst hbl hd hf => stp_pick_t (v := .bool true) (hd 4 9 rfl rfl) rfl ⟨Below.refl _ _, rfl⟩), (fun f W hst hbl hd hf => stp_move (v := .bool true) (hd 10 15 rfl rfl) ⟨Below.refl _ _, rfl⟩), (fun f W hst hbl hd hf => rfl), (fun f W hst hbl hd hf => rfl), (fun f W hst hbl hd hf => rfl), (fun f W hst hbl hd hf => rfl), (fun f W hst hbl hd hf => rfl), (fun f W hst hbl hd hf => stp_pick_t (v := .bool true) (hd 11 16 rfl rfl) rfl ⟨Below.refl _ _, rfl⟩), trivial⟩ ?_
    intro f43 W44 st45 hb46 hv47 hf48
    refine sx_t (hv47 17 22 (by decide) rfl) rfl ?_
    refine wp_seq ?_
    refine sx_region ?_
    refine sx rfl (stp_assign (v := .bool false) rfl ?_)
    refine sx_nil ?_
    refine wp_ret ?_; repeat (first | refine then_ret ?_ | refine blk_ret ?_)
    refine ret1 Tryd.results36 rfl ?_
    exact ⟨(congrArg (fun z => Ending.returned (.bool z)) (deedOk_0 (bnot_t h7)).symm), st45.bare⟩
set_option maxHeartbeats 2000000 in
theorem numS (w : World) (n : Int) :
    Calls Tryd.prog 56 #[I n] w fun e w' => e = .returned (.bool (num n)) ∧ St w w' [] := by
  refine enter1 Tryd.func56 rfl Tryd.ntmps56 (by decide) ?_
  refine wp_seq ?_
  refine sx_region ?_
  refine sx rfl (stp_assign (v := .bool false) rfl ?_)
  refine sx_nil ?_
  refine wp_seq ?_
  refine sx_region ?_
  refine sx rfl (stp_move (v := I n) rfl ?_)
  refine sx rfl (stp_call3 Tryd.func28 rfl rfl rfl rfl ((l01In_n w n 0 1000000000).mono ?_)); rintro _ W1 ⟨rfl, hk2⟩; refine ⟨_, rfl, ?_⟩
  have st3 := St.call (St.start w) hk2
  refine sx rfl (stp_assign (v := .bool (inB n 0 1000000000)) rfl ?_)
  refine sx_nil ?_
  refine wp_ret ?_; repeat (first | refine then_ret ?_ | refine blk_ret ?_)
  refine ret1 Tryd.results56 rfl ?_
  exact ⟨rfl, st3.bare⟩
set_option maxHeartbeats 2000000 in
theorem noPlanS (w : World) {p : Plan} {cs : List Value} {fp : List Nat} (hc : Shape.C w cs p fp) :
    Calls Tryd.prog 58 #[.agg cs.toArray] w fun e w' => e = .returned (.bool (noPlan p)) ∧ St w w' [] := by
  refine enter1 Tryd.func58 rfl Tryd.ntmps58 (by decide) ?_
  refine wp_seq ?_
  refine sx_region ?_
  refine sx rfl (stp_box_agg (cs := cs) rfl (St.start w) ?_); intro b1 W2 hb3 st4
  refine sx rfl (stp_assign (v := .bool false) rfl ?_)
  refine sx_nil ?_
  refine wp_seq ?_
  refine sx_region ?_
  refine sx rfl (stp_fieldAddr fa_Plan_0 rfl ?_)
  have hk6 := hc
  obtain ⟨v6_0, g6_0, rfl, hok6, h6_0, rfl⟩ := hk6
  refine sx rfl (stp_load_bx ld_int rfl rfl (st4.get 0 rfl) (i := 0) rfl rfl ?_)
  refine sx rfl (stp_eql rfl rfl ?_)
  refine sx rfl (stp_move (v := .bool (decide (p.prio = 0))) rfl ?_)
  rcases bd (decide (p.prio = 0)) with h7 | h7
  · skip
    have h7p := of_decide_eq_false h7
    iterate 3 refine sx_off (j := 3) (dd := 6) rfl rfl (by decide) (yl_off (e := decide (p.prio = 0)) rfl h7) ?_
    refine sx rfl (stp_pick_f (v := .bool false) ((rfl : _ = (.bool (decide (p.prio = 0)) : Value)).trans (congrArg Value.bool h7)) rfl ?_)
    refine sx rfl (stp_move (v := .bool false) rfl ?_)
    iterate 3 refine sx_off (j := 8) (dd := 11) rfl rfl (by decide) (yl_off (e := false) rfl rfl) ?_
    refine sx rfl (stp_pick_f (v := .bool false) rfl rfl ?_)
    refine sx rfl (stp_move (v := .bool false) rfl ?_)
    iterate 3 refine sx_off (j := 13) (dd := 16) rfl rfl (by decide) (yl_off (e := false) rfl rfl) ?_
    refine sx rfl (stp_pick_f (v := .bool false) rfl rfl ?_)
    refine sx rfl (stp_move (v := .bool false) rfl ?_)
    iterate 4 refine sx_off (j := 18) (dd := 21) rfl rfl (by decide) (yl_off (e := false) rfl rfl) ?_
    refine sx rfl (stp_pick_f (v := .bool false) rfl rfl ?_)
    refine sx rfl (stp_assign (v := .bool false) rfl ?_)
    refine sx_nil ?_
    refine wp_ret ?_; repeat (first | refine then_ret ?_ | refine blk_ret ?_)
    refine ret1 Tryd.results58 rfl ?_
    exact ⟨(congrArg (fun z => Ending.returned (.bool z)) (by unfold noPlan; rw [decide_eq_false (show ¬ p.prio = 0 by omega)]; rfl)), st4.bare⟩
  · skip
    have h7p := of_decide_eq_true h7
    refine sx_on (j := 3) (dd := 6) rfl rfl (by decide) (yl_on (e := decide (p.prio = 0)) rfl h7) (stp_fieldAddr fa_Plan_1 rfl ?_)
    refine sx_on (j := 3) (dd := 6) rfl rfl (by decide) (yl_on (e := decide (p.prio = 0)) rfl h7) (stp_load_bx ld_int rfl rfl (st4.get 0 rfl) (i := 1) rfl rfl ?_)
    refine sx_on (j := 3) (dd := 6) rfl rfl (by decide) (yl_on (e := decide (p.prio = 0)) rfl h7) (stp_eql rfl rfl ?_)
    refine sx rfl (stp_pick_t (v := .bool (decide (p.most = 0))) ((rfl : _ = (.bool (decide (p.prio = 0)) : Value)).trans (congrArg Value.bool h7)) rfl ?_)
    refine sx rfl (stp_move (v := .bool (decide (p.most = 0))) rfl ?_)
    rcases bd (decide (p.most = 0)) with h8 | h8
    · skip
      have h8p := of_decide_eq_false h8
      iterate 3 refine sx_off (j := 8) (dd := 11) rfl rfl (by decide) (yl_off (e := decide (p.most = 0)) rfl h8) ?_
      refine sx rfl (stp_pick_f (v := .bool false) ((rfl : _ = (.bool (decide (p.most = 0)) : Value)).trans (congrArg Value.bool h8)) rfl ?_)
      refine sx rfl (stp_move (v := .bool false) rfl ?_)
      iterate 3 refine sx_off (j := 13) (dd := 16) rfl rfl (by decide) (yl_off (e := false) rfl rfl) ?_
      refine sx rfl (stp_pick_f (v := .bool false) rfl rfl ?_)
      refine sx rfl (stp_move (v := .bool false) rfl ?_)
      iterate 4 refine sx_off (j := 18) (dd := 21) rfl rfl (by decide) (yl_off (e := false) rfl rfl) ?_
      refine sx rfl (stp_pick_f (v := .bool false) rfl rfl ?_)
      refine sx rfl (stp_assign (v := .bool false) rfl ?_)
      refine sx_nil ?_
      refine wp_ret ?_; repeat (first | refine then_ret ?_ | refine blk_ret ?_)
      refine ret1 Tryd.results58 rfl ?_
      exact ⟨(congrArg (fun z => Ending.returned (.bool z)) (by unfold noPlan; rw [decide_eq_true (show p.prio = 0 by omega), decide_eq_false (show ¬ p.most = 0 by omega)]; rfl)), st4.bare⟩
    · skip
      have h8p := of_decide_eq_true h8
      refine sx_on (j := 8) (dd := 11) rfl rfl (by decide) (yl_on (e := decide (p.most = 0)) rfl h8) (stp_fieldAddr fa_Plan_2 rfl ?_)
      refine sx_on (j := 8) (dd := 11) rfl rfl (by decide) (yl_on (e := decide (p.most = 0)) rfl h8) (stp_load_bx ld_int rfl rfl (st4.get 0 rfl) (i := 2) rfl rfl ?_)
      refine sx_on (j := 8) (dd := 11) rfl rfl (by decide) (yl_on (e := decide (p.most = 0)) rfl h8) (stp_eql rfl rfl ?_)
      refine sx rfl (stp_pick_t (v := .bool (decide (p.wait = 0))) ((rfl : _ = (.bool (decide (p.most = 0)) : Value)).trans (congrArg Value.bool h8)) rfl ?_)
      refine sx rfl (stp_move (v := .bool (decide (p.wait = 0))) rfl ?_)
      rcases bd (decide (p.wait = 0)) with h9 | h9
      · skip
        have h9p := of_decide_eq_false h9
        iterate 3 refine sx_off (j := 13) (dd := 16) rfl rfl (by decide) (yl_off (e := decide (p.wait = 0)) rfl h9) ?_
        refine sx rfl (stp_pick_f (v := .bool false) ((rfl : _ = (.bool (decide (p.wait = 0)) : Value)).trans (congrArg Value.bool h9)) rfl ?_)
        refine sx rfl (stp_move (v := .bool false) rfl ?_)
        iterate 4 refine sx_off (j := 18) (dd := 21) rfl rfl (by decide) (yl_off (e := false) rfl rfl) ?_
        refine sx rfl (stp_pick_f (v := .bool false) rfl rfl ?_)
        refine sx rfl (stp_assign (v := .bool false) rfl ?_)
        refine sx_nil ?_
        refine wp_ret ?_; repeat (first | refine then_ret ?_ | refine blk_ret ?_)
        refine ret1 Tryd.results58 rfl ?_
        exact ⟨(congrArg (fun z => Ending.returned (.bool z)) (by unfold noPlan; rw [decide_eq_true (show p.prio = 0 by omega), decide_eq_true (show p.most = 0 by omega), decide_eq_false (show ¬ p.wait = 0 by omega)]; rfl)), st4.bare⟩
      · skip
        have h9p := of_decide_eq_true h9
        refine sx_on (j := 13) (dd := 16) rfl rfl (by decide) (yl_on (e := decide (p.wait = 0)) rfl h9) (stp_fieldAddr fa_Plan_3 rfl ?_)
        refine sx_on (j := 13) (dd := 16) rfl rfl (by decide) (yl_on (e := decide (p.wait = 0)) rfl h9) (stp_load_bx ld_int rfl rfl (st4.get 0 rfl) (i := 3) rfl rfl ?_)
        refine sx_on (j := 13) (dd := 16) rfl rfl (by decide) (yl_on (e := decide (p.wait = 0)) rfl h9) (stp_eql rfl rfl ?_)
        refine sx rfl (stp_pick_t (v := .bool (decide (p.tasks = 0))) ((rfl : _ = (.bool (decide (p.wait = 0)) : Value)).trans (congrArg Value.bool h9)) rfl ?_)
        refine sx rfl (stp_move (v := .bool (decide (p.tasks = 0))) rfl ?_)
        rcases bd (decide (p.tasks = 0)) with h10 | h10
        · skip
          have h10p := of_decide_eq_false h10
          iterate 4 refine sx_off (j := 18) (dd := 21) rfl rfl (by decide) (yl_off (e := decide (p.tasks = 0)) rfl h10) ?_
          refine sx rfl (stp_pick_f (v := .bool false) ((rfl : _ = (.bool (decide (p.tasks = 0)) : Value)).trans (congrArg Value.bool h10)) rfl ?_)
          refine sx rfl (stp_assign (v := .bool false) rfl ?_)
          refine sx_nil ?_
          refine wp_ret ?_; repeat (first | refine then_ret ?_ | refine blk_ret ?_)
          refine ret1 Tryd.results58 rfl ?_
          exact ⟨(congrArg (fun z => Ending.returned (.bool z)) (by unfold noPlan; rw [decide_eq_true (show p.prio = 0 by omega), decide_eq_true (show p.most = 0 by omega), decide_eq_true (show p.wait = 0 by omega), decide_eq_false (show ¬ p.tasks = 0 by omega)]; rfl)), st4.bare⟩
        · skip
          have h10p := of_decide_eq_true h10
          refine sx_on (j := 18) (dd := 21) rfl rfl (by decide) (yl_on (e := decide (p.tasks = 0)) rfl h10) (stp_fieldAddr fa_Plan_4 rfl ?_)
          refine sx_on (j := 18) (dd := 21) rfl rfl (by decide) (yl_on (e := decide (p.tasks = 0)) rfl h10) (stp_load_bx ld_EdgeS rfl rfl (st4.get 0 rfl) (i := 4) rfl rfl ?_)
          refine sx_on (j := 18) (dd := 21) rfl rfl (by decide) (yl_on (e := decide (p.tasks = 0)) rfl h10) (stp_len sl_EdgeS rfl h6_0 ?_)
          refine sx_on (j := 18) (dd := 21) rfl rfl (by decide) (yl_on (e := decide (p.tasks = 0)) rfl h10) (stp_eql rfl rfl ?_)
          refine sx rfl (stp_pick_t (v := .bool (decide ((p.edges.length : Int) = 0))) ((rfl : _ = (.bool (decide (p.tasks = 0)) : Value)).trans (congrArg Value.bool h10)) rfl ?_)
          refine sx rfl (stp_assign (v := .bool (decide ((p.edges.length : Int) = 0))) rfl ?_)
          refine sx_nil ?_
          rcases bd (decide ((p.edges.length : Int) = 0)) with h11 | h11
          · skip
            have h11p := of_decide_eq_false h11
            refine wp_ret ?_; repeat (first | refine then_ret ?_ | refine blk_ret ?_)
            refine ret1 Tryd.results58 ((rfl : _ = (.bool (decide ((p.edges.length : Int) = 0)) : Value)).trans (congrArg Value.bool h11)) ?_
            exact ⟨(congrArg (fun z => Ending.returned (.bool z)) (by unfold noPlan; rw [decide_eq_true (show p.prio = 0 by omega), decide_eq_true (show p.most = 0 by omega), decide_eq_true (show p.wait = 0 by omega), decide_eq_true (show p.tasks = 0 by omega), decide_eq_false (show ¬ p.edges.length = 0 by omega)]; rfl)), st4.bare⟩
          · skip
            have h11p := of_decide_eq_true h11
            refine wp_ret ?_; repeat (first | refine then_ret ?_ | refine blk_ret ?_)
            refine ret1 Tryd.results58 ((rfl : _ = (.bool (decide ((p.edges.length : Int) = 0)) : Value)).trans (congrArg Value.bool h11)) ?_
            exact ⟨(congrArg (fun z => Ending.returned (.bool z)) (by unfold noPlan; rw [decide_eq_true (show p.prio = 0 by omega), decide_eq_true (show p.most = 0 by omega), decide_eq_true (show p.wait = 0 by omega), decide_eq_true (show p.tasks = 0 by omega), decide_eq_true (show p.edges.length = 0 by omega)]; rfl)), st4.bare⟩
set_option maxHeartbeats 2000000 in
theorem planNumS (w : World) {p : Plan} {cs : List Value} {fp : List Nat} (hc : Shape.C w cs p fp) :
    Calls Tryd.prog 57 #[.agg cs.toArray] w fun e w' => e = .returned (.bool (planNum p)) ∧ St w w' [] := by
  refine enter1 Tryd.func57 rfl Tryd.ntmps57 (by decide) ?_
  refine wp_seq ?_
  refine sx_region ?_
  refine sx rfl (stp_box_agg (cs := cs) rfl (St.start w) ?_); intro b1 W2 hb3 st4
  refine sx rfl (stp_assign (v := .bool false) rfl ?_)
  refine sx_nil ?_
  refine wp_seq ?_
  refine wp_seq ?_
  refine sx_region ?_
  refine sx rfl (stp_fieldAddr fa_Plan_0 rfl ?_)
  have hk6 := hc
  obtain ⟨v6_0, g6_0, rfl, hok6, h6_0, rfl⟩ := hk6
  refine sx rfl (stp_load_bx ld_int rfl rfl (st4.get 0 rfl) (i := 0) rfl rfl ?_)
  refine sx rfl (stp_call1 Tryd.func56 rfl rfl ((numS W2 p.prio).mono ?_)); rintro _ W7 ⟨rfl, hk8⟩; refine ⟨_, rfl, ?_⟩
  have st9 := St.call st4 hk8
  refine sx rfl (stp_not rfl ?_)
  refine sx rfl (stp_move (v := .bool (!(num p.prio))) rfl ?_)
  rcases bd (!(num p.prio)) with h11 | h11
  · skip
    refine sx_on (j := 4) (dd := 8) rfl rfl (by decide) (yl_on (e := !(num p.prio)) rfl h11) (stp_fieldAddr fa_Plan_1 rfl ?_)
    refine sx_on (j := 4) (dd := 8) rfl rfl (by decide) (yl_on (e := !(num p.prio)) rfl h11) (stp_load_bx ld_int rfl rfl (st9.get 0 rfl) (i := 1) rfl rfl ?_)
    refine sx_on (j := 4) (dd := 8) rfl rfl (by decide) (yl_on (e := !(num p.prio)) rfl h11) (stp_call1 Tryd.func56 rfl rfl ((numS W7 p.most).mono ?_)); rintro _ W12 ⟨rfl, hk13⟩; refine ⟨_, rfl, ?_⟩
    have st14 := St.call st9 hk13
    refine sx_on (j := 4) (dd := 8) rfl rfl (by decide) (yl_on (e := !(num p.prio)) rfl h11) (stp_not rfl ?_)
    refine sx rfl (stp_pick_f (v := .bool (!(num p.most))) ((rfl : _ = (.bool (!(num p.prio)) : Value)).trans (congrArg Value.bool h11)) rfl ?_)
    refine sx rfl (stp_move (v := .bool (!(num p.most))) rfl ?_)
    rcases bd (!(num p.most)) with h16 | h16
    · skip
      refine sx_on (j := 10) (dd := 14) rfl rfl (by decide) (yl_on (e := !(num p.most)) rfl h16) (stp_fieldAddr fa_Plan_2 rfl ?_)
      refine sx_on (j := 10) (dd := 14) rfl rfl (by decide) (yl_on (e := !(num p.most)) rfl h16) (stp_load_bx ld_int rfl rfl (st14.get 0 rfl) (i := 2) rfl rfl ?_)
      refine sx_on (j := 10) (dd := 14) rfl rfl (by decide) (yl_on (e := !(num p.most)) rfl h16) (stp_call1 Tryd.func56 rfl rfl ((numS W12 p.wait).mono ?_)); rintro _ W17 ⟨rfl, hk18⟩; refine ⟨_, rfl, ?_⟩
      have st19 := St.call st14 hk18
      refine sx_on (j := 10) (dd := 14) rfl rfl (by decide) (yl_on (e := !(num p.most)) rfl h16) (stp_not rfl ?_)
      refine sx rfl (stp_pick_f (v := .bool (!(num p.wait))) ((rfl : _ = (.bool (!(num p.most)) : Value)).trans (congrArg Value.bool h16)) rfl ?_)
      refine sx rfl (stp_move (v := .bool (!(num p.wait))) rfl ?_)
      rcases bd (!(num p.wait)) with h21 | h21
      · skip
        refine sx_on (j := 16) (dd := 20) rfl rfl (by decide) (yl_on (e := !(num p.wait)) rfl h21) (stp_fieldAddr fa_Plan_3 rfl ?_)
        refine sx_on (j := 16) (dd := 20) rfl rfl (by decide) (yl_on (e := !(num p.wait)) rfl h21) (stp_load_bx ld_int rfl rfl (st19.get 0 rfl) (i := 3) rfl rfl ?_)
        refine sx_on (j := 16) (dd := 20) rfl rfl (by decide) (yl_on (e := !(num p.wait)) rfl h21) (stp_call1 Tryd.func56 rfl rfl ((numS W17 p.tasks).mono ?_)); rintro _ W22 ⟨rfl, hk23⟩; refine ⟨_, rfl, ?_⟩
        have st24 := St.call st19 hk23
        refine sx_on (j := 16) (dd := 20) rfl rfl (by decide) (yl_on (e := !(num p.wait)) rfl h21) (stp_not rfl ?_)
        refine sx rfl (stp_pick_f (v := .bool (!(num p.tasks))) ((rfl : _ = (.bool (!(num p.wait)) : Value)).trans (congrArg Value.bool h21)) rfl ?_)
        refine sx rfl (stp_move (v := .bool (!(num p.tasks))) rfl ?_)
        rcases bd (!(num p.tasks)) with h26 | h26
        · skip
          refine sx_on (j := 22) (dd := 26) rfl rfl (by decide) (yl_on (e := !(num p.tasks)) rfl h26) (stp_fieldAddr fa_Plan_4 rfl ?_)
          refine sx_on (j := 22) (dd := 26) rfl rfl (by decide) (yl_on (e := !(num p.tasks)) rfl h26) (stp_load_bx ld_EdgeS rfl rfl (st24.get 0 rfl) (i := 4) rfl rfl ?_)
          refine sx_on (j := 22) (dd := 26) rfl rfl (by decide) (yl_on (e := !(num p.tasks)) rfl h26) (stp_len sl_EdgeS rfl h6_0 ?_)
          refine sx_on (j := 22) (dd := 26) rfl rfl (by decide) (yl_on (e := !(num p.tasks)) rfl h26) (stp_gtr rfl rfl ?_)
          refine sx rfl (stp_pick_f (v := .bool (decide (31 < (p.edges.length : Int)))) ((rfl : _ = (.bool (!(num p.tasks)) : Value)).trans (congrArg Value.bool h26)) rfl ?_)
          refine sx_nil ?_
          refine sx_if rfl (fun h27 => ?_) (fun h27 => ?_)
          · skip
            have h27p := of_decide_eq_true h27
            refine wp_seq ?_
            refine sx_region ?_
            refine sx rfl (stp_assign (v := .bool false) rfl ?_)
            refine sx_nil ?_
            refine wp_ret ?_; repeat (first | refine then_ret ?_ | refine blk_ret ?_)
            refine ret1 Tryd.results57 rfl ?_
            exact ⟨(congrArg (fun z => Ending.returned (.bool z)) (by unfold planNum; rw [bnot_f h11, bnot_f h16, bnot_f h21, bnot_f h26, decide_eq_false (show ¬ p.edges.length ≤ 31 by omega)]; simp)), st24.bare⟩
          · skip
            have h27p := of_decide_eq_false h27
            refine wp_skip ?_
            refine wp_seq ?_
            refine wp_seq ?_
            refine sx_region ?_
            refine sx rfl (stp_assign (v := I 0) rfl ?_)
            refine sx_nil ?_
            refine wp_block ?_
            refine sx_loop (fun (m : Nat) (f : Nat → Value) (W : World) => ∃ (k : Nat), k ≤ p.edges.length ∧ (p.edges.take k).any (fun e : Edge => !(num e.from_ && num e.to_)) = false ∧ m = p.edges.length - k ∧ f 1 = .pointer (some ⟨b1, 0, none⟩) ∧ f 3 = I (k : Int) ∧ St w W ([Res.bx b1 [I p.prio, I p.most, I p.wait, I p.tasks, v6_0] 38])) (p.edges.length - 0) ?_ ?_
            · exact ⟨0, Nat.zero_le _, rfl, rfl, rfl, rfl, st24⟩
            intro m28 f29 W30 hJ31
            obtain ⟨k, hk, hany, rfl, hs33_1, hs33_3, st32⟩ := hJ31
            refine wp_seq ?_
            refine wp_seq ?_
            refine sx_region ?_
            refine sx rfl (stp_move (v := I (k : Int)) hs33_3 ?_)
            refine sx rfl (stp_fieldAddr fa_Plan_4 hs33_1 ?_)
            refine sx rfl (stp_load_bx ld_EdgeS rfl rfl (st32.get 0 rfl) (i := 4) rfl rfl ?_)
            refine sx rfl (stp_len sl_EdgeS rfl h6_0 ?_)
            refine sx rfl (stp_lss rfl rfl ?_)
            refine sx_nil ?_
            refine sx_if rfl (fun h34 => ?_) (fun h34 => ?_)
            · skip
              have h34p := of_decide_eq_true h34
              refine wp_skip ?_
              refine wp_seq ?_
              refine wp_block ?_
              refine wp_seq ?_
              refine sx_region ?_
              refine sx rfl (stp_fieldAddr fa_Plan_4 hs33_1 ?_)
              refine sx rfl (stp_load_bx ld_EdgeS rfl rfl (st32.get 0 rfl) (i := 4) rfl rfl ?_)
              refine sx rfl (stp_move (v := I (k : Int)) hs33_3 ?_)
              have hiab516 : k < p.edges.length := (by omega)
              have hq_ := idx h6_0 (i := k) hiab516
              obtain ⟨b35, o35, cs35, f35, hp35, hr35, hc35, hm35⟩ := hq_
              refine sx rfl (stp_indexAddr sl_EdgeS rfl hp35 rfl rfl ?_)
              refine sx rfl (stp_fieldAddr fa_Edge_0 rfl ?_)
              have hk36 := hc35
              obtain ⟨he36, rfl, hok36⟩ := hk36
              have he36 : _ = [I (p.edges[k]'hiab516).from_, I (p.edges[k]'hiab516).to_] := he36
              subst he36
              refine sx rfl (stp_load_rg ld_int rfl rfl hr35 st32.below (i := 0) rfl rfl ?_)
              refine sx rfl (stp_call1 Tryd.func56 rfl rfl ((numS W30 (p.edges[k]'hiab516).from_).mono ?_)); rintro _ W37 ⟨rfl, hk38⟩; refine ⟨_, rfl, ?_⟩
              have st39 := St.call st32 hk38
              refine sx rfl (stp_not rfl ?_)
              refine sx rfl (stp_move (v := .bool (!(num (p.edges[k]'hiab516).from_))) rfl ?_)
              rcases bd (!(num (p.edges[k]'hiab516).from_)) with h41 | h41
              · skip
                refine sx_on (j := 8) (dd := 47) rfl rfl (by decide) (yl_on (e := !(num (p.edges[k]'hiab516).from_)) rfl h41) (stp_fieldAddr fa_Plan_4 hs33_1 ?_)
                refine sx_on (j := 8) (dd := 47) rfl rfl (by decide) (yl_on (e := !(num (p.edges[k]'hiab516).from_)) rfl h41) (stp_load_bx ld_EdgeS rfl rfl (st39.get 0 rfl) (i := 4) rfl rfl ?_)
                refine sx_on (j := 8) (dd := 47) rfl rfl (by decide) (yl_on (e := !(num (p.edges[k]'hiab516).from_)) rfl h41) (stp_move (v := I (k : Int)) hs33_3 ?_)
                refine sx_on (j := 8) (dd := 47) rfl rfl (by decide) (yl_on (e := !(num (p.edges[k]'hiab516).from_)) rfl h41) (stp_indexAddr sl_EdgeS rfl hp35 rfl rfl ?_)
                refine sx_on (j := 8) (dd := 47) rfl rfl (by decide) (yl_on (e := !(num (p.edges[k]'hiab516).from_)) rfl h41) (stp_fieldAddr fa_Edge_1 rfl ?_)
                refine sx_on (j := 8) (dd := 47) rfl rfl (by decide) (yl_on (e := !(num (p.edges[k]'hiab516).from_)) rfl h41) (stp_load_rg ld_int rfl rfl hr35 st39.below (i := 1) rfl rfl ?_)
                refine sx_on (j := 8) (dd := 47) rfl rfl (by decide) (yl_on (e := !(num (p.edges[k]'hiab516).from_)) rfl h41) (stp_call1 Tryd.func56 rfl rfl ((numS W37 (p.edges[k]'hiab516).to_).mono ?_)); rintro _ W42 ⟨rfl, hk43⟩; refine ⟨_, rfl, ?_⟩
                have st44 := St.call st39 hk43
                refine sx_on (j := 8) (dd := 47) rfl rfl (by decide) (yl_on (e := !(num (p.edges[k]'hiab516).from_)) rfl h41) (stp_not rfl ?_)
                refine sx rfl (stp_pick_f (v := .bool (!(num (p.edges[k]'hiab516).to_))) ((rfl : _ = (.bool (!(num (p.edges[k]'hiab516).from_)) : Value)).trans (congrArg Value.bool h41)) rfl ?_)
                refine sx_nil ?_
                refine sx_if rfl (fun h46 => ?_) (fun h46 => ?_)
                · skip
                  refine wp_seq ?_
                  refine sx_region ?_
                  refine sx rfl (stp_assign (v := .bool false) rfl ?_)
                  refine sx_nil ?_
                  refine wp_ret ?_; repeat (first | refine then_ret ?_ | refine blk_ret ?_)
                  refine ret1 Tryd.results57 rfl ?_
                  exact ⟨(congrArg (fun z => Ending.returned (.bool z)) (by unfold planNum; rw [any_get_t (xs := p.edges) (p := fun e : Edge => !(num e.from_ && num e.to_)) (k := k) (by omega) (by simp [bnot_f h41, bnot_t h46])]; simp)), st44.bare⟩
                · skip
                  refine wp_skip ?_
                  refine sx_region ?_
                  refine sx rfl (stp_move (v := I (k : Int)) hs33_3 ?_)
                  refine sx rfl (stp_add rfl rfl (by (simp only [I64] at *; omega)) ?_)
                  refine sx rfl (stp_assign (v := I ((k : Int) + 1)) rfl ?_)
                  refine sx_nil ?_
                  exact ⟨_, p.edges.length - (k + 1), (by omega), rfl, k + 1, (by omega), (any_take_f (p := fun e : Edge => !(num e.from_ && num e.to_)) (by omega) hany (by simp [bnot_f h41, bnot_f h46])), rfl, hs33_1, rfl, st44⟩
              · skip
                iterate 8 refine sx_off (j := 8) (dd := 47) rfl rfl (by decide) (yl_off (e := !(num (p.edges[k]'hiab516).from_)) rfl h41) ?_
                refine sx rfl (stp_pick_t (v := .bool true) ((rfl : _ = (.bool (!(num (p.edges[k]'hiab516).from_)) : Value)).trans (congrArg Value.bool h41)) rfl ?_)
                refine sx_nil ?_
                refine sx_t rfl rfl ?_
                refine wp_seq ?_
                refine sx_region ?_
                refine sx rfl (stp_assign (v := .bool false) rfl ?_)
                refine sx_nil ?_
                refine wp_ret ?_; repeat (first | refine then_ret ?_ | refine blk_ret ?_)
                refine ret1 Tryd.results57 rfl ?_
                exact ⟨(congrArg (fun z => Ending.returned (.bool z)) (by unfold planNum; rw [any_get_t (xs := p.edges) (p := fun e : Edge => !(num e.from_ && num e.to_)) (k := k) (by omega) (by simp [bnot_t h41])]; simp)), st39.bare⟩
            · skip
              have h34p := of_decide_eq_false h34
              refine wp_exit ?_
              refine wp_seq ?_
              refine sx_region ?_
              refine sx rfl (stp_assign (v := .bool true) rfl ?_)
              refine sx_nil ?_
              refine wp_ret ?_; repeat (first | refine then_ret ?_ | refine blk_ret ?_)
              refine ret1 Tryd.results57 rfl ?_
              obtain rfl : k = p.edges.length := by omega
              rw [List.take_length] at hany
              exact ⟨(congrArg (fun z => Ending.returned (.bool z)) (by unfold planNum; rw [bnot_f h11, bnot_f h16, bnot_f h21, bnot_f h26, decide_eq_true (show p.edges.length ≤ 31 by omega), hany]; rfl)), st32.bare⟩
        · skip
          iterate 4 refine sx_off (j := 22) (dd := 26) rfl rfl (by decide) (yl_off (e := !(num p.tasks)) rfl h26) ?_
          refine sx rfl (stp_pick_t (v := .bool true) ((rfl : _ = (.bool (!(num p.tasks)) : Value)).trans (congrArg Value.bool h26)) rfl ?_)
          refine sx_nil ?_
          refine sx_t rfl rfl ?_
          refine wp_seq ?_
          refine sx_region ?_
          refine sx rfl (stp_assign (v := .bool false) rfl ?_)
          refine sx_nil ?_
          refine wp_ret ?_; repeat (first | refine then_ret ?_ | refine blk_ret ?_)
          refine ret1 Tryd.results57 rfl ?_
          exact ⟨(congrArg (fun z => Ending.returned (.bool z)) (by unfold planNum; rw [bnot_f h11, bnot_f h16, bnot_f h21, bnot_t h26]; simp)), st24.bare⟩
      · skip
        iterate 4 refine sx_off (j := 16) (dd := 20) rfl rfl (by decide) (yl_off (e := !(num p.wait)) rfl h21) ?_
        refine sx rfl (stp_pick_t (v := .bool true) ((rfl : _ = (.bool (!(num p.wait)) : Value)).trans (congrArg Value.bool h21)) rfl ?_)
        refine sx rfl (stp_move (v := .bool true) rfl ?_)
        iterate 4 refine sx_off (j := 22) (dd := 26) rfl rfl (by decide) (yl_off (e := true) rfl rfl) ?_
        refine sx rfl (stp_pick_t (v := .bool true) rfl rfl ?_)
        refine sx_nil ?_
        refine sx_t rfl rfl ?_
        refine wp_seq ?_
        refine sx_region ?_
        refine sx rfl (stp_assign (v := .bool false) rfl ?_)
        refine sx_nil ?_
        refine wp_ret ?_; repeat (first | refine then_ret ?_ | refine blk_ret ?_)
        refine ret1 Tryd.results57 rfl ?_
        exact ⟨(congrArg (fun z => Ending.returned (.bool z)) (by unfold planNum; rw [bnot_f h11, bnot_f h16, bnot_t h21]; simp)), st19.bare⟩
    · skip
      iterate 4 refine sx_off (j := 10) (dd := 14) rfl rfl (by decide) (yl_off (e := !(num p.most)) rfl h16) ?_
      refine sx rfl (stp_pick_t (v := .bool true) ((rfl : _ = (.bool (!(num p.most)) : Value)).trans (congrArg Value.bool h16)) rfl ?_)
      refine sx rfl (stp_move (v := .bool true) rfl ?_)
      iterate 4 refine sx_off (j := 16) (dd := 20) rfl rfl (by decide) (yl_off (e := true) rfl rfl) ?_
      refine sx rfl (stp_pick_t (v := .bool true) rfl rfl ?_)
      refine sx rfl (stp_move (v := .bool true) rfl ?_)
      iterate 4 refine sx_off (j := 22) (dd := 26) rfl rfl (by decide) (yl_off (e := true) rfl rfl) ?_
      refine sx rfl (stp_pick_t (v := .bool true) rfl rfl ?_)
      refine sx_nil ?_
      refine sx_t rfl rfl ?_
      refine wp_seq ?_
      refine sx_region ?_
      refine sx rfl (stp_assign (v := .bool false) rfl ?_)
      refine sx_nil ?_
      refine wp_ret ?_; repeat (first | refine then_ret ?_ | refine blk_ret ?_)
      refine ret1 Tryd.results57 rfl ?_
      exact ⟨(congrArg (fun z => Ending.returned (.bool z)) (by unfold planNum; rw [bnot_f h11, bnot_t h16]; simp)), st14.bare⟩
  · skip
    iterate 4 refine sx_off (j := 4) (dd := 8) rfl rfl (by decide) (yl_off (e := !(num p.prio)) rfl h11) ?_
    refine sx rfl (stp_pick_t (v := .bool true) ((rfl : _ = (.bool (!(num p.prio)) : Value)).trans (congrArg Value.bool h11)) rfl ?_)
    refine sx rfl (stp_move (v := .bool true) rfl ?_)
    iterate 4 refine sx_off (j := 10) (dd := 14) rfl rfl (by decide) (yl_off (e := true) rfl rfl) ?_
    refine sx rfl (stp_pick_t (v := .bool true) rfl rfl ?_)
    refine sx rfl (stp_move (v := .bool true) rfl ?_)
    iterate 4 refine sx_off (j := 16) (dd := 20) rfl rfl (by decide) (yl_off (e := true) rfl rfl) ?_
    refine sx rfl (stp_pick_t (v := .bool true) rfl rfl ?_)
    refine sx rfl (stp_move (v := .bool true) rfl ?_)
    iterate 4 refine sx_off (j := 22) (dd := 26) rfl rfl (by decide) (yl_off (e := true) rfl rfl) ?_
    refine sx rfl (stp_pick_t (v := .bool true) rfl rfl ?_)
    refine sx_nil ?_
    refine sx_t rfl rfl ?_
    refine wp_seq ?_
    refine sx_region ?_
    refine sx rfl (stp_assign (v := .bool false) rfl ?_)
    refine sx_nil ?_
    refine wp_ret ?_; repeat (first | refine then_ret ?_ | refine blk_ret ?_)
    refine ret1 Tryd.results57 rfl ?_
    exact ⟨(congrArg (fun z => Ending.returned (.bool z)) (by unfold planNum; rw [bnot_t h11]; simp)), st9.bare⟩
end Go.Proofs.YtchnllpegfbleaaDoor
