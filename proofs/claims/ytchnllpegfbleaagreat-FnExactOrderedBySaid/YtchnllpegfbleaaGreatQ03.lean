/-
  DeedOk of the program, and what the reference looks at.
  DeedOk of the reference; SpanOk.
  The place of the first element that a test takes. Theory alone.
  When a shelf is right: of the program and of the reference.
  RunAt, Fresh, the entries, of the program and of the reference.
  ReadyOf, OldestOf, of the program and of the reference.
  Slots, and the entries of a run: of the program and of the reference.
  What waits for what: ways along edges, and that a short one is there where there is one. Theory alone.
  The reference's search: what it has met, while it goes on, and in the end. Theory alone.
  Bits of small numbers: or, and, shifts.
  Shifts (a try).
  Bits of numbers that are no Nat by their form.
  What is wrong with a plan. Theory alone.
  The tasks before and behind a task, in order. Theory alone.
  A store into an element of an owned slice; a made slice, all zeros.
  Functions without parameters; slices that are nil, owned out of nothing.
  Parts of slices, whose values are known ahead; three results, the first in a cell.
-/
import Derived.Lib.QuoteBits
import Derived.Test.YtchnllpegfbleaaGreatQ01
import Derived.Test.YtchnllpegfbleaaGreatQ02
namespace Go.Proofs.YtchnllpegfbleaaGreat
set_option linter.unusedSimpArgs false
set_option linter.unusedVariables false
set_option maxRecDepth 100000
set_option maxHeartbeats 2000000
open Go.RowKit Go.Proofs.Tryz List
variable (w : World) {cs ds : List Value} {fp gp : List Nat}
def num (n : Int) : Bool := inB n 0 1000000000
def zP : Plan := ⟨0, 0, 0, 0, []⟩
def gF (d : Deed) : Deed :=
 if d.kind = 1 then ⟨d.kind, d.run, d.plan, 0, 0, 0, 0⟩
 else if d.kind = 2 then ⟨d.kind, 0, zP, 0, 0, d.worker, d.draw⟩
 else if d.kind = 3 ∨ d.kind = 4 then ⟨d.kind, d.run, zP, d.task, d.try_, 0, 0⟩
 else if d.kind = 6 ∨ d.kind = 7 then ⟨d.kind, d.run, zP, 0, 0, 0, 0⟩
 else ⟨d.kind, 0, zP, 0, 0, 0, 0⟩
def hK (es : List Edge) : List Int := es.flatMap (fun e => [e.from_, e.to_])
theorem edgeNums_s {es : List Edge} {k : Nat} (h : k < es.length) : hK (es.take (k + 1)) = hK (es.take k) ++ [es[k].from_, es[k].to_] := by
 unfold hK
 rw [take_succ_eq_append_getElem h, flatMap_append]; rfl
theorem oL : ∀ (es : List Edge), (hK es).length = 2 * es.length
 | [] => rfl
 | e :: es => by have := oL es; unfold hK at *; simp only [flatMap_cons, length_append, length_cons, length_nil, this]; omega
def cV (d : Deed) : List Int :=
 if d.kind = 1 then [d.run, d.plan.prio, d.plan.most, d.plan.wait, d.plan.tasks, (d.plan.edges.length : Int)] ++ hK d.plan.edges
 else if d.kind = 2 then [d.worker, d.draw]
 else if d.kind = 3 ∨ d.kind = 4 then [d.run, d.task, d.try_]
 else if d.kind = 6 ∨ d.kind = 7 then [d.run]
 else []
theorem deedNums_len (d : Deed) : (cV d).length ≤ 6 + 2 * d.plan.edges.length := by
 unfold cV
 have := oL d.plan.edges
 split
 ·simp only [length_append, length_cons, length_nil, this]; omega
 split
 ·simp; omega
 split
 ·simp; omega
 split <;> simp <;> omega
def fC (d : Deed) : Bool := inB d.kind 1 8 && decide (d.plan.edges.length ≤ 31) && eqB d (gF d) && !((cV d).any (fun n => !num n))
def kC (p : Plan) : Bool := num p.prio && num p.most && num p.wait && num p.tasks && decide (p.edges.length ≤ 31) && !(p.edges.any (fun e : Edge => !(num e.from_ && num e.to_)))
def mH (p : Plan) : Bool := decide (p.prio = 0) && decide (p.most = 0) && decide (p.wait = 0) && decide (p.tasks = 0) && decide (p.edges.length = 0)
theorem nY {p : Plan} : mH p = true ↔ p = zP := by
 cases p
 simp [mH, zP, length_eq_zero_iff, and_assoc]
theorem any_edges (es : List Edge) : (hK es).any (fun n => !num n) = es.any (fun e : Edge => !(num e.from_ && num e.to_)) := by
 unfold hK
 rw [any_flatMap]
 congr 1
 funext e
 simp
theorem planNum_f {p : Plan} (h : (((((!(num p.prio)) || (!(num p.most))) || (!(num p.wait))) || (!(num p.tasks))) || (decide (31 < (p.edges.length : Int)))) = true) : kC p = false := by
 unfold kC
 simp only [Bool.or_eq_true, Bool.not_eq_true', decide_eq_true_eq] at h
 rcases h with (((h | h) | h) | h) | h
 all_goals first | (rw [h]; simp; done) | (rw [decide_eq_false (show ¬ p.edges.length ≤ 31 by omega)]; simp)
theorem planNum_t {p : Plan} (h : (((((!(num p.prio)) || (!(num p.most))) || (!(num p.wait))) || (!(num p.tasks))) || (decide (31 < (p.edges.length : Int)))) = false) (ha : (p.edges.any (fun e : Edge => !(num e.from_ && num e.to_))) = false) : kC p = true := by
 unfold kC
 simp only [Bool.or_eq_false_iff, Bool.not_eq_false', decide_eq_false_iff_not] at h
 obtain ⟨⟨⟨⟨s, t⟩, a⟩, b⟩, c⟩ := h
 rw [s, t, a, b, ha, decide_eq_true (show p.edges.length ≤ 31 by omega)]; rfl
theorem planNum_le {p : Plan} (h : (((((!(num p.prio)) || (!(num p.most))) || (!(num p.wait))) || (!(num p.tasks))) || (decide (31 < (p.edges.length : Int)))) = false) : p.edges.length ≤ 31 := by
 simp only [Bool.or_eq_false_iff, decide_eq_false_iff_not] at h
 have := h.2; omega
theorem aH7 {d : Deed} (h : inB d.kind 1 8 = false) : fC d = false := by unfold fC; rw [h]; rfl
theorem qX : num 0 = true := rfl
theorem num_len {n : Nat} (h : n ≤ 31) : num (n : Int) = true := by unfold num; rw [inB_iff']; omega
theorem aH6 {d : Deed} (h : d.kind = 1) : fC d = (num d.run && decide (d.task = 0) && decide (d.try_ = 0) && decide (d.worker = 0) && decide (d.draw = 0) && kC d.plan) := by
 obtain ⟨k, r, p, t, y, w, dr⟩ := d
 simp only at h
 subst h
 have s : eqB (⟨1, r, p, t, y, w, dr⟩ : Deed) (gF ⟨1, r, p, t, y, w, dr⟩) = (decide (t = 0) && decide (y = 0) && decide (w = 0) && decide (dr = 0)) := by
  rw [Bool.eq_iff_iff]; simp [eqB, gF, and_assoc]
 have a : inB (⟨1, r, p, t, y, w, dr⟩ : Deed).kind 1 8 = true := rfl
 unfold fC kC
 rw [s, a]
 by_cases hl : p.edges.length ≤ 31
 ·have hn := num_len hl
  simp only [cV, if_true, any_append, any_cons, any_nil, any_edges, hn, decide_eq_true hl, Bool.not_true, Bool.or_false, Bool.not_or, Bool.not_not, Bool.true_and, Bool.and_true]
  ac_rfl
 simp [hl]
theorem aH5 {d : Deed} (h : d.kind = 2) : fC d = (decide (d.run = 0) && decide (d.task = 0) && decide (d.try_ = 0) && num d.worker && num d.draw && mH d.plan) := by
 obtain ⟨k, r, p, t, y, w, dr⟩ := d
 simp only at h
 subst h
 rw [Bool.eq_iff_iff]
 simp only [fC, gF, cV, Bool.and_eq_true, nY, eqB, decide_eq_true_eq, Deed.mk.injEq]
 simp [inB]
 constructor
 ·rintro ⟨⟨s, a, b, c, e⟩, g⟩; simp_all
 rintro h; simp_all [zP]
theorem tG {d : Deed} (h : d.kind = 3 ∨ d.kind = 4) : fC d = (num d.run && num d.task && num d.try_ && decide (d.worker = 0) && decide (d.draw = 0) && mH d.plan) := by
 obtain ⟨k, r, p, t, y, w, dr⟩ := d
 simp only at h
 rw [Bool.eq_iff_iff]
 have s : ¬ k = 1 := by omega
 have a : ¬ k = 2 := by omega
 have b : inB k 1 8 = true := by rw [inB_iff']; omega
 simp only [fC, gF, cV, Bool.and_eq_true, nY, eqB, decide_eq_true_eq, Deed.mk.injEq, if_neg s, if_neg a, if_pos h, b]
 simp
 constructor
 ·rintro ⟨⟨s, a, c, e⟩, g⟩; simp_all
 rintro h; simp_all [zP]
theorem tE {d : Deed} (h : d.kind = 6 ∨ d.kind = 7) : fC d = (num d.run && decide (d.task = 0) && decide (d.try_ = 0) && decide (d.worker = 0) && decide (d.draw = 0) && mH d.plan) := by
 obtain ⟨k, r, p, t, y, w, dr⟩ := d
 simp only at h
 rw [Bool.eq_iff_iff]
 have s : ¬ k = 1 := by omega
 have a : ¬ k = 2 := by omega
 have b : ¬ (k = 3 ∨ k = 4) := by omega
 have c : inB k 1 8 = true := by rw [inB_iff']; omega
 simp only [fC, gF, cV, Bool.and_eq_true, nY, eqB, decide_eq_true_eq, Deed.mk.injEq, if_neg s, if_neg a, if_neg b, if_pos h, c]
 simp
 constructor
 ·rintro ⟨⟨s, a, b, e⟩, g⟩; simp_all
 rintro h; simp_all [zP]
theorem tF {d : Deed} (h : d.kind = 5 ∨ d.kind = 8) : fC d = (decide (d.run = 0) && decide (d.task = 0) && decide (d.try_ = 0) && decide (d.worker = 0) && decide (d.draw = 0) && mH d.plan) := by
 obtain ⟨k, r, p, t, y, w, dr⟩ := d
 simp only at h
 rw [Bool.eq_iff_iff]
 have s : ¬ k = 1 := by omega
 have a : ¬ k = 2 := by omega
 have b : ¬ (k = 3 ∨ k = 4) := by omega
 have c : ¬ (k = 6 ∨ k = 7) := by omega
 have e : inB k 1 8 = true := by rw [inB_iff']; omega
 simp only [fC, gF, cV, Bool.and_eq_true, nY, eqB, decide_eq_true_eq, Deed.mk.injEq, if_neg s, if_neg a, if_neg b, if_neg c, e]
 simp
 constructor
 ·rintro ⟨s, a, b, c⟩; simp_all
 rintro h; simp_all [zP]

theorem EqualEdge {v u : Value} {xs ys : List Edge} {fp gp : List Nat} (h : Sl w v xs fp) (g : Sl w u ys gp) :
  Calls prog 243 #[v, u] w (rB_ (eqB xs ys) w) := by
 have hcap := h.len_le
 have hcap2 := g.len_le
 refine bY func243 rfl ntmps243 aZ (wp_seq (aA (sg (aG (aB (wp_seq (wp_seq (aA (rn (St.start w) 5 Ag.nil.put.put.put [] [(10, .bool (!decide ((xs.length : Int) = (ys.length : Int))))] [ql h, ql g, .o] aD fun f4 s => (aB (cQ (s.at 10) (fun t => ?_) (fun t => ?_))))))))))))
 ·refine wp_seq (aA (sg (aG (aB (wr (bA results243 rfl ?_))))))
  exact ⟨(fB (eJ (fun e => t (by rw [e]))).symm), (St.start w).bare⟩
 refine wp_skip (wp_seq (wp_seq (aA (rn (St.start w) 3 s [] [(12, I (xs.length : Int)), (13, I 0)] [ql h] aD fun f9 a => (aB (wp_block (bF (fun (m : Nat) (f : Nat → Value) (W : World) => ∃ (k : Nat), k ≤ xs.length ∧ xs.take k = ys.take k ∧ m = xs.length - k ∧ Ag [(0, v), (1, u), (12, I (xs.length : Int)), (13, I (k : Int))] f ∧ St w W ([])) (xs.length - 0) ?_ ?_)))))))
 ·exact ⟨0, Nat.zero_le _, rfl, rfl, (a.to aD), (St.start w)⟩
 intro s f11 t b
 obtain ⟨k, hk, htk, rfl, c, d⟩ := b
 refine wp_seq (aA (sg (bU (c.at 13) (c.at 12) (aB (wp_seq (aP rfl (fun j => ?_) (fun j => ?_)))))))
 ·refine wp_skip (wp_seq (wp_block (wp_seq (aA (sg (aH (c.at 13) (sg (aF (v := I (k : Int)) rfl (aB (wp_seq ?_))))))))))
  have n : k < xs.length := aE
  have p := idx h (i := k) n
  obtain ⟨s, t, a, b, q, z, j, A⟩ := p
  have B := j
  obtain ⟨C, rfl, D⟩ := B
  have C : _ = [I (xs[k]'n).from_, I (xs[k]'n).to_] := C
  subst C
  have E : k < ys.length := aE
  have p := idx g (i := k) E
  obtain ⟨s, t, a, b, F, G, A, H⟩ := p
  have J := A
  obtain ⟨K, rfl, j⟩ := J
  have K : _ = [I (ys[k]'E).from_, I (ys[k]'E).to_] := K
  subst K
  refine rk 8 d c.put.put.put [] [(19, .agg #[I (xs[k]'n).from_, I (xs[k]'n).to_]), (23, .agg #[I (ys[k]'E).from_, I (ys[k]'E).to_])] [qx q, qr z 0, qx F, qr G 0] aD aD fun s t L M a => (sg (wE (aB5 (xs[k]'n) (ys[k]'E)) aC9 (L.at 19) (L.at 23) (aB (bZ rfl (fun N => ?_) (fun N => ?_)))))
  ·refine wp_seq (aA (sg (aG (aB (wr (bA results243 rfl ?_))))))
   have hne : ¬ xs[k] = ys[k]'(by omega) := fun e => absurd (aY N) (by rw [dN e]; decide)
   exact ⟨(fB (eJ (fun e => hne (by subst e; rfl))).symm), M.bare⟩
  refine wp_skip (aA (sg (bO (L.at 13) rfl dL (sg (aH (v := I ((k : Int) + 1)) rfl (aB ?_))))))
  exact ⟨_, xs.length - (k + 1), aE, rfl, k + 1, aE, (kB aE aE htk (eqB_iff.1 (aX N))), rfl, (L.put.put.put.to aD), M⟩
 refine wp_exit (wp_seq (aA (sg (aG (aB (wr (bA results243 rfl ?_)))))))
 obtain rfl : k = xs.length := by omega
 rw [take_length, take_of_length_le aE] at htk
 exact ⟨(fB (dN htk).symm), d.bare⟩
theorem samePlanI {x y : Plan} {cs ds : List Value} {fp gp : List Nat} (hc : Shape.C w cs x fp) (hd : Shape.C w ds y gp) :
  Calls prog 230 #[.agg cs.toArray, .agg ds.toArray] w (rB_ (eqB x y) w) := by
 refine bY func230 rfl ntmps230 aZ (wp_seq (aA (sg (aI (cs := cs) rfl (St.start w) ?_)))); intro t a c d
 refine sg (aI (cs := ds) rfl d ?_); intro g j n p
 refine sg (aG (aB (wp_seq (aA ?_))))
 have q := hc
 obtain ⟨z, A, rfl, B, D, rfl⟩ := q
 have E := hd
 obtain ⟨t, a, rfl, c, F, rfl⟩ := E
 refine rg p 34 Ag.nil.put.put.put.put.put [4] [(4, .bool (((((decide (x.prio = y.prio)) && (decide (x.most = y.most))) && (decide (x.wait = y.wait))) && (decide (x.tasks = y.tasks))) && (eqB x.edges y.edges)))] [qb 1 rfl 0, qb 0 rfl 0, .o, qb 1 rfl 1, qb 0 rfl 1, .o, qb 1 rfl 2, qb 0 rfl 2, .o, qb 1 rfl 3, qb 0 rfl 3, .o, qb 1 rfl 4, qb 0 rfl 4, qc func243 rfl (fun W s b => EqualEdge W (D.below s.below) (F.below s.below))] aD fun t a c d g => (aB (wr (bA results230 (c.at 4) ?_)))
 exact ⟨(fB (by rw [Bool.eq_iff_iff]; cases x; cases y; simp [eqB_iff, and_assoc])), d.bare⟩
theorem sameDeedI {x y : Deed} {cs ds : List Value} {fp gp : List Nat} (hc : Shape.C w cs x fp) (hd : Shape.C w ds y gp) :
  Calls prog 200 #[.agg cs.toArray, .agg ds.toArray] w (rB_ (eqB x y) w) := by
 refine bY func200 rfl ntmps200 aZ (wp_seq (aA (sg (aI (cs := cs) rfl (St.start w) ?_)))); intro t a c d
 refine sg (aI (cs := ds) rfl d ?_); intro g j n p
 refine sg (aG (aB (wp_seq (aA ?_))))
 have q := hc
 obtain ⟨z, A, rfl, B, D, rfl⟩ := q
 have E := hd
 obtain ⟨t, a, rfl, c, F, rfl⟩ := E
 refine rg p 48 Ag.nil.put.put.put.put.put [4] [(4, .bool (((((((decide (x.kind = y.kind)) && (decide (x.run = y.run))) && (eqB x.plan y.plan)) && (decide (x.task = y.task))) && (decide (x.try_ = y.try_))) && (decide (x.worker = y.worker))) && (decide (x.draw = y.draw))))] [qb 1 rfl 0, qb 0 rfl 0, .o, qb 1 rfl 1, qb 0 rfl 1, .o, qb 1 rfl 2, qb 0 rfl 2, qc func230 rfl (fun W s b => samePlanI W (show Shape.C _ [I x.plan.prio, I x.plan.most, I x.plan.wait, I x.plan.tasks, z] x.plan _ from ⟨_, _, rfl, fF, (D.below s.below), rfl⟩) (show Shape.C _ [I y.plan.prio, I y.plan.most, I y.plan.wait, I y.plan.tasks, t] y.plan _ from ⟨_, _, rfl, fF, (F.below s.below), rfl⟩)), qb 1 rfl 7, qb 0 rfl 7, .o, qb 1 rfl 8, qb 0 rfl 8, .o, qb 1 rfl 9, qb 0 rfl 9, .o, qb 1 rfl 10, qb 0 rfl 10, .o] aD fun a c d g j => (aB (wr (bA results200 (d.at 4) ?_)))
 exact ⟨(fB (by rw [Bool.eq_iff_iff]; cases x; cases y; simp [eqB_iff, and_assoc])), g.bare⟩
def oS (d : Deed) (v : Value) : List Value := [I (gF d).kind, I (gF d).run, I (gF d).plan.prio, I (gF d).plan.most, I (gF d).plan.wait, I (gF d).plan.tasks, if d.kind = 1 then v else .slice none 0 0, I (gF d).task, I (gF d).try_, I (gF d).worker, I (gF d).draw]

theorem aK3 {d : Deed} {v : Value} {fp : List Nat} (hs : Sl w v d.plan.edges fp) (hok : d.ok) :
  Calls prog 201 #[.agg [I d.kind, I d.run, I d.plan.prio, I d.plan.most, I d.plan.wait, I d.plan.tasks, v, I d.task, I d.try_, I d.worker, I d.draw].toArray] w fun e w' => e = .returned (.agg (oS d v).toArray) ∧ St w w' [] := by
 refine cN func201 rfl ntmps201 aZ (wp_seq (aA (sg (aI (cs := [I d.kind, I d.run, I d.plan.prio, I d.plan.most, I d.plan.wait, I d.plan.tasks, v, I d.task, I d.try_, I d.worker, I d.draw]) rfl (St.start w) ?_)))); intro s t a b
 refine sg (aQ vE b ?_); intro c g j n
 refine aB (wp_seq (aA (sg (aN nQ rfl (sg (aW dA rfl rfl (n.get 1 rfl) (i := 0) rfl rfl (sg (dD (vs := [(0, I d.kind)]) (cs := [I d.kind, I 0, I 0, I 0, I 0, I 0, .slice none 0 0, I 0, I 0, I 0, I 0]) (bR (v := I d.kind) rfl dJ) aD (sg (aQ vE n ?_)))))))))); intro p t a b
 refine sgn (aK (C' := [I d.kind, I 0, I 0, I 0, I 0, I 0, .slice none 0 0, I 0, I 0, I 0, I 0]) aD rfl rfl (aC rfl (aC rfl (aC rfl (aC rfl (aC rfl (aC rfl (aC rfl (aC rfl (aC rfl (aC rfl (aC rfl bE))))))))))) b bH rfl ?_); intro t q
 refine aB (wp_seq (wp_seq (aA (sg (aN nQ rfl (sg (aW dA rfl rfl (q.get 2 rfl) (i := 0) rfl rfl (aB (wp_block (wp_seq (aA (sg (dC rfl rfl (sg (aF (v := .bool (decide (d.kind = 1))) rfl ?_)))))))))))))))
 refine aB (aP rfl (fun z => ?_) (fun z => ?_))
 ·refine cK 6 [(none, some 5, .is (Res.bx p [I d.kind, I 0, I 0, I 0, I 0, I 0, .slice none 0 0, I 0, I 0, I 0, I 0] 108)), (some 5, none, .is (Res.bx p [I d.kind, I d.run, I 0, I 0, I 0, I 0, .slice none 0 0, I 0, I 0, I 0, I 0] 108))] [(true, .is (.pointer (some ⟨s, 0 + 1, none⟩))), (true, .is (I d.run)), (true, .is (.pointer (some ⟨s, 0 + 2, none⟩))), (true, .is (.agg #[I d.plan.prio, I d.plan.most, I d.plan.wait, I d.plan.tasks, v])), (true, .is (.pointer (some ⟨p, 0 + 1, none⟩))), (false, .is undef)] mix aD aD aD aD (rs0 := [Res.bx p [I d.kind, I 0, I 0, I 0, I 0, I 0, .slice none 0 0, I 0, I 0, I 0, I 0] 108]) ⟨_, _, rfl, rfl, rfl⟩ q q.below ⟨(fq_ jZ (show _ = (pt_ s : Value) from rfl)), (fun f W hst hbl hd hf => aW dA rfl (hd 0 11 rfl rfl) (hst.get 1 rfl) (i := 1) rfl rfl brq), (fq_ uH (show _ = (pt_ s : Value) from rfl)), (fun f W hst hbl hd hf => aS (cs := [I d.plan.prio, I d.plan.most, I d.plan.wait, I d.plan.tasks, v]) gU rfl (hd 2 13 rfl rfl) (hst.get 1 rfl) rfl rfl brq), (fq_ jZ (show _ = (pt_ p : Value) from rfl)), ?_, trivial⟩ ?_
  ·intro f W ru oth hu hst hbl hd hf
   obtain ⟨_, _, rfl, rfl, A⟩ := hu
   have A : _ = [] := A
   subst A
   try simp only [cap_, cL] at hst
   refine (aO (v := I d.run) (C' := [I d.kind, I d.run, I 0, I 0, I 0, I 0, .slice none 0 0, I 0, I 0, I 0, I 0]) aD (hd 4 15 rfl rfl) (hd 1 12 rfl rfl) rfl rfl hst bH rfl ?_); intro t a
   exact ⟨rfl, ⟨_, ⟨_, _, rfl, rfl, rfl⟩, a⟩, a.below⟩
  intro b g rs_ hAL_ j n B C
  obtain ⟨_, _, rfl, rfl, A⟩ := hAL_
  have A : _ = [] := A
  subst A
  try simp only [cap_, cL] at j
  refine sg (aN uH ((C 3 rfl).trans (show _ = (pt_ p : Value) from rfl)) (sgn (aK (C' := [I d.kind, I d.run, I d.plan.prio, I d.plan.most, I d.plan.wait, I d.plan.tasks, v, I 0, I 0, I 0, I 0]) aD rfl (B 3 14 aZ rfl) (aC rfl (aC rfl (aC rfl (aC rfl (aC (Sl.one hs) bE))))) j bH rfl ?_))); intro t a
  refine aB (wp_seq (aA (sg (aS (cs := [I d.kind, I d.run, I d.plan.prio, I d.plan.most, I d.plan.wait, I d.plan.tasks, v, I 0, I 0, I 0, I 0]) gB rfl ((C 3 rfl).trans (show _ = (pt_ p : Value) from rfl)) (a.get 0 rfl) rfl rfl (sgn (aK (C' := [I d.kind, I d.run, I d.plan.prio, I d.plan.most, I d.plan.wait, I d.plan.tasks, v, I 0, I 0, I 0, I 0]) aD ((C 2 rfl).trans (show _ = (pt_ c : Value) from rfl)) rfl (aC rfl (aC rfl (aC rfl (aC rfl (aC rfl (aC rfl (aC (Sl.one hs) (aC rfl (aC rfl (aC rfl (aC rfl bE))))))))))) a.f1 bH rfl ?_)))))); intro t b
  refine aB (wr (eT gB rfl results201 ((C 2 rfl).trans (show _ = (pt_ c : Value) from rfl)) (b.get 0 rfl) rfl ?_))
  exact ⟨by simp [oS, gF, zP, z], b.bare⟩
 refine wp_seq (aA (sg (dC rfl rfl (sg (aF (v := .bool (decide (d.kind = 2))) rfl (aB (aP rfl (fun D => ?_) (fun D => ?_))))))))
 ·refine cK 6 [(none, some 5, .is (Res.bx p [I d.kind, I 0, I 0, I 0, I 0, I 0, .slice none 0 0, I 0, I 0, I 0, I 0] 108)), (some 5, none, .is (Res.bx p [I d.kind, I 0, I 0, I 0, I 0, I 0, .slice none 0 0, I 0, I 0, I d.worker, I 0] 108))] [(true, .is (.pointer (some ⟨s, 0 + 9, none⟩))), (true, .is (I d.worker)), (true, .is (.pointer (some ⟨s, 0 + 10, none⟩))), (true, .is (I d.draw)), (true, .is (.pointer (some ⟨p, 0 + 9, none⟩))), (false, .is undef)] mix aD aD aD aD (rs0 := [Res.bx p [I d.kind, I 0, I 0, I 0, I 0, I 0, .slice none 0 0, I 0, I 0, I 0, I 0] 108]) ⟨_, _, rfl, rfl, rfl⟩ q q.below ⟨(fq_ zQ (show _ = (pt_ s : Value) from rfl)), (fun f W hst hbl hd hf => aW dA rfl (hd 0 19 rfl rfl) (hst.get 1 rfl) (i := 9) rfl rfl brq), (fq_ zO (show _ = (pt_ s : Value) from rfl)), (fun f W hst hbl hd hf => aW dA rfl (hd 2 21 rfl rfl) (hst.get 1 rfl) (i := 10) rfl rfl brq), (fq_ zQ (show _ = (pt_ p : Value) from rfl)), ?_, trivial⟩ ?_
  ·intro f W ru oth hu hst hbl hd hf
   obtain ⟨_, _, rfl, rfl, A⟩ := hu
   have A : _ = [] := A
   subst A
   try simp only [cap_, cL] at hst
   refine (aO (v := I d.worker) (C' := [I d.kind, I 0, I 0, I 0, I 0, I 0, .slice none 0 0, I 0, I 0, I d.worker, I 0]) aD (hd 4 23 rfl rfl) (hd 1 20 rfl rfl) rfl rfl hst bH rfl ?_); intro t a
   exact ⟨rfl, ⟨_, ⟨_, _, rfl, rfl, rfl⟩, a⟩, a.below⟩
  intro b g rs_ hAL_ j n B C
  obtain ⟨_, _, rfl, rfl, A⟩ := hAL_
  have A : _ = [] := A
  subst A
  try simp only [cap_, cL] at j
  refine sg (aN zO ((C 3 rfl).trans (show _ = (pt_ p : Value) from rfl)) (sgn (aO (v := I d.draw) (C' := [I d.kind, I 0, I 0, I 0, I 0, I 0, .slice none 0 0, I 0, I 0, I d.worker, I d.draw]) aD rfl (B 3 22 aZ rfl) rfl rfl j bH rfl ?_))); intro t a
  refine aB (wp_seq (aA (sg (aS (cs := [I d.kind, I 0, I 0, I 0, I 0, I 0, .slice none 0 0, I 0, I 0, I d.worker, I d.draw]) gB rfl ((C 3 rfl).trans (show _ = (pt_ p : Value) from rfl)) (a.get 0 rfl) rfl rfl (sgn (aK (C' := [I d.kind, I 0, I 0, I 0, I 0, I 0, .slice none 0 0, I 0, I 0, I d.worker, I d.draw]) aD ((C 2 rfl).trans (show _ = (pt_ c : Value) from rfl)) rfl (aC rfl (aC rfl (aC rfl (aC rfl (aC rfl (aC rfl (aC rfl (aC rfl (aC rfl (aC rfl (aC rfl bE))))))))))) a.f1 bH rfl ?_)))))); intro t b
  refine aB (wr (eT gB rfl results201 ((C 2 rfl).trans (show _ = (pt_ c : Value) from rfl)) (b.get 0 rfl) rfl ?_))
  exact ⟨by simp [oS, gF, zP, z, D], b.bare⟩
 refine wp_seq (wp_seq (aA (sg (dC rfl rfl (sg (aF (v := .bool (decide (d.kind = 3))) rfl (aB (aP rfl (fun E => ?_) (fun E => ?_)))))))))
 ·have F := decide_eq_true E
  refine wp_skip (gY rfl F (cK 10 [(none, some 7, .is (Res.bx p [I d.kind, I 0, I 0, I 0, I 0, I 0, .slice none 0 0, I 0, I 0, I 0, I 0] 108)), (some 7, some 9, .is (Res.bx p [I d.kind, I d.run, I 0, I 0, I 0, I 0, .slice none 0 0, I 0, I 0, I 0, I 0] 108)), (some 9, none, .is (Res.bx p [I d.kind, I d.run, I 0, I 0, I 0, I 0, .slice none 0 0, I d.task, I 0, I 0, I 0] 108))] [(true, .is (.pointer (some ⟨s, 0 + 1, none⟩))), (true, .is (I d.run)), (true, .is (.pointer (some ⟨s, 0 + 7, none⟩))), (true, .is (I d.task)), (true, .is (.pointer (some ⟨s, 0 + 8, none⟩))), (true, .is (I d.try_)), (true, .is (.pointer (some ⟨p, 0 + 1, none⟩))), (false, .is undef), (true, .is (.pointer (some ⟨p, 0 + 7, none⟩))), (false, .is undef)] mix aD aD aD aD (rs0 := [Res.bx p [I d.kind, I 0, I 0, I 0, I 0, I 0, .slice none 0 0, I 0, I 0, I 0, I 0] 108]) ⟨_, _, rfl, rfl, rfl⟩ q q.below ⟨(fq_ jZ (show _ = (pt_ s : Value) from rfl)), (fun f W hst hbl hd hf => aW dA rfl (hd 0 28 rfl rfl) (hst.get 1 rfl) (i := 1) rfl rfl brq), (fq_ qT (show _ = (pt_ s : Value) from rfl)), (fun f W hst hbl hd hf => aW dA rfl (hd 2 30 rfl rfl) (hst.get 1 rfl) (i := 7) rfl rfl brq), (fq_ qS (show _ = (pt_ s : Value) from rfl)), (fun f W hst hbl hd hf => aW dA rfl (hd 4 32 rfl rfl) (hst.get 1 rfl) (i := 8) rfl rfl brq), (fq_ jZ (show _ = (pt_ p : Value) from rfl)), ?_, (fq_ qT (show _ = (pt_ p : Value) from rfl)), ?_, trivial⟩ ?_))
  ·intro f W ru oth hu hst hbl hd hf
   obtain ⟨_, _, rfl, rfl, A⟩ := hu
   have A : _ = [] := A
   subst A
   try simp only [cap_, cL] at hst
   refine (aO (v := I d.run) (C' := [I d.kind, I d.run, I 0, I 0, I 0, I 0, .slice none 0 0, I 0, I 0, I 0, I 0]) aD (hd 6 34 rfl rfl) (hd 1 29 rfl rfl) rfl rfl hst bH rfl ?_); intro t a
   exact ⟨rfl, ⟨_, ⟨_, _, rfl, rfl, rfl⟩, a⟩, a.below⟩
  ·intro f W ru oth hu hst hbl hd hf
   obtain ⟨_, _, rfl, rfl, A⟩ := hu
   have A : _ = [] := A
   subst A
   try simp only [cap_, cL] at hst
   refine (aO (v := I d.task) (C' := [I d.kind, I d.run, I 0, I 0, I 0, I 0, .slice none 0 0, I d.task, I 0, I 0, I 0]) aD (hd 8 35 rfl rfl) (hd 3 31 rfl rfl) rfl rfl hst bH rfl ?_); intro t a
   exact ⟨rfl, ⟨_, ⟨_, _, rfl, rfl, rfl⟩, a⟩, a.below⟩
  intro b g rs_ hAL_ j n B C
  obtain ⟨_, _, rfl, rfl, A⟩ := hAL_
  have A : _ = [] := A
  subst A
  try simp only [cap_, cL] at j
  refine sg (aN qS ((C 3 rfl).trans (show _ = (pt_ p : Value) from rfl)) (sgn (aO (v := I d.try_) (C' := [I d.kind, I d.run, I 0, I 0, I 0, I 0, .slice none 0 0, I d.task, I d.try_, I 0, I 0]) aD rfl (B 5 33 aZ rfl) rfl rfl j bH rfl ?_))); intro t a
  refine aB (wp_seq (aA (sg (aS (cs := [I d.kind, I d.run, I 0, I 0, I 0, I 0, .slice none 0 0, I d.task, I d.try_, I 0, I 0]) gB rfl ((C 3 rfl).trans (show _ = (pt_ p : Value) from rfl)) (a.get 0 rfl) rfl rfl (sgn (aK (C' := [I d.kind, I d.run, I 0, I 0, I 0, I 0, .slice none 0 0, I d.task, I d.try_, I 0, I 0]) aD ((C 2 rfl).trans (show _ = (pt_ c : Value) from rfl)) rfl (aC rfl (aC rfl (aC rfl (aC rfl (aC rfl (aC rfl (aC rfl (aC rfl (aC rfl (aC rfl (aC rfl bE))))))))))) a.f1 bH rfl ?_)))))); intro t b
  refine aB (wr (eT gB rfl results201 ((C 2 rfl).trans (show _ = (pt_ c : Value) from rfl)) (b.get 0 rfl) rfl ?_))
  exact ⟨by simp [oS, gF, zP, z, D, E], b.bare⟩
 have F := decide_eq_false E
 refine aA (sg (dC rfl rfl (sg (aF (v := .bool (decide (d.kind = 4))) rfl (aB (aP rfl (fun G => ?_) (fun G => ?_)))))))
 ·refine cK 10 [(none, some 7, .is (Res.bx p [I d.kind, I 0, I 0, I 0, I 0, I 0, .slice none 0 0, I 0, I 0, I 0, I 0] 108)), (some 7, some 9, .is (Res.bx p [I d.kind, I d.run, I 0, I 0, I 0, I 0, .slice none 0 0, I 0, I 0, I 0, I 0] 108)), (some 9, none, .is (Res.bx p [I d.kind, I d.run, I 0, I 0, I 0, I 0, .slice none 0 0, I d.task, I 0, I 0, I 0] 108))] [(true, .is (.pointer (some ⟨s, 0 + 1, none⟩))), (true, .is (I d.run)), (true, .is (.pointer (some ⟨s, 0 + 7, none⟩))), (true, .is (I d.task)), (true, .is (.pointer (some ⟨s, 0 + 8, none⟩))), (true, .is (I d.try_)), (true, .is (.pointer (some ⟨p, 0 + 1, none⟩))), (false, .is undef), (true, .is (.pointer (some ⟨p, 0 + 7, none⟩))), (false, .is undef)] mix aD aD aD aD (rs0 := [Res.bx p [I d.kind, I 0, I 0, I 0, I 0, I 0, .slice none 0 0, I 0, I 0, I 0, I 0] 108]) ⟨_, _, rfl, rfl, rfl⟩ q q.below ⟨(fq_ jZ (show _ = (pt_ s : Value) from rfl)), (fun f W hst hbl hd hf => aW dA rfl (hd 0 28 rfl rfl) (hst.get 1 rfl) (i := 1) rfl rfl brq), (fq_ qT (show _ = (pt_ s : Value) from rfl)), (fun f W hst hbl hd hf => aW dA rfl (hd 2 30 rfl rfl) (hst.get 1 rfl) (i := 7) rfl rfl brq), (fq_ qS (show _ = (pt_ s : Value) from rfl)), (fun f W hst hbl hd hf => aW dA rfl (hd 4 32 rfl rfl) (hst.get 1 rfl) (i := 8) rfl rfl brq), (fq_ jZ (show _ = (pt_ p : Value) from rfl)), ?_, (fq_ qT (show _ = (pt_ p : Value) from rfl)), ?_, trivial⟩ ?_
  ·intro f W ru oth hu hst hbl hd hf
   obtain ⟨_, _, rfl, rfl, A⟩ := hu
   have A : _ = [] := A
   subst A
   try simp only [cap_, cL] at hst
   refine (aO (v := I d.run) (C' := [I d.kind, I d.run, I 0, I 0, I 0, I 0, .slice none 0 0, I 0, I 0, I 0, I 0]) aD (hd 6 34 rfl rfl) (hd 1 29 rfl rfl) rfl rfl hst bH rfl ?_); intro t a
   exact ⟨rfl, ⟨_, ⟨_, _, rfl, rfl, rfl⟩, a⟩, a.below⟩
  ·intro f W ru oth hu hst hbl hd hf
   obtain ⟨_, _, rfl, rfl, A⟩ := hu
   have A : _ = [] := A
   subst A
   try simp only [cap_, cL] at hst
   refine (aO (v := I d.task) (C' := [I d.kind, I d.run, I 0, I 0, I 0, I 0, .slice none 0 0, I d.task, I 0, I 0, I 0]) aD (hd 8 35 rfl rfl) (hd 3 31 rfl rfl) rfl rfl hst bH rfl ?_); intro t a
   exact ⟨rfl, ⟨_, ⟨_, _, rfl, rfl, rfl⟩, a⟩, a.below⟩
  intro b g rs_ hAL_ j n B C
  obtain ⟨_, _, rfl, rfl, A⟩ := hAL_
  have A : _ = [] := A
  subst A
  try simp only [cap_, cL] at j
  refine sg (aN qS ((C 3 rfl).trans (show _ = (pt_ p : Value) from rfl)) (sgn (aO (v := I d.try_) (C' := [I d.kind, I d.run, I 0, I 0, I 0, I 0, .slice none 0 0, I d.task, I d.try_, I 0, I 0]) aD rfl (B 5 33 aZ rfl) rfl rfl j bH rfl ?_))); intro t a
  refine aB (wp_seq (aA (sg (aS (cs := [I d.kind, I d.run, I 0, I 0, I 0, I 0, .slice none 0 0, I d.task, I d.try_, I 0, I 0]) gB rfl ((C 3 rfl).trans (show _ = (pt_ p : Value) from rfl)) (a.get 0 rfl) rfl rfl (sgn (aK (C' := [I d.kind, I d.run, I 0, I 0, I 0, I 0, .slice none 0 0, I d.task, I d.try_, I 0, I 0]) aD ((C 2 rfl).trans (show _ = (pt_ c : Value) from rfl)) rfl (aC rfl (aC rfl (aC rfl (aC rfl (aC rfl (aC rfl (aC rfl (aC rfl (aC rfl (aC rfl (aC rfl bE))))))))))) a.f1 bH rfl ?_)))))); intro t b
  refine aB (wr (eT gB rfl results201 ((C 2 rfl).trans (show _ = (pt_ c : Value) from rfl)) (b.get 0 rfl) rfl ?_))
  exact ⟨by simp [oS, gF, zP, z, D, E, G], b.bare⟩
 refine wp_seq (wp_seq (aA (sg (dC rfl rfl (sg (aF (v := .bool (decide (d.kind = 6))) rfl (aB (aP rfl (fun t => ?_) (fun t => ?_)))))))))
 ·have a := decide_eq_true t
  refine wp_skip (gY rfl a (aA (lw Ag.nil.put.put.put.put.put.put.put.put.put.put.put.put.put.put.put.put.put.put.put [(1, pt_ s), (2, pt_ c), (3, pt_ p)] aD fun b => (rn q 3 b [] [(41, I d.run), (42, .pointer (some ⟨p, 1, none⟩))] [qb 2 rfl 1] aD fun g j => (sgn (aO (v := I d.run) (C' := [I d.kind, I d.run, I 0, I 0, I 0, I 0, .slice none 0 0, I 0, I 0, I 0, I 0]) aD (j.at 42) (j.at 41) rfl rfl q bH rfl ?_)))))); intro b n
  refine aB (wp_seq (aA (sg (aS (cs := [I d.kind, I d.run, I 0, I 0, I 0, I 0, .slice none 0 0, I 0, I 0, I 0, I 0]) gB rfl (j.at 3) (n.get 0 rfl) rfl rfl (sgn (aK (C' := [I d.kind, I d.run, I 0, I 0, I 0, I 0, .slice none 0 0, I 0, I 0, I 0, I 0]) aD (j.at 2) rfl (aC rfl (aC rfl (aC rfl (aC rfl (aC rfl (aC rfl (aC rfl (aC rfl (aC rfl (aC rfl (aC rfl bE))))))))))) n.f1 bH rfl ?_)))))); intro b g
  refine aB (wr (eT gB rfl results201 (j.at 2) (g.get 0 rfl) rfl ?_))
  exact ⟨by simp [oS, gF, zP, z, D, E, G, t], g.bare⟩
 have a := decide_eq_false t
 refine aA (sg (dC rfl rfl (sg (aF (v := .bool (decide (d.kind = 7))) rfl (aB (aP rfl (fun b => ?_) (fun b => ?_)))))))
 ·refine aA (lw Ag.nil.put.put.put.put.put.put.put.put.put.put.put.put.put.put.put.put.put.put.put.put.put [(1, pt_ s), (2, pt_ c), (3, pt_ p)] aD fun g => (rn q 3 g [] [(41, I d.run), (42, .pointer (some ⟨p, 1, none⟩))] [qb 2 rfl 1] aD fun a j => (sgn (aO (v := I d.run) (C' := [I d.kind, I d.run, I 0, I 0, I 0, I 0, .slice none 0 0, I 0, I 0, I 0, I 0]) aD (j.at 42) (j.at 41) rfl rfl q bH rfl ?_)))); intro s c
  refine aB (wp_seq (aA (sg (aS (cs := [I d.kind, I d.run, I 0, I 0, I 0, I 0, .slice none 0 0, I 0, I 0, I 0, I 0]) gB rfl (j.at 3) (c.get 0 rfl) rfl rfl (sgn (aK (C' := [I d.kind, I d.run, I 0, I 0, I 0, I 0, .slice none 0 0, I 0, I 0, I 0, I 0]) aD (j.at 2) rfl (aC rfl (aC rfl (aC rfl (aC rfl (aC rfl (aC rfl (aC rfl (aC rfl (aC rfl (aC rfl (aC rfl bE))))))))))) c.f1 bH rfl ?_)))))); intro s a
  refine aB (wr (eT gB rfl results201 (j.at 2) (a.get 0 rfl) rfl ?_))
  exact ⟨by simp [oS, gF, zP, z, D, E, G, t, b], a.bare⟩
 refine wp_skip (wp_seq (aA (sg (aS (cs := [I d.kind, I 0, I 0, I 0, I 0, I 0, .slice none 0 0, I 0, I 0, I 0, I 0]) gB rfl rfl (q.get 0 rfl) rfl rfl (sgn (aK (C' := [I d.kind, I 0, I 0, I 0, I 0, I 0, .slice none 0 0, I 0, I 0, I 0, I 0]) aD rfl rfl (aC rfl (aC rfl (aC rfl (aC rfl (aC rfl (aC rfl (aC rfl (aC rfl (aC rfl (aC rfl (aC rfl bE))))))))))) q.f1 bH rfl ?_)))))); intro s a
 refine aB (wr (eT gB rfl results201 rfl (a.get 0 rfl) rfl ?_))
 exact ⟨by simp [oS, gF, zP, z, D, E, G, t, b], a.bare⟩
theorem usedOfX {w : World} {d : Deed} {cs : List Value} {fp : List Nat} (hc : Shape.C w cs d fp) : ∃ cs' fp', Shape.C w cs' (gF d) fp' ∧ ∀ W, Below w.heap.size w W → Calls prog 201 #[.agg cs.toArray] W fun e w' => e = .returned (.agg cs'.toArray) ∧ St W w' [] := by
 obtain ⟨v, g, rfl, hok, hs, rfl⟩ := hc
 have s : (gF d).ok := by unfold gF; (repeat' split) <;> simp only [Deed.ok, Plan.ok, zP, I64] at * <;> omega
 by_cases h : d.kind = 1
 ·exact ⟨oS d v, _, ⟨v, _, by simp [oS, h], s, by simpa [gF, h] using hs, rfl⟩, fun W hb => aK3 W (hs.below hb) hok⟩
 refine ⟨oS d v, [], ⟨.slice none 0 0, [], by simp [oS, h], s, ?_, rfl⟩, fun W hb => aK3 W (hs.below hb) hok⟩
 have : (gF d).plan.edges = [] := by unfold gF; rw [if_neg h]; (repeat' split) <;> rfl
 rw [this]; exact nil_Sl

theorem deedNumsI {d : Deed} (hc : Shape.C w cs d fp) (hl : d.plan.edges.length ≤ 1048576) :
  Calls prog 202 #[.agg cs.toArray] w (rS_ (cV d) w) := by
 refine cN func202 rfl ntmps202 aZ (wp_seq (aA (sg (aI (cs := cs) rfl (St.start w) ?_)))); intro s t a b
 refine sg (aF (v := .slice none 0 0) rfl (aB (wp_seq (wp_seq (aA ?_)))))
 have c := hc
 obtain ⟨g, j, rfl, n, p, rfl⟩ := c
 refine sg (aN nQ rfl (sg (aW dA rfl rfl (b.get 0 rfl) (i := 0) rfl rfl (aB (wp_block (wp_seq (aA (sg (dC rfl rfl (sg (aF (v := .bool (decide (d.kind = 1))) rfl (aB (aP rfl (fun q => ?_) (fun q => ?_))))))))))))))
 ·refine wp_seq (aA (rn b 18 Ag.nil.put.put.put.put.put.put.put [] [(11, I d.run), (14, I d.plan.prio), (17, I d.plan.most), (20, I d.plan.wait), (23, I d.plan.tasks), (27, I (d.plan.edges.length : Int))] [qb 0 rfl 1, qb 0 rfl 2, qb 0 rfl 3, qb 0 rfl 4, qb 0 rfl 5, qb 0 rfl 6, ql p] aD fun f15 t => (sg (aU (cs := [I d.run, I d.plan.prio, I d.plan.most, I d.plan.wait, I d.plan.tasks, I (d.plan.edges.length : Int)]) (e := 3) (bR (t.at 11) (bR (t.at 14) (bR (t.at 17) (bR (t.at 20) (bR (t.at 23) (bR (t.at 27) dJ)))))) (eR cP _ rfl (dQ rfl (dQ rfl (dQ rfl (dQ rfl (dQ rfl (dQ rfl nH))))))) b ?_)))); intro a c j n
  refine sg (aF (v := .slice (some ⟨a, 0, none⟩) 6 6) rfl (aB (wp_seq (wp_seq (aA (rn n 3 t.put.put [] [(31, g)] [qb 1 rfl 6] aD fun z A => ?_))))))
  have B := St.row_lit (α := Int) (ys := [d.run, d.plan.prio, d.plan.most, d.plan.wait, d.plan.tasks, (d.plan.edges.length : Int)]) n rfl bH (Elems.ic (by simp only [Deed.ok, Plan.ok, I64] at *; omega) (Elems.ic (by simp only [Deed.ok, Plan.ok, I64] at *; omega) (Elems.ic (by simp only [Deed.ok, Plan.ok, I64] at *; omega) (Elems.ic (by simp only [Deed.ok, Plan.ok, I64] at *; omega) (Elems.ic (by simp only [Deed.ok, Plan.ok, I64] at *; omega) (Elems.ic (by simp only [Deed.ok, Plan.ok, I64] at *; omega) Elems.i0))))))
  refine sg (eY kY (A.at 31) p (sg (aH (v := I 0) rfl (aB (wp_block (bF (fun (m : Nat) (f : Nat → Value) (W : World) => ∃ (k : Nat) (D : Value), k ≤ d.plan.edges.length ∧ m = d.plan.edges.length - k ∧ Ag [(3, D), (31, g), (32, I (d.plan.edges.length : Int)), (33, I (k : Int))] f ∧ St w W ([Res.row (α := Int) 3 D ([d.run, d.plan.prio, d.plan.most, d.plan.wait, d.plan.tasks, (d.plan.edges.length : Int)] ++ hK (d.plan.edges.take k)) [], Res.bx s [I d.kind, I d.run, I d.plan.prio, I d.plan.most, I d.plan.wait, I d.plan.tasks, g, I d.task, I d.try_, I d.worker, I d.draw] 108])) (d.plan.edges.length - 0) ?_ ?_))))))
  ·exact ⟨0, (.slice (some ⟨a, 0, none⟩) 6 6), (by first | omega | simp), rfl, (A.put.put.to aD), (by simpa [hK] using B)⟩
  intro s t c j
  obtain ⟨k, D, n, rfl, E, F⟩ := j
  have henl : (hK (d.plan.edges.take k)).length = 2 * k := by rw [oL, length_take]; omega
  have hll : ([d.run, d.plan.prio, d.plan.most, d.plan.wait, d.plan.tasks, (d.plan.edges.length : Int)] ++ hK (d.plan.edges.take k)).length = 6 + 2 * k := by rw [length_append, henl]; rfl
  refine wp_seq (aA (sg (bU (E.at 33) (E.at 32) (aB (wp_seq (aP rfl (fun s => ?_) (fun s => ?_)))))))
  ·refine wp_skip (wp_seq (wp_block (wp_seq (aA ?_))))
   have G : k < d.plan.edges.length := aE
   have H := idx p (i := k) G
   obtain ⟨t, a, c, g, j, n, z, A⟩ := H
   refine sg (aT kY (E.at 31) j (E.at 33) rfl (sg (cY iJ rfl rfl n F.below (Shape.len z) (sg (aQ lJ F ?_))))); intro s B J K
   refine sgn (aJ (cs := c) iJ z rfl rfl K rfl ?_); intro t L
   refine aB (aA ?_)
   have M := z
   obtain ⟨N, rfl, a⟩ := M
   have N : _ = [I (d.plan.edges[k]'G).from_, I (d.plan.edges[k]'G).to_] := N
   subst N
   refine rn L 5 E.put.put.put.put [] [(37, D), (39, I (d.plan.edges[k]'G).from_), (41, I (d.plan.edges[k]'G).to_)] [qb 0 rfl 0, qb 0 rfl 1] aD fun s t => (sg (aU (cs := [I (d.plan.edges[k]'G).from_, I (d.plan.edges[k]'G).to_]) (e := 3) (bR (t.at 39) (bR (t.at 41) dJ)) (eR cP _ rfl (dQ rfl (dQ rfl nH))) L ?_)); intro s a c g
   refine sg (cA (ys := [(d.plan.edges[k]'G).from_, (d.plan.edges[k]'G).to_]) cP (t.at 37) rfl rfl g.f2 (Elems.ic (by simp only [Edge.ok, I64] at *; omega) (Elems.ic (by simp only [Edge.ok, I64] at *; omega) Elems.i0)) (by rw [hll]; unfold maxLen; omega) (by rw [hll]; omega) ?_); intro s a c
   refine sg (aF (v := s) rfl (aB (aA (sg (bO (t.at 33) rfl dL (sg (aH (v := I ((k : Int) + 1)) rfl (aB ?_))))))))
   have g := c.f2
   exact ⟨_, d.plan.edges.length - (k + 1), aE, rfl, k + 1, s, aE, rfl, (t.put.put.put.put.put.to aD), (by rw [edgeNums_s aE, ← append_assoc]; exact g.f1.d2)⟩
  refine wp_exit (wp_seq (aA (sg (aH (E.at 3) (sg (aF (v := D) rfl (aB (wr (bA results202 rfl ?_)))))))))
  obtain rfl : k = d.plan.edges.length := by omega
  rw [take_length] at F
  have hx : cV d = [d.run, d.plan.prio, d.plan.most, d.plan.wait, d.plan.tasks, (d.plan.edges.length : Int)] ++ hK d.plan.edges := by simp [cV, q]
  rw [hx]
  have H := F.shut
  obtain ⟨fpz, stz⟩ := H
  exact ⟨_, fpz, rfl, stz.only 0 rfl⟩
 refine wp_seq (aA (sg (dC rfl rfl (sg (aF (v := .bool (decide (d.kind = 2))) rfl (aB (aP rfl (fun s => ?_) (fun s => ?_))))))))
 ·refine wp_seq (aA (rn b 4 Ag.nil.put.put.put.put.put.put.put.put.put [] [(49, I d.worker), (51, I d.draw)] [qb 0 rfl 9, qb 0 rfl 10] aD fun t a => (sg (aU (cs := [I d.worker, I d.draw]) (e := 3) (bR (a.at 49) (bR (a.at 51) dJ)) (eR cP _ rfl (dQ rfl (dQ rfl nH))) b ?_)))); intro c g j n
  refine sg (aF (v := .slice (some ⟨c, 0, none⟩) 2 2) rfl (aB (wr (bA results202 rfl ?_))))
  have t := St.row_lit (α := Int) (ys := [d.worker, d.draw]) n rfl bH (Elems.ic (by simp only [Deed.ok, Plan.ok, I64] at *; omega) (Elems.ic (by simp only [Deed.ok, Plan.ok, I64] at *; omega) Elems.i0))
  have hx : cV d = [d.worker, d.draw] := by simp [cV, q, s]
  rw [hx]
  have H := t.shut
  obtain ⟨fpz, stz⟩ := H
  exact ⟨_, fpz, rfl, stz.only 0 rfl⟩
 refine wp_seq (wp_seq (aA (sg (dC rfl rfl (sg (aF (v := .bool (decide (d.kind = 3))) rfl (aB (aP rfl (fun a => ?_) (fun a => ?_)))))))))
 ·have c := decide_eq_true a
  refine wp_skip (gY rfl c (wp_seq (aA (rn b 6 Ag.nil.put.put.put.put.put.put.put.put.put.put.put [] [(57, I d.run), (59, I d.task), (61, I d.try_)] [qb 0 rfl 1, qb 0 rfl 7, qb 0 rfl 8] aD fun t g => (sg (aU (cs := [I d.run, I d.task, I d.try_]) (e := 3) (bR (g.at 57) (bR (g.at 59) (bR (g.at 61) dJ))) (eR cP _ rfl (dQ rfl (dQ rfl (dQ rfl nH)))) b ?_)))))); intro t j n p
  refine sg (aF (v := .slice (some ⟨t, 0, none⟩) 3 3) rfl (aB (wr (bA results202 rfl ?_))))
  have z := St.row_lit (α := Int) (ys := [d.run, d.task, d.try_]) p rfl bH (Elems.ic (by simp only [Deed.ok, Plan.ok, I64] at *; omega) (Elems.ic (by simp only [Deed.ok, Plan.ok, I64] at *; omega) (Elems.ic (by simp only [Deed.ok, Plan.ok, I64] at *; omega) Elems.i0)))
  have hx : cV d = [d.run, d.task, d.try_] := by simp [cV, q, s, a]
  rw [hx]
  have H := z.shut
  obtain ⟨fpz, stz⟩ := H
  exact ⟨_, fpz, rfl, stz.only 0 rfl⟩
 have c := decide_eq_false a
 refine aA (sg (dC rfl rfl (sg (aF (v := .bool (decide (d.kind = 4))) rfl (aB (aP rfl (fun t => ?_) (fun t => ?_)))))))
 ·refine wp_seq (aA (rn b 6 Ag.nil.put.put.put.put.put.put.put.put.put.put.put.put.put [] [(57, I d.run), (59, I d.task), (61, I d.try_)] [qb 0 rfl 1, qb 0 rfl 7, qb 0 rfl 8] aD fun c g => (sg (aU (cs := [I d.run, I d.task, I d.try_]) (e := 3) (bR (g.at 57) (bR (g.at 59) (bR (g.at 61) dJ))) (eR cP _ rfl (dQ rfl (dQ rfl (dQ rfl nH)))) b ?_)))); intro c j n p
  refine sg (aF (v := .slice (some ⟨c, 0, none⟩) 3 3) rfl (aB (wr (bA results202 rfl ?_))))
  have z := St.row_lit (α := Int) (ys := [d.run, d.task, d.try_]) p rfl bH (Elems.ic (by simp only [Deed.ok, Plan.ok, I64] at *; omega) (Elems.ic (by simp only [Deed.ok, Plan.ok, I64] at *; omega) (Elems.ic (by simp only [Deed.ok, Plan.ok, I64] at *; omega) Elems.i0)))
  have hx : cV d = [d.run, d.task, d.try_] := by simp [cV, q, s, a, t]
  rw [hx]
  have H := z.shut
  obtain ⟨fpz, stz⟩ := H
  exact ⟨_, fpz, rfl, stz.only 0 rfl⟩
 refine wp_seq (wp_seq (aA (sg (dC rfl rfl (sg (aF (v := .bool (decide (d.kind = 6))) rfl (aB (aP rfl (fun c => ?_) (fun c => ?_)))))))))
 ·have g := decide_eq_true c
  refine wp_skip (gY rfl g (wp_seq (aA (sg (aN jZ rfl (sg (aW dA rfl rfl (b.get 0 rfl) (i := 1) rfl rfl (sg (aU (cs := [I d.run]) (e := 3) (bR (v := I d.run) rfl dJ) (bG cP _ _ rfl rfl aZ) b ?_))))))))); intro j n p z
  refine sg (aF (v := .slice (some ⟨j, 0, none⟩) 1 1) rfl (aB (wr (bA results202 rfl ?_))))
  have A := St.row_lit (α := Int) (ys := [d.run]) z rfl bH (Elems.ic (by simp only [Deed.ok, Plan.ok, I64] at *; omega) Elems.i0)
  have hx : cV d = [d.run] := by simp [cV, q, s, a, t, c]
  rw [hx]
  have H := A.shut
  obtain ⟨fpz, stz⟩ := H
  exact ⟨_, fpz, rfl, stz.only 0 rfl⟩
 have g := decide_eq_false c
 refine aA (sg (dC rfl rfl (sg (aF (v := .bool (decide (d.kind = 7))) rfl (aB (aP rfl (fun j => ?_) (fun j => ?_)))))))
 ·refine wp_seq (aA (sg (aN jZ rfl (sg (aW dA rfl rfl (b.get 0 rfl) (i := 1) rfl rfl (sg (aU (cs := [I d.run]) (e := 3) (bR (v := I d.run) rfl dJ) (bG cP _ _ rfl rfl aZ) b ?_))))))); intro g n p z
  refine sg (aF (v := .slice (some ⟨g, 0, none⟩) 1 1) rfl (aB (wr (bA results202 rfl ?_))))
  have A := St.row_lit (α := Int) (ys := [d.run]) z rfl bH (Elems.ic (by simp only [Deed.ok, Plan.ok, I64] at *; omega) Elems.i0)
  have hx : cV d = [d.run] := by simp [cV, q, s, a, t, c, j]
  rw [hx]
  have H := A.shut
  obtain ⟨fpz, stz⟩ := H
  exact ⟨_, fpz, rfl, stz.only 0 rfl⟩
 refine wp_skip (wp_seq (aA (sg (aF (v := .slice none 0 0) rfl (aB (wr (bA results202 rfl ?_)))))))
 have g := b.row_nil (α := Int) 3
 have hx : cV d = [] := by simp [cV, q, s, a, t, c, j]
 rw [hx]
 have H := g.shut
 obtain ⟨fpz, stz⟩ := H
 exact ⟨_, fpz, rfl, stz.only 0 rfl⟩
theorem DeedOkI {d : Deed} (hc : Shape.C w cs d fp) :
  Calls prog 145 #[.agg cs.toArray] w (rB_ (fC d) w) := by
 have t := usedOfX hc
 obtain ⟨cu, fu, hcu, hU⟩ := t
 refine cN func145 rfl ntmps145 aZ (wp_seq (aA (sg (aI (cs := cs) rfl (St.start w) ?_)))); intro a c g j
 refine sg (aG (aB (wp_seq (wp_seq ?_))))
 rcases bd (!(inB d.kind 1 8)) with q | q
 ·have z := inB_iff'.1 (aX q)
  rcases nem (31 < (d.plan.edges.length : Int)) with A | A
  ·have B := decide_eq_false A
   have D := hc
   obtain ⟨E, c, rfl, g, F, rfl⟩ := D
   refine rd j Ag.nil.put.put.put [] [(22, .bool (!(eqB d (gF d))))] [qb 0 rfl 0, qc func47 rfl (fun W s b => cF W d.kind 1 8), qk q, qb 0 rfl 6, ql F, qk B, qb 0 rfl 0, qb 0 rfl 0, qc func201 rfl (fun W s b => hU W s.below), qc func200 rfl (fun W s b => sameDeedI W (aR hc s.below) (aR hcu s.below)), .o] aD aD fun c g D G H => (bZ (D.at 22) (fun J => ?_) (fun J => ?_))
   ·refine wp_seq (aA (sg (aG (aB (wr (bA results145 rfl ?_))))))
    exact ⟨(fB (by unfold fC; rw [aY J]; simp)), G.bare⟩
   refine wp_skip (wp_seq (wp_seq (aA (sg (aS (cs := [I d.kind, I d.run, I d.plan.prio, I d.plan.most, I d.plan.wait, I d.plan.tasks, E, I d.task, I d.try_, I d.worker, I d.draw]) gB rfl (D.at 1) (G.get 0 rfl) rfl rfl (sg (bC func202 rfl rfl ((deedNumsI g (aR hc G.below) aE).mono ?_)))))))); rintro _ c ⟨F, H, rfl, K⟩; refine ⟨_, rfl, ?_⟩
   have L := St.call G K
   refine sg (eY eG rfl (aM (L.get 0 rfl)) (sg (aH (v := I 0) rfl (aB (wp_block (bF (fun (m : Nat) (f : Nat → Value) (W : World) => ∃ (k : Nat), k ≤ (cV d).length ∧ ((cV d).take k).any (fun n => !num n) = false ∧ m = (cV d).length - k ∧ Ag [(24, F), (25, I ((cV d).length : Int)), (26, I (k : Int))] f ∧ St w W ([Res.own (α := List Int) F (cV d) H, Res.bx a [I d.kind, I d.run, I d.plan.prio, I d.plan.most, I d.plan.wait, I d.plan.tasks, E, I d.task, I d.try_, I d.worker, I d.draw] 108])) ((cV d).length - 0) ?_ ?_))))))
   ·exact ⟨0, Nat.zero_le _, rfl, rfl, (D.put.put.put.put.to aD), L⟩
   intro c g F G
   obtain ⟨k, hk, hany, rfl, M, N⟩ := G
   have hdl := deedNums_len d
   refine wp_seq (aA (sg (bU (M.at 26) (M.at 25) (aB (wp_seq (aP rfl (fun a => ?_) (fun a => ?_)))))))
   ·refine wp_skip (wp_seq (wp_block (wp_seq (aA ?_))))
    have O : k < (cV d).length := aE
    have t := idx (aM (N.get 0 rfl)) (i := k) O
    obtain ⟨c, g, D, E, P, R, F, G⟩ := t
    have S := F
    obtain ⟨rfl, rfl, H⟩ := S
    refine rn N 3 M.put [] [(4, I ((cV d)[k]'O))] [qx P, qn R 0] aD fun a K => (aB (wp_seq (aA (rc N 3 K [] [(32, .bool (!(inB ((cV d)[k]'O) 0 1000000000)))] [qc (args := [I ((cV d)[k]'O), I 0, I 1000000000]) (v := .bool (inB ((cV d)[k]'O) 0 1000000000)) func47 rfl (fun W s b => cF W ((cV d)[k]'O) 0 1000000000), .o] aD fun t a c g D => (aB (bZ (c.at 32) (fun E => ?_) (fun E => ?_)))))))
    ·have F := cU (aY E)
     refine wp_seq (aA (sg (aG (aB (wr (bA results145 rfl ?_))))))
     exact ⟨(fB (by unfold fC; rw [aA2 (xs := cV d) (p := fun n => !num n) (k := k) aE E]; simp)), g.bare⟩
    have F := inB_iff'.1 (aX E)
    refine wp_skip (aA (sg (bO (c.at 26) rfl dL (sg (aH (v := I ((k : Int) + 1)) rfl (aB ?_))))))
    exact ⟨_, (cV d).length - (k + 1), aE, rfl, k + 1, aE, (oQ (p := fun n => !num n) aE hany E), rfl, (c.put.put.to aD), g⟩
   refine wp_exit (wp_seq (aA (sg (aG (aB (wr (bA results145 rfl ?_)))))))
   obtain rfl : k = (cV d).length := by omega
   rw [take_length] at hany
   exact ⟨(fB (by unfold fC; rw [aX q, decide_eq_true (show d.plan.edges.length ≤ 31 by omega), aX J, hany]; rfl)), N.bare⟩
  have B := decide_eq_true A
  have T := hc
  obtain ⟨t, a, rfl, c, g, rfl⟩ := T
  refine rd j Ag.nil.put.put.put [] [(22, .bool true)] [qb 0 rfl 0, qc func47 rfl (fun W s b => cF W d.kind 1 8), qk q, qb 0 rfl 6, ql g, qk B] aD aD fun D A E F G => (gY (E.at 22) rfl (wp_seq (aA (sg (aG (aB (wr (bA results145 rfl ?_))))))))
  exact ⟨(fB (by unfold fC; rw [decide_eq_false (show ¬ d.plan.edges.length ≤ 31 by omega)]; simp)), F.bare⟩
 have z := cU (aY q)
 have U := hc
 obtain ⟨t, a, rfl, c, g, rfl⟩ := U
 refine rd j Ag.nil.put.put.put [] [(22, .bool true)] [qb 0 rfl 0, qc func47 rfl (fun W s b => cF W d.kind 1 8), qk q] aD aD fun A B D E z => (gY (D.at 22) rfl (wp_seq (aA (sg (aG (aB (wr (bA results145 rfl ?_))))))))
 exact ⟨(fB (aH7 (aY q)).symm), E.bare⟩
theorem wZ (n : Int) :
  Calls prog 44 #[I n] w (rB_ (num n) w) := by
 refine cN func44 rfl ntmps44 aZ (wp_seq (aA (sg (aG (aB (wp_seq (aA (rc (St.start w) 3 Ag.nil.put.put [2] [(2, .bool (inB n 0 1000000000))] [qc func43 rfl (fun W s b => cR W n 0 1000000000)] aD fun f4 t a c d => (aB (wr (bA results44 (a.at 2) ?_)))))))))))
 exact ⟨rfl, c.bare⟩
theorem noPlanS {p : Plan} (hc : Shape.C w cs p fp) :
  Calls prog 195 #[.agg cs.toArray] w (rB_ (mH p) w) := by
 refine cN func195 rfl ntmps195 aZ (wp_seq (aA (sg (aI (cs := cs) rfl (St.start w) ?_)))); intro s t a b
 refine sg (aG (aB (wp_seq (aA ?_))))
 have c := hc
 obtain ⟨d, g, rfl, j, n, rfl⟩ := c
 refine rg b 25 Ag.nil.put.put.put [2] [(2, .bool (((((decide (p.prio = 0)) && (decide (p.most = 0))) && (decide (p.wait = 0))) && (decide (p.tasks = 0))) && (decide ((p.edges.length : Int) = 0))))] [qb 0 rfl 0, .o, qb 0 rfl 1, .o, qb 0 rfl 2, .o, qb 0 rfl 3, .o, qb 0 rfl 4, ql n, .o] aD fun f10 s t a q => (aB (wr (bA results195 (t.at 2) ?_)))
 exact ⟨(fB (by unfold mH; rw [show decide ((p.edges.length : Int) = 0) = decide (p.edges.length = 0) from decide_eq_decide.2 aE])), a.bare⟩
theorem planNumS {p : Plan} (hc : Shape.C w cs p fp) :
  Calls prog 194 #[.agg cs.toArray] w (rB_ (kC p) w) := by
 refine cN func194 rfl ntmps194 aZ (wp_seq (aA (sg (aI (cs := cs) rfl (St.start w) ?_)))); intro t a c d
 refine sg (aG (aB (wp_seq (wp_seq (aA ?_)))))
 have g := hc
 obtain ⟨j, n, rfl, q, z, rfl⟩ := g
 refine rg d 28 Ag.nil.put.put.put [] [(31, .bool (((((!(num p.prio)) || (!(num p.most))) || (!(num p.wait))) || (!(num p.tasks))) || (decide (31 < (p.edges.length : Int)))))] [qb 0 rfl 0, qc func44 rfl (fun W s b => wZ W p.prio), .o, qb 0 rfl 1, qc func44 rfl (fun W s b => wZ W p.most), .o, qb 0 rfl 2, qc func44 rfl (fun W s b => wZ W p.wait), .o, qb 0 rfl 3, qc func44 rfl (fun W s b => wZ W p.tasks), .o, qb 0 rfl 4, ql z, .o] aD fun f10 a c d g => (aB (bZ (c.at 31) (fun A => ?_) (fun A => ?_)))
 ·refine wp_seq (aA (sg (aG (aB (wr (bA results194 rfl ?_))))))
  exact ⟨(fB (planNum_f A).symm), d.bare⟩
 refine wp_skip (wp_seq (wp_seq ?_))
 have n := planNum_le A
 refine aA (sg (aG (aB (wp_block (bF (fun (m : Nat) (f : Nat → Value) (W : World) => ∃ (k : Nat), k ≤ p.edges.length ∧ (p.edges.take k).any (fun e : Edge => !(num e.from_ && num e.to_)) = false ∧ m = p.edges.length - k ∧ Ag [(1, pt_ t), (3, I (k : Int))] f ∧ St w W ([Res.bx t [I p.prio, I p.most, I p.wait, I p.tasks, j] 106])) (p.edges.length - 0) ?_ ?_)))))
 ·exact ⟨0, Nat.zero_le _, rfl, rfl, (c.put.to aD), d⟩
 intro a g n q
 obtain ⟨k, hk, hany, rfl, B, D⟩ := q
 refine wp_seq (wp_seq (aA (rn D 5 B [] [(36, .bool (decide ((k : Int) < (p.edges.length : Int))))] [qb 0 rfl 4, ql z, .o] aD fun t E => (aB (aP (E.at 36) (fun j => ?_) (fun j => ?_))))))
 ·refine wp_skip (wp_seq (wp_block (wp_seq (aA ?_))))
  have F : k < p.edges.length := aE
  have a := idx z (i := k) F
  obtain ⟨c, d, g, n, G, H, q, B⟩ := a
  have J := q
  obtain ⟨K, rfl, t⟩ := J
  have K : _ = [I (p.edges[k]'F).from_, I (p.edges[k]'F).to_] := K
  subst K
  refine rg D 18 E [] [(56, .bool ((!(num (p.edges[k]'F).from_)) || (!(num (p.edges[k]'F).to_))))] [qb 0 rfl 4, qx G, qr H 0, qc (args := [I (p.edges[k]'F).from_]) (v := .bool (num (p.edges[k]'F).from_)) func44 rfl (fun W s b => wZ W (p.edges[k]'F).from_), .o, qb 0 rfl 4, qx G, qr H 1, qc (args := [I (p.edges[k]'F).to_]) (v := .bool (num (p.edges[k]'F).to_)) func44 rfl (fun W s b => wZ W (p.edges[k]'F).to_), .o] aD fun t a c d g => (aB (bZ (c.at 56) (fun j => ?_) (fun j => ?_)))
  ·refine wp_seq (aA (sg (aG (aB (wr (bA results194 rfl ?_))))))
   exact ⟨(fB (by unfold kC; rw [aA2 (xs := p.edges) (p := fun e : Edge => !(num e.from_ && num e.to_)) (k := k) aE (by rw [← j, Bool.not_and])]; simp)), d.bare⟩
  refine wp_skip (aA (rn d 3 c [3] [(3, I ((k : Int) + 1))] [qad (k : Int) 1] aD fun t a => (aB ?_)))
  exact ⟨_, p.edges.length - (k + 1), aE, rfl, k + 1, aE, (oQ (p := fun e : Edge => !(num e.from_ && num e.to_)) aE hany (by rw [← j, Bool.not_and])), rfl, (a.to aD), d⟩
 refine wp_exit (wp_seq (aA (sg (aG (aB (wr (bA results194 rfl ?_)))))))
 obtain rfl : k = p.edges.length := by omega
 rw [take_length] at hany
 exact ⟨(fB (planNum_t A hany).symm), D.bare⟩
def xV (d : Deed) : Bool := ((((((((!decide (d.kind = 2)) && (!decide (d.kind = 5))) && (!decide (d.kind = 8))) && (!(num d.run))) || ((!(((!decide (d.kind = 2)) && (!decide (d.kind = 5))) && (!decide (d.kind = 8)))) && (!decide (d.run = 0)))) || (((decide (d.kind = 3)) || (decide (d.kind = 4))) && ((!(num d.task)) || (!(num d.try_))))) || ((!((decide (d.kind = 3)) || (decide (d.kind = 4)))) && ((!decide (d.task = 0)) || (!decide (d.try_ = 0))))) || ((decide (d.kind = 2)) && ((!(num d.worker)) || (!(num d.draw))))) || ((!decide (d.kind = 2)) && ((!decide (d.worker = 0)) || (!decide (d.draw = 0))))
theorem deedS_f {d : Deed} (hi : 1 ≤ d.kind ∧ d.kind ≤ 8) (he : xV d = true) : fC d = false := by
 unfold xV at he
 have hkk : d.kind = 1 ∨ d.kind = 2 ∨ d.kind = 3 ∨ d.kind = 4 ∨ d.kind = 5 ∨ d.kind = 6 ∨ d.kind = 7 ∨ d.kind = 8 := by omega
 rcases hkk with hk | hk | hk | hk | hk | hk | hk | hk
 ·rw [aH6 hk]; simp [hk] at he ⊢; first | done | grind | (simp_all [qX]; done)
 ·rw [aH5 hk]; simp [hk] at he ⊢; first | done | grind | (simp_all [qX]; done)
 ·rw [tG (.inl hk)]; simp [hk] at he ⊢; first | done | grind | (simp_all [qX]; done)
 ·rw [tG (.inr hk)]; simp [hk] at he ⊢; first | done | grind | (simp_all [qX]; done)
 ·rw [tF (.inl hk)]; simp [hk] at he ⊢; first | done | grind | (simp_all [qX]; done)
 ·rw [tE (.inl hk)]; simp [hk] at he ⊢; first | done | grind | (simp_all [qX]; done)
 ·rw [tE (.inr hk)]; simp [hk] at he ⊢; first | done | grind | (simp_all [qX]; done)
 rw [tF (.inr hk)]; simp [hk] at he ⊢; first | done | grind | (simp_all [qX]; done)
theorem tq4_ {P : Prop} (h : P := by
 unfold xV at he
 have hkk : d.kind = 1 ∨ d.kind = 2 ∨ d.kind = 3 ∨ d.kind = 4 ∨ d.kind = 5 ∨ d.kind = 6 ∨ d.kind = 7 ∨ d.kind = 8 := by omega
 rcases hkk with hk | hk | hk | hk | hk | hk | hk | hk
 ·rw [aH6 hk]; simp [hk] at he hx ⊢; first | done | grind | (simp_all [qX]; done)
 ·rw [aH5 hk]; simp [hk] at he hx ⊢; first | done | grind | (simp_all [qX]; done)
 ·rw [tG (.inl hk)]; simp [hk] at he hx ⊢; first | done | grind | (simp_all [qX]; done)
 ·rw [tG (.inr hk)]; simp [hk] at he hx ⊢; first | done | grind | (simp_all [qX]; done)
 ·rw [tF (.inl hk)]; simp [hk] at he hx ⊢; first | done | grind | (simp_all [qX]; done)
 ·rw [tE (.inl hk)]; simp [hk] at he hx ⊢; first | done | grind | (simp_all [qX]; done)
 ·rw [tE (.inr hk)]; simp [hk] at he hx ⊢; first | done | grind | (simp_all [qX]; done)
 rw [tF (.inr hk)]; simp [hk] at he hx ⊢; first | done | grind | (simp_all [qX]; done)) : P := h
theorem deedS_1 {d : Deed} (hi : 1 ≤ d.kind ∧ d.kind ≤ 8) (he : xV d = false) (hx : d.kind = 1) : fC d = kC d.plan := by exact tq4_
theorem deedS_n {d : Deed} (hi : 1 ≤ d.kind ∧ d.kind ≤ 8) (he : xV d = false) (hx : ¬ d.kind = 1) : fC d = mH d.plan := by exact tq4_
theorem DeedOkS {d : Deed} (hc : Shape.C w cs d fp) :
  Calls prog 137 #[.agg cs.toArray] w (rB_ (fC d) w) := by
 refine cN func137 rfl ntmps137 aZ (wp_seq (aA (sg (aI (cs := cs) rfl (St.start w) ?_)))); intro t a c g
 refine sg (aG (aB (wp_seq (wp_seq (aA ?_)))))
 have j := hc
 obtain ⟨n, p, rfl, q, z, rfl⟩ := j
 refine rc g 4 Ag.nil.put.put.put [] [(9, .bool (!(inB d.kind 1 8)))] [qb 0 rfl 0, qc func43 rfl (fun W s b => cR W d.kind 1 8), .o] aD fun f10 t a c A => (aB (bZ (a.at 9) (fun B => ?_) (fun B => ?_)))
 ·have p := cU (aY B)
  refine wp_seq (aA (sg (aG (aB (wr (bA results137 rfl ?_))))))
  exact ⟨(fB (aH7 (aY B)).symm), c.bare⟩
 have p := inB_iff'.1 (aX B)
 refine wp_skip (wp_seq (aA (rn c 4 a [] [(3, .bool (decide (d.kind = 2)))] [qb 0 rfl 0, .o] aD fun t g => (aB (wp_seq (aA (rg c 9 g [] [(4, .bool ((decide (d.kind = 3)) || (decide (d.kind = 4))))] [qb 0 rfl 0, .o, qb 0 rfl 0, .o] aD fun j q A D E => (aB (wp_seq (aA (rg D 13 A [] [(5, .bool (((!decide (d.kind = 2)) && (!decide (d.kind = 5))) && (!decide (d.kind = 8))))] [.o, qb 0 rfl 0, .o, qb 0 rfl 0, .o] aD fun t a p F G => ?_)))))))))))
 refine aB (wp_seq (wp_seq (aA (rg F 74 p [] [(106, .bool (((((((((!decide (d.kind = 2)) && (!decide (d.kind = 5))) && (!decide (d.kind = 8))) && (!(num d.run))) || ((!(((!decide (d.kind = 2)) && (!decide (d.kind = 5))) && (!decide (d.kind = 8)))) && (!decide (d.run = 0)))) || (((decide (d.kind = 3)) || (decide (d.kind = 4))) && ((!(num d.task)) || (!(num d.try_))))) || ((!((decide (d.kind = 3)) || (decide (d.kind = 4)))) && ((!decide (d.task = 0)) || (!decide (d.try_ = 0))))) || ((decide (d.kind = 2)) && ((!(num d.worker)) || (!(num d.draw))))) || ((!decide (d.kind = 2)) && ((!decide (d.worker = 0)) || (!decide (d.draw = 0))))))] [qb 0 rfl 1, qc func44 rfl (fun W s b => wZ W d.run), .o, .o, qb 0 rfl 1, .o, qb 0 rfl 7, qc func44 rfl (fun W s b => wZ W d.task), .o, qb 0 rfl 8, qc func44 rfl (fun W s b => wZ W d.try_), .o, .o, qb 0 rfl 7, .o, qb 0 rfl 8, .o, qb 0 rfl 9, qc func44 rfl (fun W s b => wZ W d.worker), .o, qb 0 rfl 10, qc func44 rfl (fun W s b => wZ W d.draw), .o, .o, qb 0 rfl 9, .o, qb 0 rfl 10, .o] aD fun t a c g j => (aB (bZ (c.at 106) (fun p => ?_) (fun p => ?_)))))))
 ·refine wp_seq (aA (sg (aG (aB (wr (bA results137 rfl ?_))))))
  have hki := inB_iff'.1 (aX B)
  have hez := p
  have hfe : fC d = false := deedS_f hki hez
  exact ⟨(fB hfe.symm), g.bare⟩
 refine wp_skip (wp_seq (wp_seq (aA (rn g 3 c [] [(109, .bool (decide (d.kind = 1)))] [qb 0 rfl 0, .o] aD fun t a => (aB (aP (a.at 109) (fun j => ?_) (fun j => ?_)))))))
 ·refine wp_seq (aA (rc g 4 a [2] [(2, .bool (kC d.plan))] [qb 0 rfl 2, qc func194 rfl (fun W s b => planNumS W (show Shape.C _ [I d.plan.prio, I d.plan.most, I d.plan.wait, I d.plan.tasks, n] d.plan _ from ⟨_, _, rfl, fF, (z.below s.below), rfl⟩))] aD fun t c q A D => (aB (wr (bA results137 (q.at 2) ?_)))))
  have hki := inB_iff'.1 (aX B)
  have hez := p
  have hfe : fC d = (kC d.plan) := deedS_1 hki hez j
  exact ⟨(fB hfe.symm), A.bare⟩
 refine wp_skip (wp_seq (aA (rc g 4 a [2] [(2, .bool (mH d.plan))] [qb 0 rfl 2, qc func195 rfl (fun W s b => noPlanS W (show Shape.C _ [I d.plan.prio, I d.plan.most, I d.plan.wait, I d.plan.tasks, n] d.plan _ from ⟨_, _, rfl, fF, (z.below s.below), rfl⟩))] aD fun t c g a q => (aB (wr (bA results137 (g.at 2) ?_))))))
 have hki := inB_iff'.1 (aX B)
 have hez := p
 have hfe : fC d = (mH d.plan) := deedS_n hki hez j
 exact ⟨(fB hfe.symm), a.bare⟩
def fW {α : Type} (p : α → Bool) : List α → Option Nat
 | [] => none
 | x :: xs => if p x then some 0 else (fW p xs).map (· + 1)
theorem lU {α : Type} {p : α → Bool} : ∀ {xs : List α} {k : Nat} (hk : k < xs.length), (xs.take k).any p = false → p xs[k] = true → fW p xs = some k
 | x :: xs, 0, _, _, hp => by simp at hp; simp [fW, hp]
 | x :: xs, k + 1, hk, h, hp => by
  simp only [take_succ_cons, any_cons, Bool.or_eq_false_iff] at h
  rw [fW, h.1, if_neg (by simp), lU (xs := xs) (k := k) (by simpa using hk) h.2 (by simpa using hp)]
  rfl
theorem lV {α : Type} {p : α → Bool} : ∀ {xs : List α}, xs.any p = false → fW p xs = none
 | [], _ => rfl
 | x :: xs, h => by
  simp only [any_cons, Bool.or_eq_false_iff] at h
  rw [fW, h.1, if_neg (by simp), lV h.2]; rfl
theorem qM {α : Type} {p : α → Bool} : ∀ {xs : List α} {k : Nat}, fW p xs = some k → ∃ h : k < xs.length, p xs[k] = true
 | x :: xs, k, h => by
  unfold fW at h
  by_cases hx : p x = true
  ·rw [if_pos hx] at h; cases h; exact ⟨by simp, hx⟩
  ·rw [if_neg hx] at h
   cases hq : fW p xs with
   | none => rw [hq] at h; cases h
   | some j =>
    rw [hq] at h
    cases h
    obtain ⟨h1, h2⟩ := qM hq
    exact ⟨by simpa using h1, by simpa using h2⟩
def ixI : Option Nat → Int
 | some k => k
 | none => -1
theorem oR {α : Type} {p : α → Bool} {xs : List α} {k : Nat} (hk : k < xs.length) (h : (xs.take k).any p = false) (hx : p xs[k] = false) : (xs.take (k + 1)).any p = false := by
 rw [take_succ_eq_append_getElem hk, any_append, h]; simp [hx]
theorem aO9 {α : Type} [DecidableEq α] (y : α) (xs : List α) : decide (0 ≤ ixI (fW (fun x => eqB y x) xs)) = decide (y ∈ xs) := by
 rw [decide_eq_decide]
 cases h : fW (fun x => eqB y x) xs with
 | some k =>
  obtain ⟨hk, hp⟩ := qM h
  have e := eqB_iff.1 hp
  refine ⟨fun _ => ?_, fun _ => by simp [ixI]⟩
  rw [e]; exact getElem_mem hk
 | none =>
  refine ⟨fun s => by simp [ixI] at s, fun hm => ?_⟩
  obtain ⟨k, hk, rfl⟩ := getElem_of_mem hm
  have : fW (fun x => eqB xs[k] x) xs ≠ none := by
   intro hn
   have key : ∀ (l : List α), fW (fun x => eqB xs[k] x) l = none → xs[k] ∉ l := by
    intro l
    induction l with
    | nil => simp
    | cons a l ih =>
     intro hl hm
     unfold fW at hl
     by_cases ha : eqB xs[k] a = true
     ·rw [if_pos ha] at hl; cases hl
     rw [if_neg ha] at hl
     rcases mem_cons.1 hm with e | hm
     ·exact ha (dN e)
     refine ih ?_ hm
     cases hq : fW (fun x => eqB xs[k] x) l with
     | none => rfl
     | some j => rw [hq] at hl; cases hl
   exact key xs hn (getElem_mem hk)
  exact absurd h this
def fD (a b : Entry) : Bool := decide (b.prio < a.prio) || (decide (a.prio = b.prio) && decide (a.seq < b.seq))
def qI (xs : List Entry) (k : Nat) : Prop := ∀ i, i + 1 < k → ∀ h : i + 1 < xs.length, fD xs[i] xs[i + 1] = true
noncomputable def fM (xs : List Entry) : Bool := pB (xs.length ≤ 80 ∧ qI xs xs.length)
theorem sH {xs : List Entry} {k : Nat} (hk : 1 ≤ k) (h : k < xs.length) (h0 : qI xs k) (h1 : fD (xs[k - 1]'(by omega)) xs[k] = true) : qI xs (k + 1) := by
 intro i hi hx
 by_cases h2 : i + 1 < k
 ·exact h0 i h2 hx
 have e : i = k - 1 := by omega
 subst e
 have s : k - 1 + 1 = k := by omega
 simp only [s]
 exact h1
theorem uQ {xs : List Entry} {k : Nat} (hk : 1 ≤ k) (h : k < xs.length) (h1 : fD (xs[k - 1]'(by omega)) xs[k] = false) : ¬ qI xs xs.length := by
 intro s
 have := s (k - 1) aE aE
 have t : k - 1 + 1 = k := by omega
 simp only [t] at this
 rw [h1] at this
 cases this

theorem IndexN {v : Value} {xs : List Int} {fp : List Nat} (h : Sl w v xs fp) (y : Int) :
  Calls prog 144 #[v, I y] w (rI_ (ixI (fW (fun x => eqB y x) xs)) w) := by
 have hcap := h.len_le
 refine bY func144 rfl ntmps144 aZ (wp_seq (aA (sg (aG (aB (wp_seq (wp_seq (aA (rn (St.start w) 3 Ag.nil.put.put.put [] [(7, I (xs.length : Int)), (8, I 0)] [ql h] aD fun f4 s => (aB (wp_block (bF (fun (m : Nat) (f : Nat → Value) (W : World) => ∃ (k : Nat), k ≤ xs.length ∧ (xs.take k).any (fun x => eqB y x) = false ∧ m = xs.length - k ∧ Ag [(0, v), (1, I y), (7, I (xs.length : Int)), (8, I (k : Int))] f ∧ St w W ([])) (xs.length - 0) ?_ ?_))))))))))))
 ·exact ⟨0, Nat.zero_le _, rfl, rfl, (s.to aD), (St.start w)⟩
 intro t f6 a b
 obtain ⟨k, hk, hany, rfl, c, d⟩ := b
 refine wp_seq (aA (sg (bU (c.at 8) (c.at 7) (aB (wp_seq (aP rfl (fun g => ?_) (fun g => ?_)))))))
 ·refine wp_skip (wp_seq (wp_block (wp_seq (aA (sg (aH (c.at 8) (sg (aF (v := I (k : Int)) rfl (aB (wp_seq (aA ?_)))))))))))
  have j : k < xs.length := aE
  have s := idx h (i := k) j
  obtain ⟨t, a, b, g, n, p, q, z⟩ := s
  have A := q
  obtain ⟨rfl, rfl, B⟩ := A
  refine rn d 6 c.put.put.put [] [(16, .bool (decide (y = (xs[k]'j))))] [qx n, qr p 0, .o] aD fun C D => (aB (aP (D.at 16) (fun E => ?_) (fun E => ?_)))
  ·refine wp_seq (aA (sg (aH (D.at 5) (sg (aF (v := I (k : Int)) rfl (aB (wr (bA results144 rfl ?_))))))))
   exact ⟨(fI (by rw [lU aE hany (dN E)]; try rfl)), d.bare⟩
  refine wp_skip (aA (sg (bO (D.at 8) rfl dL (sg (aH (v := I ((k : Int) + 1)) rfl (aB ?_))))))
  exact ⟨_, xs.length - (k + 1), aE, rfl, k + 1, aE, (oR aE hany (eJ E)), rfl, (D.put.put.to aD), d⟩
 refine wp_exit (wp_seq (aA (sg (aG (aB (wr (bA results144 rfl ?_)))))))
 obtain rfl : k = xs.length := by omega
 rw [take_length] at hany
 exact ⟨(fI (by rw [lV hany]; try rfl)), d.bare⟩
theorem aQ2 {v : Value} {xs : List Int} {fp : List Nat} (h : Sl w v xs fp) (y : Int) :
  Calls prog 75 #[v, I y] w (rB_ (decide (y ∈ xs)) w) := by
 refine bY func75 rfl ntmps75 aZ (wp_seq (aA (sg (aG (aB (wp_seq (aA (rc (St.start w) 5 Ag.nil.put.put.put [4] [(4, .bool (decide (0 ≤ (ixI (fW (fun x => eqB y x) xs)))))] [qc func144 rfl (fun W s b => IndexN W (h.below s.below) y), .o] aD fun f4 t a c d => (aB (wr (bA results75 (a.at 4) ?_)))))))))))
 exact ⟨(fB (aO9 y xs)), c.bare⟩
theorem tq5_ {P : Prop} (h : P := by
 refine bY zq1 rfl zq2 aZ (wp_seq (aA (sg (aI (cs := cs) rfl (St.start w) ?_)))); intro b1 W2 hb3 st4
 refine sg (aI (cs := ds) rfl st4 ?_); intro b6 W7 hb8 st9
 refine sg (aG (aB (wp_seq (aA ?_))))
 have hk14 := hc
 obtain ⟨he14, rfl, hok14⟩ := hk14
 have he14 : _ = [I a.prio, I a.seq, I a.run, I a.task] := he14
 subst he14
 have hk15 := hd
 obtain ⟨he15, rfl, hok15⟩ := hk15
 have he15 : _ = [I b.prio, I b.seq, I b.run, I b.task] := he15
 subst he15
 rcases nem (b.prio < a.prio) with h16p | h16p
 ·have h16 := decide_eq_false h16p
  rcases nem (a.prio = b.prio) with h17p | h17p
  ·have h17 := decide_eq_false h17p
   refine rn st9 20 Ag.nil.put.put.put.put.put [4] [(4, .bool false)] [qb 1 rfl 0, qb 0 rfl 0, qk h16, qb 1 rfl 0, qb 0 rfl 0, qk h17] aD fun f18 h18_ => (aB (wr (bA zq3 (h18_.at 4) ?_)))
   exact ⟨(fB (by unfold fD; simp only [h16, h17, decide_true, decide_false, Bool.true_or, Bool.false_or, Bool.false_and, Bool.true_and, Bool.or_false, Bool.or_true, Bool.and_true, Bool.and_false])), st9.bare⟩
  have h17 := decide_eq_true h17p
  refine rn st9 20 Ag.nil.put.put.put.put.put [4] [(4, .bool (decide (a.seq < b.seq)))] [qb 1 rfl 0, qb 0 rfl 0, qk h16, qb 1 rfl 0, qb 0 rfl 0, qk h17, qb 1 rfl 1, qb 0 rfl 1, .o] aD fun f19 h19_ => (aB ?_)
  rcases nem (a.seq < b.seq) with h20p | h20p
  ·have h20 := decide_eq_false h20p
   refine wr (bA zq3 ((h19_.at 4).trans (congrArg Value.bool h20)) ?_)
   exact ⟨(fB (by unfold fD; simp only [h16, h17, h20, decide_true, decide_false, Bool.true_or, Bool.false_or, Bool.false_and, Bool.true_and, Bool.or_false, Bool.or_true, Bool.and_true, Bool.and_false])), st9.bare⟩
  have h20 := decide_eq_true h20p
  refine wr (bA zq3 ((h19_.at 4).trans (congrArg Value.bool h20)) ?_)
  exact ⟨(fB (by unfold fD; simp only [h16, h17, h20, decide_true, decide_false, Bool.true_or, Bool.false_or, Bool.false_and, Bool.true_and, Bool.or_false, Bool.or_true, Bool.and_true, Bool.and_false])), st9.bare⟩
 have h16 := decide_eq_true h16p
 refine rn st9 20 Ag.nil.put.put.put.put.put [4] [(4, .bool true)] [qb 1 rfl 0, qb 0 rfl 0, qk h16] aD fun f21 h21_ => (aB (wr (bA zq3 (h21_.at 4) ?_)))
 exact ⟨(fB (by unfold fD; simp only [h16, decide_true, decide_false, Bool.true_or, Bool.false_or, Bool.false_and, Bool.true_and, Bool.or_false, Bool.or_true, Bool.and_true, Bool.and_false])), st9.bare⟩) : P := h
theorem aQ4 {a b : Entry} {cs ds : List Value} {fp gp : List Nat} (hc : Shape.C w cs a fp) (hd : Shape.C w ds b gp) :
  Calls prog 159 #[.agg cs.toArray, .agg ds.toArray] w fun e w' => e = .returned (.bool (fD a b)) ∧ St w w' [] := by have zq1 := @func159; have zq2 := @ntmps159; have zq3 := @results159; exact tq5_
theorem aQ3 {a b : Entry} {cs ds : List Value} {fp gp : List Nat} (hc : Shape.C w cs a fp) (hd : Shape.C w ds b gp) :
  Calls prog 211 #[.agg cs.toArray, .agg ds.toArray] w fun e w' => e = .returned (.bool (fD a b)) ∧ St w w' [] := by have zq1 := @func211; have zq2 := @ntmps211; have zq3 := @results211; exact tq5_
theorem ShelfOkI {v : Value} {xs : List Entry} {fp : List Nat} (h : Sl w v xs fp) :
  Calls prog 95 #[v] w (rB_ (fM xs) w) := by
 have hcap := h.len_le
 refine cN func95 rfl ntmps95 aZ (wp_seq (aA (sg (aG (aB (wp_seq (wp_seq (aA (sg (aG (aB (wp_block (bF (fun (m : Nat) (f : Nat → Value) (W : World) => ∃ (k : Nat), 1 ≤ k ∧ (k ≤ xs.length ∨ k = 1) ∧ qI xs k ∧ m = xs.length - k ∧ Ag [(0, v), (3, I (k : Int))] f ∧ St w W ([])) (xs.length - 1) ?_ ?_)))))))))))))
 ·exact ⟨1, aE, aE, (fun i hi => by omega), rfl, (Ag.nil.put.put.put.to aD), (St.start w)⟩
 intro t f6 a c
 obtain ⟨k, d, hk, hS, rfl, g, j⟩ := c
 refine wp_seq (wp_seq (aA (rn j 4 g [] [(7, .bool (decide ((k : Int) < (xs.length : Int))))] [ql h, .o] aD fun f12 n => (aB (aP (n.at 7) (fun p => ?_) (fun p => ?_))))))
 ·refine wp_skip (wp_seq (wp_block (wp_seq ?_)))
  have q : ((k : Int) - 1).toNat < xs.length := aE
  have z := idx h (i := ((k : Int) - 1).toNat) q
  obtain ⟨t, a, c, f15, A, B, C, d⟩ := z
  have D := C
  obtain ⟨E, rfl, g⟩ := D
  have E : _ = [I (xs[((k : Int) - 1).toNat]'q).prio, I (xs[((k : Int) - 1).toNat]'q).seq, I (xs[((k : Int) - 1).toNat]'q).run, I (xs[((k : Int) - 1).toNat]'q).task] := E
  subst E
  have F : k < xs.length := aE
  have z := idx h (i := k) F
  obtain ⟨t, a, c, d, G, H, J, g⟩ := z
  have K := J
  obtain ⟨L, rfl, p⟩ := K
  have L : _ = [I (xs[k]'F).prio, I (xs[k]'F).seq, I (xs[k]'F).run, I (xs[k]'F).task] := L
  subst L
  refine rd j n [] [(20, .bool (!(fD (xs[((k : Int) - 1).toNat]'q) (xs[k]'F))))] [qsb (k : Int) 1, qxe A (e := (k : Int) - 1) aE, qr B 0, qx G, qr H 0, qc (args := [.agg #[I (xs[((k : Int) - 1).toNat]'q).prio, I (xs[((k : Int) - 1).toNat]'q).seq, I (xs[((k : Int) - 1).toNat]'q).run, I (xs[((k : Int) - 1).toNat]'q).task], .agg #[I (xs[k]'F).prio, I (xs[k]'F).seq, I (xs[k]'F).run, I (xs[k]'F).task]]) (v := .bool (fD (xs[((k : Int) - 1).toNat]'q) (xs[k]'F))) func159 rfl (fun W s b => aQ4 W C J), .o] aD aD fun t a c d g => (bZ (c.at 20) (fun p => ?_) (fun p => ?_))
  ·refine wp_seq (aA (sg (aG (aB (wr (bA results95 rfl ?_))))))
   exact ⟨(fB (by unfold fM; rw [fU (fun hz => uQ (k := k) aE aE ((by have hz := aY p; rw [← hz]; simp only [show ((k : Int) - 1).toNat = k - 1 by omega])) hz.2)])), d.bare⟩
  refine wp_skip (aA (rn d 3 c [3] [(3, I ((k : Int) + 1))] [qad (k : Int) 1] aD fun t a => (aB ?_)))
  exact ⟨_, xs.length - (k + 1), aE, rfl, k + 1, aE, aE, (sH aE aE hS (by have hz := aX p; rw [← hz]; simp only [show ((k : Int) - 1).toNat = k - 1 by omega])), rfl, (a.to aD), d⟩
 refine wp_exit (wp_seq (aA (rn j 4 n [] [(2, .bool (decide ((xs.length : Int) ≤ 80)))] [ql h, .o] aD fun t c => (aB ?_))))
 rcases nem ((xs.length : Int) ≤ 80) with g | g
 ·have p := decide_eq_false g
  refine wr (bA results95 ((c.at 2).trans (congrArg Value.bool p)) ?_)
  exact ⟨(fB (by unfold fM; rw [fU (fun hz => by omega)])), j.bare⟩
 have p := decide_eq_true g
 refine wr (bA results95 ((c.at 2).trans (congrArg Value.bool p)) ?_)
 exact ⟨(fB (by unfold fM; rw [oX ⟨by omega, by intro i hi hx; exact hS i aE hx⟩])), j.bare⟩
theorem ShelfOkS {v : Value} {xs : List Entry} {fp : List Nat} (h : Sl w v xs fp) :
  Calls prog 154 #[v] w (rB_ (fM xs) w) := by
 have hcap := h.len_le
 refine cN func154 rfl ntmps154 aZ (wp_seq (aA (sg (aG (aB (wp_seq (wp_seq (aA (rn (St.start w) 3 Ag.nil.put.put [] [(6, .bool (decide (80 < (xs.length : Int))))] [ql h, .o] aD fun f4 t => (aB (aP (t.at 6) (fun a => ?_) (fun a => ?_))))))))))))
 ·refine wp_seq (aA (sg (aG (aB (wr (bA results154 rfl ?_))))))
  exact ⟨(fB (by unfold fM; rw [fU (fun hz => by omega)])), (St.start w).bare⟩
 refine wp_skip (wp_seq (wp_seq (aA (sg (aG (aB (wp_block (bF (fun (m : Nat) (f : Nat → Value) (W : World) => ∃ (k : Nat), 1 ≤ k ∧ (k ≤ xs.length ∨ k = 1) ∧ qI xs k ∧ m = xs.length - k ∧ Ag [(0, v), (3, I (k : Int))] f ∧ St w W ([])) (xs.length - 1) ?_ ?_))))))))
 ·exact ⟨1, aE, aE, (fun i hi => by omega), rfl, (t.put.to aD), (St.start w)⟩
 intro a f11 c d
 obtain ⟨k, g, hk, hS, rfl, j, n⟩ := d
 refine wp_seq (wp_seq (aA (rn n 4 j [] [(10, .bool (decide ((k : Int) < (xs.length : Int))))] [ql h, .o] aD fun p q => (aB (aP (q.at 10) (fun z => ?_) (fun z => ?_))))))
 ·refine wp_skip (wp_seq (wp_block (wp_seq ?_)))
  have A : ((k : Int) - 1).toNat < xs.length := aE
  have B := idx h (i := ((k : Int) - 1).toNat) A
  obtain ⟨t, a, c, d, C, D, E, g⟩ := B
  have F := E
  obtain ⟨G, rfl, j⟩ := F
  have G : _ = [I (xs[((k : Int) - 1).toNat]'A).prio, I (xs[((k : Int) - 1).toNat]'A).seq, I (xs[((k : Int) - 1).toNat]'A).run, I (xs[((k : Int) - 1).toNat]'A).task] := G
  subst G
  have H : k < xs.length := aE
  have B := idx h (i := k) H
  obtain ⟨t, a, c, d, J, K, L, g⟩ := B
  have M := L
  obtain ⟨N, rfl, j⟩ := M
  have N : _ = [I (xs[k]'H).prio, I (xs[k]'H).seq, I (xs[k]'H).run, I (xs[k]'H).task] := N
  subst N
  refine rd n q [] [(23, .bool (!(fD (xs[((k : Int) - 1).toNat]'A) (xs[k]'H))))] [qsb (k : Int) 1, qxe C (e := (k : Int) - 1) aE, qr D 0, qx J, qr K 0, qc (args := [.agg #[I (xs[((k : Int) - 1).toNat]'A).prio, I (xs[((k : Int) - 1).toNat]'A).seq, I (xs[((k : Int) - 1).toNat]'A).run, I (xs[((k : Int) - 1).toNat]'A).task], .agg #[I (xs[k]'H).prio, I (xs[k]'H).seq, I (xs[k]'H).run, I (xs[k]'H).task]]) (v := .bool (fD (xs[((k : Int) - 1).toNat]'A) (xs[k]'H))) func211 rfl (fun W s b => aQ3 W E L), .o] aD aD fun t a c d g => (bZ (c.at 23) (fun j => ?_) (fun j => ?_))
  ·refine wp_seq (aA (sg (aG (aB (wr (bA results154 rfl ?_))))))
   exact ⟨(fB (by unfold fM; rw [fU (fun hz => uQ (k := k) aE aE ((by have hz := aY j; rw [← hz]; simp only [show ((k : Int) - 1).toNat = k - 1 by omega])) hz.2)])), d.bare⟩
  refine wp_skip (aA (rn d 3 c [3] [(3, I ((k : Int) + 1))] [qad (k : Int) 1] aD fun t a => (aB ?_)))
  exact ⟨_, xs.length - (k + 1), aE, rfl, k + 1, aE, aE, (sH aE aE hS (by have hz := aX j; rw [← hz]; simp only [show ((k : Int) - 1).toNat = k - 1 by omega])), rfl, (a.to aD), d⟩
 refine wp_exit (wp_seq (aA (sg (aG (aB (wr (bA results154 rfl ?_)))))))
 exact ⟨(fB (by unfold fM; rw [oX ⟨by omega, by intro i hi hx; exact hS i aE hx⟩])), n.bare⟩
def eQ (y : Yard) (id : Int) : Option Nat := if y.runs.length ≤ 8 then fW (fun r => decide (r.id = id)) y.runs else none
def bJ (y : Yard) (id : Int) : Int := ixI (eQ y id)
theorem sM {y : Yard} {id : Int} {k : Nat} (h : eQ y id = some k) : k < y.runs.length := by
 unfold eQ at h
 split at h
 ·exact (qM h).1
 cases h
def fresh (y : Yard) (e : Entry) : Bool :=
 match eQ y e.run with
 | none => false
 | some k => match y.runs[k]? with
  | none => false
  | some r => inB e.task 0 ((r.tasks.length : Int) - 1) && (match r.tasks[e.task.toNat]? with | some t => decide (t.state = 2) | none => false)
theorem qP {α : Type} {xss : List (List α)} {k : Nat} (h : k < xss.length) : (xss.take (k + 1)).flatten = (xss.take k).flatten ++ xss[k] := by
 rw [take_succ_eq_append_getElem h, flatten_append, flatten_cons, flatten_nil, append_nil]
theorem aG5 {α : Type} : ∀ (xss : List (List α)), xss.flatten.length = (xss.map (fun y => y.length)).sum
 | [] => rfl
 | x :: xss => by simp [aG5 xss]
theorem tA (y : Yard) (k : Nat) : ((y.shelf.take k).flatten).length ≤ y.wt := by
 have s := aG5 (y.shelf.take k)
 have t := jX (fun y : List Entry => y.length) y.shelf k
 unfold Yard.wt wtL
 omega
theorem aM0 {α : Type} {xs : List α} {p : α → Bool} {k : Nat} (h : k < xs.length) (hp : p xs[k] = true) : (xs.take (k + 1)).filter p = (xs.take k).filter p ++ [xs[k]] := by
 rw [take_succ_eq_append_getElem h, filter_append]; simp [hp]
theorem zK {α : Type} {xs : List α} {p : α → Bool} {k : Nat} (h : k < xs.length) (hp : p xs[k] = false) : (xs.take (k + 1)).filter p = (xs.take k).filter p := by
 rw [take_succ_eq_append_getElem h, filter_append]; simp [hp]

theorem RunAtC {r : Run} (hc : Shape.C w cs r fp) {b : Nat} {t : TypeId} {id : Int} (hB : (Res.bx b [I id] t).holds w) :
  Calls prog 164 #[.agg cs.toArray, pt_ b] w (rB_ (decide (r.id = id)) w) := by
 refine bY func164 rfl ntmps164 aZ (wp_seq (aA (sg (aI (cs := cs) rfl (St.start w) ?_)))); intro s a c d
 refine sg (aG (aB (wp_seq (aA ?_))))
 have g := hc
 obtain ⟨j, n, p, q, rfl, z, A, B, rfl⟩ := g
 refine rn d 5 Ag.nil.put.put.put.put [3] [(3, .bool (decide (r.id = id)))] [qb 0 rfl 0, qr (bQ hB) 0, .o] aD fun f10 s => (aB (wr (bA results164 (s.at 3) ?_)))
 exact ⟨rfl, d.bare⟩
theorem tq6_ {P : Prop} (h : P := by
 have hcap := h.len_le
 refine bY zq1 rfl zq2 aZ (wp_seq (aA (sg (aG (aB (wp_seq (wp_seq (aA (rn (St.start w) 3 Ag.nil.put.put.put [] [(7, I (xs.length : Int)), (8, I 0)] [ql h] aD fun f4 h4_ => (aB (wp_block (bF (fun (m : Nat) (f : Nat → Value) (W : World) => ∃ (k : Nat), k ≤ xs.length ∧ (xs.take k).any p = false ∧ m = xs.length - k ∧ Ag [(0, v), (1, .func (.func F) #[] capt.toArray), (7, I (xs.length : Int)), (8, I (k : Int))] f ∧ St w W ([])) (xs.length - 0) ?_ ?_))))))))))))
 ·exact ⟨0, Nat.zero_le _, rfl, rfl, (h4_.to aD), (St.start w)⟩
 intro m5 f6 W7 hJ8
 obtain ⟨k, hk, hany, rfl, hA10, st9⟩ := hJ8
 refine wp_seq (aA (sg (bU (hA10.at 8) (hA10.at 7) (aB (wp_seq (aP rfl (fun h13p => ?_) (fun h13p => ?_)))))))
 ·refine wp_skip (wp_seq (wp_block (wp_seq (aA (sg (aH (hA10.at 8) (sg (aF (v := I (k : Int)) rfl (aB (wp_seq (aA ?_)))))))))))
  have hi51fab : k < xs.length := aE
  obtain ⟨b17, o17, cs17, f17, hp17, hr17, hc17, hm17⟩ := idx h (i := k) hi51fab
  refine rn st9 5 hA10.put.put.put [] [(11, .func (.func F) #[] capt.toArray), (15, .agg cs17.toArray)] [qx hp17, qrw hr17 (Shape.len hc17)] aD fun f18 h18_ => (sg (tU (first := []) hfn hok (h18_.at 11) (pJ (h18_.at 15) nZ) ((hF W7 k aE _ _ st9.below (aR hc17 st9.below)).mono ?_))); rintro _ W19 ⟨rfl, hk20⟩; refine ⟨_, rfl, ?_⟩
  have st21 := St.call st9 hk20
  refine aB (bZ rfl (fun h22 => ?_) (fun h22 => ?_))
  ·refine wp_seq (aA (sg (aH (h18_.at 5) (sg (aF (v := I (k : Int)) rfl (aB (wr (bA zq3 rfl ?_))))))))
   exact ⟨(fI (by rw [lU aE hany h22]; try rfl)), st21.bare⟩
  refine wp_skip (aA (sg (bO (h18_.at 8) rfl dL (sg (aH (v := I ((k : Int) + 1)) rfl (aB ?_))))))
  exact ⟨_, xs.length - (k + 1), aE, rfl, k + 1, aE, (zq4 aE hany h22), rfl, (h18_.put.put.put.to aD), st21⟩
 refine wp_exit (wp_seq (aA (sg (aG (aB (wr (bA zq3 rfl ?_)))))))
 obtain rfl : k = xs.length := by omega
 rw [take_length] at hany
 exact ⟨(fI (by rw [lV hany]; try rfl)), st9.bare⟩) : P := h
theorem IndexRun {v : Value} {xs : List Run} {fp : List Nat} (h : Sl w v xs fp) (F : FuncId) (capt : List Value) {fn : Func} (hfn : prog.funcs[F]? = some fn) (hok : ((fn.name == "runtime.NumGoroutine") || fn.body.isNone) = false) (p : Run → Bool)
  (hF : ∀ (w1 : World) (i : Nat) (hi : i < xs.length) (cs : List Value) (f1 : List Nat), Below w.heap.size w w1 → Shape.C w1 cs xs[i] f1 → Calls prog F (Value.agg cs.toArray :: capt).toArray w1 fun e w2 => e = .returned (.bool (p xs[i])) ∧ St w1 w2 []) :
  Calls prog 163 #[v, .func (.func F) #[] capt.toArray] w fun e w' => e = .returned (I (ixI (fW p xs))) ∧ St w w' [] := by have zq1 := @func163; have zq2 := @ntmps163; have zq3 := @results163; have zq4 := @oQ; exact tq6_
theorem pV {y : Yard} (hc : Shape.C w cs y fp) (id : Int) (hw : y.wt ≤ 1048576) :
  Calls prog 98 #[.agg cs.toArray, I id] w (rI_ (bJ y id) w) := by
 have hyr : y.runs.length ≤ y.wt := by unfold Yard.wt wtL; omega
 refine bY func98 rfl ntmps98 aZ (wp_seq (aA (sg (aI (cs := cs) rfl (St.start w) ?_)))); intro s t a b
 refine sg (mU (v := I id) rfl rfl b ?_); intro c d g j
 refine sg (aG (aB (wp_seq (wp_seq (aA ?_)))))
 have n := hc
 obtain ⟨p, q, z, A, rfl, B, D, s, rfl⟩ := n
 refine rn j 4 Ag.nil.put.put.put.put.put [] [(8, .bool (decide (8 < (y.runs.length : Int))))] [qb 1 rfl 3, ql s, .o] aD fun f15 t => (aB (aP (t.at 8) (fun a => ?_) (fun a => ?_)))
 ·refine wp_seq (aA (sg (aG (aB (wr (bA results98 rfl ?_))))))
  exact ⟨(fI (by unfold bJ eQ; rw [if_neg aE]; try rfl)), j.bare⟩
 refine wp_skip (wp_seq (aA (sg (aN dG (t.at 2) (sg (aW fR rfl rfl (j.get 1 rfl) (i := 3) rfl rfl (sg (gQ nZ (pJ (t.at 3) nZ) (sg (bN func163 rfl rfl rfl ((IndexRun d (s.below j.below) 164 [pt_ c] func164 rfl (fun r => decide (r.id = id)) (fun a i hi cs f1 hb hc => RunAtC a hc (Res.below (j.get 0 rfl) hb))).mono ?_))))))))))); rintro _ b ⟨rfl, t⟩; refine ⟨_, rfl, ?_⟩
 have g := St.call j t
 refine sg (aF (v := I (ixI (fW (fun r => decide (r.id = id)) y.runs))) rfl (aB (wr (bA results98 rfl ?_))))
 exact ⟨(fI (by unfold bJ eQ; rw [if_pos aE])), g.bare⟩
theorem rT {y : Yard} (hc : Shape.C w cs y fp) (id : Int) (hw : y.wt ≤ 1048576) :
  Calls prog 90 #[.agg cs.toArray, I id] w (rI_ (bJ y id) w) := by
 have hyr : y.runs.length ≤ y.wt := by unfold Yard.wt wtL; omega
 refine bY func90 rfl ntmps90 aZ (wp_seq (aA (sg (aI (cs := cs) rfl (St.start w) ?_)))); intro s t a b
 refine sg (aG (aB (wp_seq (wp_seq (aA (sg (aG (aB (wp_block (bF (fun (m : Nat) (f : Nat → Value) (W : World) => ∃ (k : Nat), k ≤ y.runs.length ∧ (y.runs.take k).any (fun r : Run => decide (r.id = id)) = false ∧ m = y.runs.length - k ∧ Ag [(1, I id), (2, pt_ s), (5, I (k : Int))] f ∧ St w W ([Res.bx s cs 34])) (y.runs.length - 0) ?_ ?_))))))))))
 ·exact ⟨0, Nat.zero_le _, rfl, rfl, (Ag.nil.put.put.put.put.put.to aD), b⟩
 intro t f11 a c
 obtain ⟨k, hk, hany, rfl, d, g⟩ := c
 refine wp_seq (wp_seq (aA ?_))
 have j := hc
 obtain ⟨n, p, q, z, rfl, A, s, B, rfl⟩ := j
 rcases nem ((k : Int) < (y.runs.length : Int)) with D | D
 ·have E := decide_eq_false D
  refine rn g 11 d [] [(16, .bool false)] [qb 0 rfl 3, ql B, qk E] aD fun t a => (aB (kI (a.at 16) rfl (wp_exit (wp_seq (aA (sg (aG (aB (wr (bA results90 rfl ?_))))))))))
  obtain rfl : k = y.runs.length := by omega
  rw [take_length] at hany
  exact ⟨(fI (by unfold bJ eQ; rw [lV hany]; split <;> rfl)), g.bare⟩
 have E := decide_eq_true D
 refine rn g 11 d [] [(16, .bool (decide ((y.runs.length : Int) ≤ 8)))] [qb 0 rfl 3, ql B, qk E, qb 0 rfl 3, ql B, .o] aD fun s F => (aB (aP (F.at 16) (fun t => ?_) (fun t => ?_)))
 ·refine wp_skip (wp_seq (wp_block (wp_seq (aA ?_))))
  have G : k < y.runs.length := aE
  have a := idx B (i := k) G
  obtain ⟨b, c, d, j, H, J, n, p⟩ := a
  have K := n
  obtain ⟨s, q, z, A, rfl, D, t, E, rfl⟩ := K
  refine rn g 8 F [] [(26, .bool (decide ((y.runs[k]'G).id = id)))] [qb 0 rfl 3, qx H, qr J 0, .o] aD fun B b => (aB (aP (b.at 26) (fun c => ?_) (fun c => ?_)))
  ·have a := decide_eq_true c
   refine wp_seq (aA (sg (aH (b.at 5) (sg (aF (v := I (k : Int)) rfl (aB (wr (bA results90 rfl ?_))))))))
   exact ⟨(fI (by unfold bJ eQ; rw [if_pos aE, lU aE hany a]; try rfl)), g.bare⟩
  have a := decide_eq_false c
  refine wp_skip (aA (rn g 3 b [5] [(5, I ((k : Int) + 1))] [qad (k : Int) 1] aD fun s t => (aB ?_)))
  exact ⟨_, y.runs.length - (k + 1), aE, rfl, k + 1, aE, (oQ aE hany a), rfl, (t.to aD), g⟩
 refine wp_exit (wp_seq (aA (sg (aG (aB (wr (bA results90 rfl ?_)))))))
 exact ⟨(fI (by unfold bJ eQ; rw [if_neg aE]; try rfl)), g.bare⟩
theorem wO {y : Yard} {id : Int} (h : eQ y id = none) : bJ y id = -1 := by unfold bJ; rw [h]; rfl
theorem wN {y : Yard} {id : Int} {k : Nat} (h : eQ y id = some k) : bJ y id = k := by unfold bJ; rw [h]; rfl

theorem aI5 {y : Yard} (hc : Shape.C w cs y fp) (id : Int) (hw : y.wt ≤ 1048576) (h : eQ y id = none) :
  Calls prog 98 #[.agg cs.toArray, I id] w (rI_ (-1) w) := by
 have := pV w hc id hw
 rwa [wO h] at this
theorem nU {y : Yard} (hc : Shape.C w cs y fp) (id : Int) (hw : y.wt ≤ 1048576) {i : Nat} (h : eQ y id = some i) :
  Calls prog 98 #[.agg cs.toArray, I id] w (rI_ (i : Int) w) := by
 have := pV w hc id hw
 rwa [wN h] at this
theorem tq7_ {P : Prop} (h : P := by
 refine bY zq1 rfl zq2 aZ (wp_seq (aA (sg (aI (cs := cs) rfl (St.start w) ?_)))); intro b1 W2 hb3 st4
 refine sg (aI (cs := ds) rfl st4 ?_); intro b6 W7 hb8 st9
 refine sg (aG (aB (wp_seq (aA ?_))))
 have hk14 := hd
 obtain ⟨he14, rfl, hok14⟩ := hk14
 have he14 : _ = [I e.prio, I e.seq, I e.run, I e.task] := he14
 subst he14
 refine rc st9 5 Ag.nil.put.put.put.put.put [] [(5, I (-1))] [qw 1 rfl (Shape.len hc), qb 0 rfl 2, qc zq3 rfl (fun W s b => zq4 W (aR hc s.below) e.run hw hix)] aD fun f15 W16 h15_ st17 hb18 => (aB (wp_seq ?_))
 rcases nem (0 ≤ (-1)) with h20p | h20p
 ·have h20 := decide_eq_false h20p
  refine rd st17 h15_ [4] [(4, .bool false)] [qk h20] aD aD fun f22 W23 h22_ st24 hb25 => (wr (bA zq5 (h22_.at 4) ?_))
  exact ⟨(fB (by unfold fresh; rw [hix])), st24.bare⟩
 have h20 := decide_eq_true h20p
 omega) : P := h
theorem FreshI_n {y : Yard} (hc : Shape.C w cs y fp) {e : Entry} (hd : Shape.C w ds e gp) (hw : y.wt ≤ 1048576) (hix : eQ y e.run = none) :
  Calls prog 165 #[.agg cs.toArray, .agg ds.toArray] w fun ee w' => ee = .returned (.bool (fresh y e)) ∧ St w w' [] := by have zq1 := @func165; have zq2 := @ntmps165; have zq3 := @func98; have zq4 := @aI5; have zq5 := @results165; exact tq7_
theorem tq8_ {P : Prop} (h : P := by
 have hil := sM hix
 have hyk := lY hil
 have hrw : y.runs[i].tasks.length ≤ y.runs[i].wt := by unfold Run.wt; omega
 refine bY zq1 rfl zq2 aZ (wp_seq (aA (sg (aI (cs := cs) rfl (St.start w) ?_)))); intro b1 W2 hb3 st4
 refine sg (aI (cs := ds) rfl st4 ?_); intro b6 W7 hb8 st9
 refine sg (aG (aB (wp_seq (aA ?_))))
 have hk14 := hd
 obtain ⟨he14, rfl, hok14⟩ := hk14
 have he14 : _ = [I e.prio, I e.seq, I e.run, I e.task] := he14
 subst he14
 refine rc st9 5 Ag.nil.put.put.put.put.put [] [(5, I (i : Int))] [qw 1 rfl (Shape.len hc), qb 0 rfl 2, qc zq3 rfl (fun W s b => zq4 W (aR hc s.below) e.run hw hix)] aD fun f15 W16 h15_ st17 hb18 => (aB (wp_seq ?_))
 rcases nem (0 ≤ (i : Int)) with h20p | h20p
 ·have h20 := decide_eq_false h20p
  omega
 have h20 := decide_eq_true h20p
 have hia2a90 : i < y.runs.length := aE
 rcases bd (inB e.task 0 (((y.runs[i]'hia2a90).tasks.length : Int) - 1)) with h25 | h25
 ·have h25p := cU h25
  have hk27 := hc
  obtain ⟨v27_0, v27_1, g27_0, g27_1, rfl, hok27, h27_0, h27_1, rfl⟩ := hk27
  have hia2a90 : i < y.runs.length := aE
  obtain ⟨b28, o28, cs28, f28, hp28, hr28, hc28, hm28⟩ := idx h27_1 (i := i) hia2a90
  have hk29 := hc28
  obtain ⟨v29_0, v29_1, g29_0, g29_1, rfl, hok29, h29_0, h29_1, rfl⟩ := hk29
  refine rd st17 h15_ [4] [(4, .bool false)] [qk h20, qb 0 rfl 3, qb 1 rfl 3, qx hp28, qr hr28 7, ql h29_1, qsb ((y.runs[i]'hia2a90).tasks.length : Int) 1, qcb (args := [I e.task, I 0, I (((y.runs[i]'hia2a90).tasks.length : Int) - 1)]) zq5 rfl h25 (fun W s b => zq6 W e.task 0 (((y.runs[i]'hia2a90).tasks.length : Int) - 1))] aD aD fun f30 W31 h30_ st32 hb33 => (wr (bA zq7 (h30_.at 4) ?_))
  exact ⟨(fB (by unfold fresh; rw [hix]; simp only [getElem?_eq_getElem hil, h25, Bool.false_and])), st32.bare⟩
 have h25p := inB_iff'.1 h25
 have hk35 := hc
 obtain ⟨v35_0, v35_1, g35_0, g35_1, rfl, hok35, h35_0, h35_1, rfl⟩ := hk35
 have hia2a90 : i < y.runs.length := aE
 obtain ⟨b36, o36, cs36, f36, hp36, hr36, hc36, hm36⟩ := idx h35_1 (i := i) hia2a90
 have hk37 := hc36
 obtain ⟨v37_0, v37_1, g37_0, g37_1, rfl, hok37, h37_0, h37_1, rfl⟩ := hk37
 have hif34c4 : (e.task).toNat < (y.runs[i]'hia2a90).tasks.length := aE
 obtain ⟨b38, o38, cs38, f38, hp38, hr38, hc38, hm38⟩ := idx h37_1 (i := (e.task).toNat) hif34c4
 have hk39 := hc38
 obtain ⟨he39, rfl, hok39⟩ := hk39
 have he39 : _ = [I ((y.runs[i]'hia2a90).tasks[(e.task).toNat]'hif34c4).state, I ((y.runs[i]'hia2a90).tasks[(e.task).toNat]'hif34c4).need, I ((y.runs[i]'hia2a90).tasks[(e.task).toNat]'hif34c4).try_, I ((y.runs[i]'hia2a90).tasks[(e.task).toNat]'hif34c4).until_] := he39
 subst he39
 refine rd st17 h15_ [4] [(4, .bool (decide (((y.runs[i]'hia2a90).tasks[(e.task).toNat]'hif34c4).state = 2)))] [qk h20, qb 0 rfl 3, qb 1 rfl 3, qx hp36, qr hr36 7, ql h37_1, qsb ((y.runs[i]'hia2a90).tasks.length : Int) 1, qcb (args := [I e.task, I 0, I (((y.runs[i]'hia2a90).tasks.length : Int) - 1)]) zq5 rfl h25 (fun W s b => zq6 W e.task 0 (((y.runs[i]'hia2a90).tasks.length : Int) - 1)), qb 1 rfl 3, qx hp36, qr hr36 7, qb 0 rfl 3, qxe hp38 (e := e.task) aE, qr hr38 0, .o] aD aD fun f40 W41 h40_ st42 hb43 => (wr (bA zq7 (h40_.at 4) ?_))
 exact ⟨(fB (by unfold fresh; rw [hix]; simp only [getElem?_eq_getElem hil, h25, Bool.true_and]; rw [getElem?_eq_getElem aE])), st42.bare⟩) : P := h
theorem FreshI_s {y : Yard} (hc : Shape.C w cs y fp) {e : Entry} (hd : Shape.C w ds e gp) (hw : y.wt ≤ 1048576) {i : Nat} (hix : eQ y e.run = some i) :
  Calls prog 165 #[.agg cs.toArray, .agg ds.toArray] w fun ee w' => ee = .returned (.bool (fresh y e)) ∧ St w w' [] := by have zq1 := @func165; have zq2 := @ntmps165; have zq3 := @func98; have zq4 := @nU; have zq5 := @func47; have zq6 := @cF; have zq7 := @results165; exact tq8_
theorem aQ1 {y : Yard} (hc : Shape.C w cs y fp) {e : Entry} (hd : Shape.C w ds e gp) (hw : y.wt ≤ 1048576)  :
  Calls prog 165 #[.agg cs.toArray, .agg ds.toArray] w fun ee w' => ee = .returned (.bool (fresh y e)) ∧ St w w' [] := by
 cases hix : eQ y e.run with
 | none => exact FreshI_n w hc hd hw hix
 | some i => exact FreshI_s w hc hd hw hix
theorem aI4 {y : Yard} (hc : Shape.C w cs y fp) (id : Int) (hw : y.wt ≤ 1048576) (h : eQ y id = none) :
  Calls prog 90 #[.agg cs.toArray, I id] w (rI_ (-1) w) := by
 have := rT w hc id hw
 rwa [wO h] at this
theorem nT {y : Yard} (hc : Shape.C w cs y fp) (id : Int) (hw : y.wt ≤ 1048576) {i : Nat} (h : eQ y id = some i) :
  Calls prog 90 #[.agg cs.toArray, I id] w (rI_ (i : Int) w) := by
 have := rT w hc id hw
 rwa [wN h] at this
theorem FreshS_n {y : Yard} (hc : Shape.C w cs y fp) {e : Entry} (hd : Shape.C w ds e gp) (hw : y.wt ≤ 1048576) (hix : eQ y e.run = none) :
  Calls prog 158 #[.agg cs.toArray, .agg ds.toArray] w fun ee w' => ee = .returned (.bool (fresh y e)) ∧ St w w' [] := by have zq1 := @func158; have zq2 := @ntmps158; have zq3 := @func90; have zq4 := @aI4; have zq5 := @results158; exact tq7_
theorem FreshS_s {y : Yard} (hc : Shape.C w cs y fp) {e : Entry} (hd : Shape.C w ds e gp) (hw : y.wt ≤ 1048576) {i : Nat} (hix : eQ y e.run = some i) :
  Calls prog 158 #[.agg cs.toArray, .agg ds.toArray] w fun ee w' => ee = .returned (.bool (fresh y e)) ∧ St w w' [] := by have zq1 := @func158; have zq2 := @ntmps158; have zq3 := @func90; have zq4 := @nT; have zq5 := @func43; have zq6 := @cR; have zq7 := @results158; exact tq8_
theorem aQ0 {y : Yard} (hc : Shape.C w cs y fp) {e : Entry} (hd : Shape.C w ds e gp) (hw : y.wt ≤ 1048576)  :
  Calls prog 158 #[.agg cs.toArray, .agg ds.toArray] w fun ee w' => ee = .returned (.bool (fresh y e)) ∧ St w w' [] := by
 cases hix : eQ y e.run with
 | none => exact FreshS_n w hc hd hw hix
 | some i => exact FreshS_s w hc hd hw hix
theorem aI8 {y : Yard} (hc : Shape.C w cs y fp)  (hw : y.wt ≤ 1048576) :
  Calls prog 96 #[.agg cs.toArray] w fun e w' => ∃ (v : Value) (fp' : List Nat), e = .returned v ∧ St w w' [Res.own v y.shelf.flatten fp'] := by
 have hys : y.shelf.length ≤ y.wt := by unfold Yard.wt wtL; omega
 refine cN func96 rfl ntmps96 aZ (wp_seq (aA (sg (aI (cs := cs) rfl (St.start w) ?_)))); intro s t a b
 refine sg (aF (v := .slice none 0 0) rfl (aB (wp_seq (aA (sg (aF (v := .slice none 0 0) rfl (aB (wp_seq (wp_seq (aA ?_))))))))))
 have c := hc
 obtain ⟨d, g, j, n, rfl, p, q, z, rfl⟩ := c
 refine rn b 4 Ag.nil.put.put.put.put [] [(7, d), (8, I (y.shelf.length : Int)), (9, I 0)] [qb 0 rfl 2, ql q] aD fun f12 t => (aB (wp_block ?_))
 have a := b.row_nil (α := Entry) 131
 refine bF (fun (m : Nat) (f : Nat → Value) (W : World) => ∃ (k : Nat) (A : Value), k ≤ y.shelf.length ∧ m = y.shelf.length - k ∧ Ag [(3, A), (7, d), (8, I (y.shelf.length : Int)), (9, I (k : Int))] f ∧ St w W ([Res.row (α := Entry) 131 A (y.shelf.take k).flatten [], Res.bx s [I y.now, I y.seq, d, g] 34])) (y.shelf.length - 0) ?_ ?_
 ·exact ⟨0, (.slice none 0 0), (by first | omega | simp), rfl, (t.to aD), a⟩
 intro b c j n
 obtain ⟨k, A, p, rfl, B, D⟩ := n
 have hfl := tA y (k + 1)
 refine wp_seq (aA (sg (bU (B.at 9) (B.at 8) (aB (wp_seq (aP rfl (fun s => ?_) (fun s => ?_)))))))
 ·refine wp_skip (wp_seq (wp_block (wp_seq (aA ?_))))
  have t : k < y.shelf.length := aE
  have E := idx q (i := k) t
  obtain ⟨a, b, c, d, F, G, g, j⟩ := E
  have H := g
  obtain ⟨n, rfl, p⟩ := H
  refine rn D 3 B.put [] [(5, n)] [qx F, qr G 0] aD fun s z => (aB (aA (sg (aH (z.at 3) (sg (aH (z.at 5) ?_))))))
  have t := qP (xss := y.shelf) (k := k) aE
  rw [t, length_append] at hfl
  refine sg (cX fE cG rfl rfl p D.below D (by unfold maxLen; omega) aE ?_); intro s a b
  refine sg (aF (v := s) rfl (aB (aA (sg (bO (z.at 9) rfl dL (sg (aH (v := I ((k : Int) + 1)) rfl (aB ?_))))))))
  exact ⟨_, y.shelf.length - (k + 1), aE, rfl, k + 1, s, aE, rfl, (z.put.put.put.put.put.put.to aD), (by rw [qP aE]; exact b)⟩
 refine wp_exit (wp_seq (aA (sg (aH (B.at 3) (sg (aF (v := A) rfl (aB (wr (bA results96 rfl ?_)))))))))
 obtain rfl : k = y.shelf.length := by omega
 rw [take_length] at D
 have E := D.shut
 obtain ⟨fpz, stz⟩ := E
 exact ⟨_, fpz, rfl, stz.only 0 rfl⟩
theorem aI7 {y : Yard} (hc : Shape.C w cs y fp)  (hw : y.wt ≤ 1048576) :
  Calls prog 91 #[.agg cs.toArray] w fun e w' => ∃ (v : Value) (fp' : List Nat), e = .returned v ∧ St w w' [Res.own v y.shelf.flatten fp'] := by
 have hys : y.shelf.length ≤ y.wt := by unfold Yard.wt wtL; omega
 refine cN func91 rfl ntmps91 aZ (wp_seq (aA (sg (aI (cs := cs) rfl (St.start w) ?_)))); intro s t a b
 refine sg (aF (v := .slice none 0 0) rfl (aB (wp_seq (aA (sg (aU (cs := []) (e := 131) dJ (bT cG _) b ?_)))))); intro c d g j
 have j := j.row_empty (α := Entry)
 refine sg (aF (v := (.slice (some ⟨c, 0, none⟩) 0 0)) rfl (aB (wp_seq (wp_seq (aA (sg (aG (aB (wp_block (bF (fun (m : Nat) (f : Nat → Value) (W : World) => ∃ (k : Nat) (n : Value), k ≤ y.shelf.length ∧ m = y.shelf.length - k ∧ Ag [(1, pt_ s), (3, n), (4, I (k : Int))] f ∧ St w W ([Res.row (α := Entry) 131 n (y.shelf.take k).flatten [], Res.bx s cs 34])) (y.shelf.length - 0) ?_ ?_))))))))))
 ·exact ⟨0, (.slice (some ⟨c, 0, none⟩) 0 0), (by first | omega | simp), rfl, (Ag.nil.put.put.put.put.put.put.to aD), j⟩
 intro t a b d
 obtain ⟨k, n, g, rfl, p, q⟩ := d
 have hfl := tA y (k + 1)
 refine wp_seq (wp_seq (aA ?_))
 have z := hc
 obtain ⟨s, A, B, D, rfl, c, E, F, rfl⟩ := z
 refine rn q 5 p [] [(10, .bool (decide ((k : Int) < (y.shelf.length : Int))))] [qb 1 rfl 2, ql E, .o] aD fun t G => (aB (aP (G.at 10) (fun a => ?_) (fun a => ?_)))
 ·refine wp_skip (wp_seq (wp_block (aA ?_)))
  have s : k < y.shelf.length := aE
  have H := idx E (i := k) s
  obtain ⟨b, c, d, g, J, K, j, p⟩ := H
  have L := j
  obtain ⟨t, rfl, z⟩ := L
  refine rn q 6 G [] [(13, n), (18, t)] [qb 1 rfl 2, qx J, qr K 0] aD fun a A => ?_
  have B := qP (xss := y.shelf) (k := k) aE
  rw [B, length_append] at hfl
  refine sg (cX fE cG (A.at 13) (A.at 18) z q.below q (by unfold maxLen; omega) aE ?_); intro s t b
  refine sg (aF (v := s) rfl (aB (aA (rn b 3 A.put.put [4] [(4, I ((k : Int) + 1))] [qad (k : Int) 1] aD fun a c => (aB ?_)))))
  exact ⟨_, y.shelf.length - (k + 1), aE, rfl, k + 1, s, aE, rfl, (c.to aD), (by rw [qP aE]; exact b)⟩
 refine wp_exit (wp_seq (aA (sg (aH (G.at 3) (sg (aF (v := n) rfl (aB (wr (bA results91 rfl ?_)))))))))
 obtain rfl : k = y.shelf.length := by omega
 rw [take_length] at q
 have H := q.shut
 obtain ⟨fpz, stz⟩ := H
 exact ⟨_, fpz, rfl, stz.only 0 rfl⟩
theorem qO (y : Yard) : y.shelf.flatten.length ≤ y.wt := by
 have s := tA y y.shelf.length
 rwa [take_length] at s
def dX (r : Run) : Nat := if r.state = 1 then r.tasks.length else 0
def eK (y : Yard) (es : List Entry) : Nat := (es.filter (fun e => !fresh y e)).length
def gZ (y : Yard) : Int := ((((y.runs).map dX).sum : Nat) : Int) + ((eK y y.shelf.flatten : Nat) : Int)
theorem slotsR_le (r : Run) : dX r ≤ r.wt := by unfold dX Run.wt; split <;> omega
theorem tV (y : Yard) (k : Nat) : ((y.runs.take k).map dX).sum ≤ y.wt := by
 have s := aO0 (f := dX) (g := fun r : Run => r.wt) slotsR_le (y.runs.take k)
 have t := jX (fun r : Run => r.wt) y.runs k
 unfold Yard.wt wtL
 omega
theorem aE4 {y : Yard} {es : List Entry} {k : Nat} (hk : k < es.length) (h : (!fresh y es[k]) = true) : eK y (es.take (k + 1)) = eK y (es.take k) + 1 := by
 unfold eK; rw [take_succ_eq_append_getElem hk, filter_append, length_append]; simp [h]
theorem aE5 {y : Yard} {es : List Entry} {k : Nat} (hk : k < es.length) (h : (!fresh y es[k]) = false) : eK y (es.take (k + 1)) = eK y (es.take k) := by
 unfold eK; rw [take_succ_eq_append_getElem hk, filter_append, length_append]; simp [h]
theorem qG (y : Yard) (es : List Entry) : eK y es ≤ es.length := length_filter_le _ _
theorem slotsE_app (y : Yard) (a b : List Entry) : eK y (a ++ b) = eK y a + eK y b := by unfold eK; rw [filter_append, length_append]
theorem aE2 {r : Run} (h : r.state = 1) : dX r = r.tasks.length := by unfold dX; rw [if_pos h]
theorem aE3 {r : Run} (h : ¬ r.state = 1) : dX r = 0 := by unfold dX; rw [if_neg h]
def xT (id : Int) (task : Int) (e : Entry) : Bool := decide (e.run = id) && decide (e.task = task)
def gO (id task : Int) (es : List Entry) : Nat := (es.filter (xT id task)).length
def rN (r : Run) (k : Nat) (es : List Entry) : Prop := ∀ h : k < r.tasks.length, ∀ e ∈ es, xT r.id (k : Int) e = true → r.tasks[k].state = 2 → e.prio = r.plan.prio
def wL (now : Int) (r : Run) (es : List Entry) (k : Nat) : Prop := rN r k es ∧ ∀ h : k < r.tasks.length, (r.tasks[k].state = 2 → gO r.id (k : Int) es = 1) ∧ (r.tasks[k].state = 3 → now + 1 ≤ r.tasks[k].until_ ∧ r.tasks[k].until_ ≤ now + r.plan.wait)
noncomputable def gS (now : Int) (r : Run) (es : List Entry) : Bool := pB (∀ k, k < r.tasks.length → wL now r es k)
theorem aC7 {id task : Int} {es : List Entry} {k : Nat} (hk : k < es.length) (h : es[k].run = id ∧ es[k].task = task) : gO id task (es.take (k + 1)) = gO id task (es.take k) + 1 := by
 unfold gO; rw [take_succ_eq_append_getElem hk, filter_append, length_append]; simp [xT, h]
theorem aC8 {id task : Int} {es : List Entry} {k : Nat} (hk : k < es.length) (h : ¬ (es[k].run = id ∧ es[k].task = task)) : gO id task (es.take (k + 1)) = gO id task (es.take k) := by
 have : xT id task es[k] = false := by
  unfold xT
  by_cases h1 : es[k].run = id
  ·have s : ¬ es[k].task = task := fun e => h ⟨h1, e⟩
   simp [h1, s]
  simp [h1]
 unfold gO; rw [take_succ_eq_append_getElem hk, filter_append, length_append]; simp [this]
theorem nA (id task : Int) (es : List Entry) : gO id task es ≤ es.length := length_filter_le _ _
theorem iC {r : Run} {k : Nat} {es : List Entry} {i : Nat} (hi : i < es.length) (h : rN r k (es.take i)) (h1 : ∀ hk : k < r.tasks.length, es[i].run = r.id → es[i].task = (k : Int) → r.tasks[k].state = 2 → es[i].prio = r.plan.prio) : rN r k (es.take (i + 1)) := by
 intro hk e he hent hst
 rw [take_succ_eq_append_getElem hi] at he
 rcases mem_append.1 he with he | he
 ·exact h hk e he hent hst
 rw [mem_singleton] at he; subst he
 simp only [xT, Bool.and_eq_true, decide_eq_true_eq] at hent
 exact h1 hk hent.1 hent.2 hst
theorem iB {now : Int} {r : Run} {es : List Entry} {k i : Nat} (hi : i = es.length) (hPr : rN r k (es.take i)) (h2 : ∀ h : k < r.tasks.length, (r.tasks[k].state = 2 → gO r.id (k : Int) (es.take i) = 1) ∧ (r.tasks[k].state = 3 → now + 1 ≤ r.tasks[k].until_ ∧ r.tasks[k].until_ ≤ now + r.plan.wait)) (hT : ∀ j, j < k → wL now r es j) : ∀ j, j < k + 1 → wL now r es j := by
 subst hi
 rw [take_length] at hPr h2
 intro j hj
 rcases Nat.lt_succ_iff_lt_or_eq.1 hj with s | rfl
 ·exact hT j s
 exact ⟨hPr, h2⟩
theorem wV {r : Run} {k : Nat} {es : List Entry} {i : Nat} (hi : i < es.length) (hk : k < r.tasks.length) (h1 : es[i].run = r.id) (h2 : es[i].task = (k : Int)) (h3 : r.tasks[k].state = 2) (h4 : ¬ es[i].prio = r.plan.prio) : ¬ rN r k es := fun h => h4 (h hk _ (getElem_mem hi) (by simp [xT, h1, h2]) h3)

theorem aI3 {y : Yard} (hc : Shape.C w cs y fp) (hw : y.wt ≤ 1048576) :
  Calls prog 100 #[.agg cs.toArray] w (rI_ (gZ y) w) := by
 have hyr : y.runs.length ≤ y.wt := by unfold Yard.wt wtL; omega
 have hys : y.shelf.length ≤ y.wt := by unfold Yard.wt wtL; omega
 have hfw := qO y
 refine cN func100 rfl ntmps100 aZ (wp_seq (aA (sg (aI (cs := cs) rfl (St.start w) ?_)))); intro t a c d
 refine sg (aG (aB (wp_seq (aA (sg (aG (aB (wp_seq (wp_seq (aA ?_))))))))))
 have g := hc
 obtain ⟨j, n, p, q, rfl, z, A, B, rfl⟩ := g
 refine rn d 4 Ag.nil.put.put.put.put [] [(9, n), (10, I (y.runs.length : Int)), (11, I 0)] [qb 0 rfl 3, ql B] aD fun f12 a => (aB (wp_block (bF (fun (m : Nat) (f : Nat → Value) (W : World) => ∃ (k : Nat), k ≤ y.runs.length ∧ m = y.runs.length - k ∧ Ag [(1, pt_ t), (3, I ((((y.runs.take k).map dX).sum : Nat) : Int)), (9, n), (10, I (y.runs.length : Int)), (11, I (k : Int))] f ∧ St w W ([Res.bx t [I y.now, I y.seq, j, n] 34])) (y.runs.length - 0) ?_ ?_)))
 ·exact ⟨0, aE, rfl, (a.to aD), d⟩
 intro c f14 D g
 obtain ⟨k, hk, rfl, E, F⟩ := g
 have hsl := tV y k
 refine wp_seq (aA (sg (bU (E.at 11) (E.at 10) (aB (wp_seq (aP rfl (fun p => ?_) (fun p => ?_)))))))
 ·refine wp_skip (wp_seq (wp_block (wp_seq (aA ?_))))
  have G : k < y.runs.length := aE
  have H := idx B (i := k) G
  obtain ⟨a, c, d, g, q, z, A, J⟩ := H
  refine sg (aT dS (E.at 9) q (E.at 11) rfl (sg (cY bP rfl rfl z F.below (Shape.len A) (sg (aQ fN F ?_))))); intro p K L M
  refine sgn (aJ (cs := d) bP A rfl rfl M rfl ?_); intro a N
  refine aB (wp_seq (aA ?_))
  have O := A
  obtain ⟨c, g, q, z, rfl, B, J, P, rfl⟩ := O
  refine rn N 3 E.put.put.put.put [] [(17, .bool (decide ((y.runs[k]'G).state = 1)))] [qb 0 rfl 6, .o] aD fun d p => (aB (aP (p.at 17) (fun K => ?_) (fun K => ?_)))
  ·refine aA (rn N 4 p [] [(18, I ((((y.runs.take k).map dX).sum : Nat) : Int)), (21, I ((y.runs[k]'G).tasks.length : Int))] [qb 0 rfl 7, ql P] aD fun a c => ?_)
   have hyk := lY (y := y) (k := k) aE
   have hrw : (y.runs[k]'(by omega)).tasks.length ≤ (y.runs[k]'(by omega)).wt := by unfold Run.wt; omega
   refine sg (bO (c.at 18) (c.at 21) dL (sg (aF (v := I (((((y.runs.take k).map dX).sum : Nat) : Int) + ((y.runs[k]'G).tasks.length : Int))) rfl (aB (aA (sg (bO (c.at 11) rfl dL (sg (aH (v := I ((k : Int) + 1)) rfl (aB ?_))))))))))
   exact ⟨_, y.runs.length - (k + 1), aE, rfl, k + 1, aE, rfl, (Ag.cons (c.at 1) (Ag.cons (Eq.trans (show _ = I (((((y.runs.take k).map dX).sum : Nat) : Int) + ((y.runs[k]'G).tasks.length : Int)) from rfl) (congrArg I (by rw [sB dX y.runs k aE, aE2 K]; try omega))) (Ag.cons (c.at 9) (Ag.cons (c.at 10) (Ag.cons rfl Ag.nil))))), N.f1.d1⟩
  refine wp_skip (aA (sg (bO (p.at 11) rfl dL (sg (aH (v := I ((k : Int) + 1)) rfl (aB ?_))))))
  exact ⟨_, y.runs.length - (k + 1), aE, rfl, k + 1, aE, rfl, (Ag.cons (p.at 1) (Ag.cons (Eq.trans (show _ = I ((((y.runs.take k).map dX).sum : Nat) : Int) from (p.at 3)) (congrArg I (by rw [sB dX y.runs k aE, aE3 K]; try omega))) (Ag.cons (p.at 9) (Ag.cons (p.at 10) (Ag.cons rfl Ag.nil))))), N.f1.d1⟩
 refine wp_exit (wp_seq (wp_seq (aA (sg (aS (cs := [I y.now, I y.seq, j, n]) aL rfl (E.at 1) (F.get 0 rfl) rfl rfl (sg (bC func96 rfl rfl ((aI8 D (aR hc F.below) aE).mono ?_)))))))); rintro _ a ⟨c, d, rfl, g⟩; refine ⟨_, rfl, ?_⟩
 have p := St.call F g
 refine sg (eY sl_EntryS rfl (aM (p.get 0 rfl)) (sg (aH (v := I 0) rfl (aB (wp_block (bF (fun (m : Nat) (f : Nat → Value) (W : World) => ∃ (i : Nat), i ≤ y.shelf.flatten.length ∧ m = y.shelf.flatten.length - i ∧ Ag [(1, pt_ t), (3, I (((((y.runs.take k).map dX).sum : Nat) : Int) + ((eK y (y.shelf.flatten.take i) : Nat) : Int))), (25, c), (26, I ((y.shelf).flatten.length : Int)), (27, I (i : Int))] f ∧ St w W ([Res.own (α := List Entry) c (y.shelf).flatten d, Res.bx t [I y.now, I y.seq, j, n] 34])) (y.shelf.flatten.length - 0) ?_ ?_))))))
 ·exact ⟨0, aE, rfl, (Ag.cons (E.at 1) (Ag.cons (Eq.trans (show _ = I ((((y.runs.take k).map dX).sum : Nat) : Int) from (E.at 3)) (congrArg I (by simp [eK]))) (Ag.cons rfl (Ag.cons rfl (Ag.cons rfl Ag.nil))))), p⟩
 intro t a c d
 obtain ⟨i, hi, rfl, g, R⟩ := d
 have hse := qG y (y.shelf.flatten.take i)
 have htl := length_take_le i y.shelf.flatten
 refine wp_seq (aA (sg (bU (g.at 27) (g.at 26) (aB (wp_seq (aP rfl (fun q => ?_) (fun q => ?_)))))))
 ·refine wp_skip (wp_seq (wp_block (wp_seq (aA ?_))))
  have t : i < (y.shelf).flatten.length := aE
  have H := idx (aM (R.get 0 rfl)) (i := i) t
  obtain ⟨a, c, d, p, z, A, B, D⟩ := H
  refine sg (aT sl_EntryS (g.at 25) z (g.at 27) rfl (sg (cY eI rfl rfl A (Below.refl _ _) (Shape.len B) (sg (aQ iU R ?_))))); intro q E F G
  refine sgn (aJ (cs := d) eI B rfl rfl G rfl ?_); intro a c
  refine aB (wp_seq (aA (rc c 4 g.put.put.put.put [] [(34, .bool (!(fresh y ((y.shelf).flatten[i]'t))))] [qb 2 rfl 0, qw 0 rfl (Shape.len B), qc (args := [.agg #[I y.now, I y.seq, j, n], .agg d.toArray]) (v := .bool (fresh y ((y.shelf).flatten[i]'t))) func165 rfl (fun W s b => aQ1 W (aR hc s.below) B aE), .o] aD fun a c p q z => (aB (bZ (p.at 34) (fun A => ?_) (fun A => ?_))))))
  ·refine aA (rn q 3 p [3] [(3, I ((((((y.runs.take k).map dX).sum : Nat) : Int) + ((eK y (y.shelf.flatten.take i) : Nat) : Int)) + 1))] [qad (((((y.runs.take k).map dX).sum : Nat) : Int) + ((eK y (y.shelf.flatten.take i) : Nat) : Int)) 1] aD fun t a => (aB (aA (sg (bO (a.at 27) rfl dL (sg (aH (v := I ((i : Int) + 1)) rfl (aB ?_))))))))
   exact ⟨_, y.shelf.flatten.length - (i + 1), aE, rfl, i + 1, aE, rfl, (Ag.cons (a.at 1) (Ag.cons (Eq.trans (show _ = I ((((((y.runs.take k).map dX).sum : Nat) : Int) + ((eK y (y.shelf.flatten.take i) : Nat) : Int)) + 1) from (a.at 3)) (congrArg I (by rw [aE4 aE A]; try omega))) (Ag.cons (a.at 25) (Ag.cons (a.at 26) (Ag.cons rfl Ag.nil))))), q.f2.f2.d2⟩
  refine wp_skip (aA (sg (bO (p.at 27) rfl dL (sg (aH (v := I ((i : Int) + 1)) rfl (aB ?_))))))
  exact ⟨_, y.shelf.flatten.length - (i + 1), aE, rfl, i + 1, aE, rfl, (Ag.cons (p.at 1) (Ag.cons (Eq.trans (show _ = I (((((y.runs.take k).map dX).sum : Nat) : Int) + ((eK y (y.shelf.flatten.take i) : Nat) : Int)) from (p.at 3)) (congrArg I (by rw [aE5 aE A]; try omega))) (Ag.cons (p.at 25) (Ag.cons (p.at 26) (Ag.cons rfl Ag.nil))))), q.f2.f2.d2⟩
 refine wp_exit (wp_seq (aA (sg (aH (g.at 3) (sg (aF (v := I (((((y.runs.take k).map dX).sum : Nat) : Int) + ((eK y (y.shelf.flatten.take i) : Nat) : Int))) rfl (aB (wr (bA results100 rfl ?_)))))))))
 obtain rfl : k = y.runs.length := by omega
 obtain rfl : i = y.shelf.flatten.length := by omega
 exact ⟨(fI (by unfold gZ; rw [take_length, take_length])), R.bare⟩
theorem aI2 {y : Yard} (hc : Shape.C w cs y fp) (hw : y.wt ≤ 1048576) :
  Calls prog 93 #[.agg cs.toArray] w (rI_ (gZ y) w) := by
 have hyr : y.runs.length ≤ y.wt := by unfold Yard.wt wtL; omega
 have hys : y.shelf.length ≤ y.wt := by unfold Yard.wt wtL; omega
 have hfw := qO y
 refine cN func93 rfl ntmps93 aZ (wp_seq (aA (sg (aI (cs := cs) rfl (St.start w) ?_)))); intro t a c d
 refine sg (aG (aB (wp_seq (aA (sg (aG (aB (wp_seq (wp_seq (aA (sg (aG (aB (wp_block ?_))))))))))))))
 refine bF (fun (m : Nat) (f : Nat → Value) (W : World) => ∃ (k : Nat), k ≤ y.runs.length ∧ m = y.runs.length - k ∧ Ag [(1, pt_ t), (3, I ((((y.runs.take k).map dX).sum : Nat) : Int)), (4, I (k : Int))] f ∧ St w W ([Res.bx t cs 34])) (y.runs.length - 0) ?_ ?_
 ·exact ⟨0, aE, rfl, (Ag.nil.put.put.put.put.put.to aD), d⟩
 intro a f13 c g
 obtain ⟨k, hk, rfl, n, p⟩ := g
 have hsl := tV y k
 refine wp_seq (wp_seq (aA ?_))
 have q := hc
 obtain ⟨z, A, B, D, rfl, E, F, G, rfl⟩ := q
 refine rn p 5 n [] [(11, .bool (decide ((k : Int) < (y.runs.length : Int))))] [qb 0 rfl 3, ql G, .o] aD fun a H => (aB (aP (H.at 11) (fun c => ?_) (fun c => ?_)))
 ·refine wp_skip (wp_seq (wp_block (wp_seq (aA ?_))))
  have J : k < y.runs.length := aE
  have K := idx G (i := k) J
  obtain ⟨d, g, n, q, L, M, B, D⟩ := K
  have N := B
  obtain ⟨a, E, O, P, rfl, R, c, S, rfl⟩ := N
  refine rn p 7 H [] [(20, .bool (decide ((y.runs[k]'J).state = 1)))] [qb 0 rfl 3, qx L, qr M 6, .o] aD fun G T => (aB (aP (T.at 20) (fun d => ?_) (fun d => ?_)))
  ·refine aA (rn p 8 T [] [(21, I ((((y.runs.take k).map dX).sum : Nat) : Int)), (28, I ((y.runs[k]'J).tasks.length : Int))] [qb 0 rfl 3, qx L, qr M 7, ql S] aD fun a c => ?_)
   have hyk := lY (y := y) (k := k) aE
   have hrw : (y.runs[k]'(by omega)).tasks.length ≤ (y.runs[k]'(by omega)).wt := by unfold Run.wt; omega
   refine sg (bO (c.at 21) (c.at 28) dL (sg (aF (v := I (((((y.runs.take k).map dX).sum : Nat) : Int) + ((y.runs[k]'J).tasks.length : Int))) rfl (aB (aA (rn p 3 c.put.put [4] [(4, I ((k : Int) + 1))] [qad (k : Int) 1] aD fun a g => (aB ?_)))))))
   exact ⟨_, y.runs.length - (k + 1), aE, rfl, k + 1, aE, rfl, (Ag.cons (g.at 1) (Ag.cons (Eq.trans (show _ = I (((((y.runs.take k).map dX).sum : Nat) : Int) + ((y.runs[k]'J).tasks.length : Int)) from (g.at 3)) (congrArg I (by rw [sB dX y.runs k aE, aE2 d]; try omega))) (Ag.cons (g.at 4) Ag.nil))), p⟩
  refine wp_skip (aA (rn p 3 T [4] [(4, I ((k : Int) + 1))] [qad (k : Int) 1] aD fun a c => (aB ?_)))
  exact ⟨_, y.runs.length - (k + 1), aE, rfl, k + 1, aE, rfl, (Ag.cons (c.at 1) (Ag.cons (Eq.trans (show _ = I ((((y.runs.take k).map dX).sum : Nat) : Int) from (c.at 3)) (congrArg I (by rw [sB dX y.runs k aE, aE3 d]; try omega))) (Ag.cons (c.at 4) Ag.nil))), p⟩
 refine wp_exit (wp_seq (wp_seq (aA (sg (aG (aB (wp_block (bF (fun (m : Nat) (f : Nat → Value) (W : World) => ∃ (i : Nat), i ≤ y.shelf.length ∧ m = y.shelf.length - i ∧ Ag [(1, pt_ t), (3, I (((((y.runs.take k).map dX).sum : Nat) : Int) + ((eK y (y.shelf.take i).flatten : Nat) : Int))), (5, I (i : Int))] f ∧ St w W ([Res.bx t [I y.now, I y.seq, z, A] 34])) (y.shelf.length - 0) ?_ ?_))))))))
 ·exact ⟨0, aE, rfl, (Ag.cons (H.at 1) (Ag.cons (Eq.trans (show _ = I ((((y.runs.take k).map dX).sum : Nat) : Int) from (H.at 3)) (congrArg I (by simp [eK]))) (Ag.cons rfl Ag.nil))), p⟩
 intro a c d g
 obtain ⟨i, hi, rfl, n, U⟩ := g
 have hse := qG y (y.shelf.take i).flatten
 have hfi := tA y i
 refine wp_seq (wp_seq (aA (rn U 5 n [] [(34, .bool (decide ((i : Int) < (y.shelf.length : Int))))] [qb 0 rfl 2, ql F, .o] aD fun p X => (aB (aP (X.at 34) (fun a => ?_) (fun a => ?_))))))
 ·refine wp_skip (wp_seq (wp_block (wp_seq (aA (sg (aG (aB (wp_block (bF (fun (m : Nat) (f : Nat → Value) (W : World) => ∃ (j : Nat), i < y.shelf.length ∧ j ≤ (y.shelf[i]'(by omega)).length ∧ m = (y.shelf[i]'(by omega)).length - j ∧ Ag [(1, pt_ t), (3, I (((((y.runs.take k).map dX).sum : Nat) : Int) + ((eK y (y.shelf.take i).flatten : Nat) : Int) + ((eK y ((y.shelf[i]'(by omega)).take j) : Nat) : Int))), (5, I (i : Int)), (6, I (j : Int))] f ∧ St w W ([Res.bx t [I y.now, I y.seq, z, A] 34])) ((y.shelf[i]'(by omega)).length - 0) ?_ ?_)))))))))
  ·exact ⟨0, aE, aE, rfl, (Ag.cons (X.at 1) (Ag.cons (Eq.trans (show _ = I (((((y.runs.take k).map dX).sum : Nat) : Int) + ((eK y (y.shelf.take i).flatten : Nat) : Int)) from (X.at 3)) (congrArg I (by simp [eK]))) (Ag.cons (X.at 5) (Ag.cons rfl Ag.nil)))), U⟩
  intro t a c d
  obtain ⟨j, g, hj, rfl, Y, Z⟩ := d
  have n := qG y ((y.shelf[i]'(by omega)).take j)
  have htl := length_take_le j (y.shelf[i]'(by omega))
  have p := tA y (i + 1)
  rw [qP aE, length_append] at p
  refine wp_seq (wp_seq (aA ?_))
  have hij : i ≤ y.shelf.length := by omega
  have a0 : i < y.shelf.length := aE
  have K := idx F (i := i) a0
  obtain ⟨t, a, c, d, b0, c0, g, n⟩ := K
  have e0 := g
  obtain ⟨q, rfl, B⟩ := e0
  refine rn Z 8 Y [] [(44, .bool (decide ((j : Int) < ((y.shelf[i]'a0).length : Int))))] [qb 0 rfl 2, qx b0, qr c0 0, ql B, .o] aD fun p f0 => (aB (aP (f0.at 44) (fun t => ?_) (fun t => ?_)))
  ·refine wp_skip (wp_seq (wp_block (wp_seq ?_)))
   have g0 : j < (y.shelf[i]'a0).length := aE
   have K := idx B (i := j) g0
   obtain ⟨a, c, d, g, h0, j0, k0, n⟩ := K
   have l0 := k0
   obtain ⟨m0, rfl, p⟩ := l0
   have m0 : _ = [I ((y.shelf[i]'a0)[j]'g0).prio, I ((y.shelf[i]'a0)[j]'g0).seq, I ((y.shelf[i]'a0)[j]'g0).run, I ((y.shelf[i]'a0)[j]'g0).task] := m0
   subst m0
   refine rd Z f0 [] [(57, .bool (!(fresh y ((y.shelf[i]'a0)[j]'g0))))] [qb 0 rfl 0, qb 0 rfl 2, qx b0, qr c0 0, qx h0, qr j0 0, qc (args := [.agg #[I y.now, I y.seq, z, A], .agg #[I ((y.shelf[i]'a0)[j]'g0).prio, I ((y.shelf[i]'a0)[j]'g0).seq, I ((y.shelf[i]'a0)[j]'g0).run, I ((y.shelf[i]'a0)[j]'g0).task]]) (v := .bool (fresh y ((y.shelf[i]'a0)[j]'g0))) func158 rfl (fun W s b => aQ0 W (aR hc s.below) k0 aE), .o] aD aD fun t a c d g => (bZ (c.at 57) (fun n => ?_) (fun n => ?_))
   ·refine aA (rn d 3 c [3] [(3, I ((((((y.runs.take k).map dX).sum : Nat) : Int) + ((eK y (y.shelf.take i).flatten : Nat) : Int) + ((eK y ((y.shelf[i]'(by omega)).take j) : Nat) : Int)) + 1))] [qad (((((y.runs.take k).map dX).sum : Nat) : Int) + ((eK y (y.shelf.take i).flatten : Nat) : Int) + ((eK y ((y.shelf[i]'(by omega)).take j) : Nat) : Int)) 1] aD fun t a => (aB (aA (rn d 3 a [6] [(6, I ((j : Int) + 1))] [qad (j : Int) 1] aD fun g p => (aB ?_)))))
    exact ⟨_, (y.shelf[i]'(by omega)).length - (j + 1), aE, rfl, j + 1, aE, aE, rfl, (Ag.cons (p.at 1) (Ag.cons (Eq.trans (show _ = I ((((((y.runs.take k).map dX).sum : Nat) : Int) + ((eK y (y.shelf.take i).flatten : Nat) : Int) + ((eK y ((y.shelf[i]'(by omega)).take j) : Nat) : Int)) + 1) from (p.at 3)) (congrArg I (by rw [aE4 aE n]; try omega))) (Ag.cons (p.at 5) (Ag.cons (p.at 6) Ag.nil)))), d⟩
   refine wp_skip (aA (rn d 3 c [6] [(6, I ((j : Int) + 1))] [qad (j : Int) 1] aD fun t a => (aB ?_)))
   exact ⟨_, (y.shelf[i]'(by omega)).length - (j + 1), aE, rfl, j + 1, aE, aE, rfl, (Ag.cons (a.at 1) (Ag.cons (Eq.trans (show _ = I (((((y.runs.take k).map dX).sum : Nat) : Int) + ((eK y (y.shelf.take i).flatten : Nat) : Int) + ((eK y ((y.shelf[i]'(by omega)).take j) : Nat) : Int)) from (a.at 3)) (congrArg I (by rw [aE5 aE n]; try omega))) (Ag.cons (a.at 5) (Ag.cons (a.at 6) Ag.nil)))), d⟩
  refine wp_exit (aA (rn Z 3 f0 [5] [(5, I ((i : Int) + 1))] [qad (i : Int) 1] aD fun t c => (aB ?_)))
  exact ⟨_, y.shelf.length - (i + 1), aE, rfl, i + 1, aE, rfl, (Ag.cons (c.at 1) (Ag.cons (Eq.trans (show _ = I (((((y.runs.take k).map dX).sum : Nat) : Int) + ((eK y (y.shelf.take i).flatten : Nat) : Int) + ((eK y ((y.shelf[i]'(by omega)).take j) : Nat) : Int)) from (c.at 3)) (congrArg I (by rw [qP aE, slotsE_app, show j = (y.shelf[i]'(by omega)).length by omega, take_length]; omega))) (Ag.cons (c.at 5) Ag.nil))), Z⟩
 refine wp_exit (wp_seq (aA (sg (aH (X.at 3) (sg (aF (v := I (((((y.runs.take k).map dX).sum : Nat) : Int) + ((eK y (y.shelf.take i).flatten : Nat) : Int))) rfl (aB (wr (bA results93 rfl ?_)))))))))
 obtain rfl : k = y.runs.length := by omega
 obtain rfl : i = y.shelf.length := by omega
 exact ⟨(fI (by unfold gZ; rw [take_length, take_length])), U.bare⟩
theorem RunsOkI {y : Yard} (hc : Shape.C w cs y fp) {r : Run} (hd : Shape.C w ds r gp) {v : Value} {es : List Entry} {fq : List Nat} (h : Sl w v es fq) (hn : 0 ≤ y.now ∧ y.now ≤ 999999980) (hwt : 0 ≤ r.plan.wait ∧ r.plan.wait ≤ 20) (hl : es.length ≤ 1048576) :
  Calls prog 99 #[.agg cs.toArray, .agg ds.toArray, v] w (rB_ (gS y.now r es) w) := by
 have hcap : r.tasks.length ≤ 9223372036854775807 := by have t := hd; obtain ⟨a, c, f1, f2, t, hok, d, g, hfp⟩ := t; exact g.len_le
 have hcap2 := h.len_le
 refine iS func99 rfl ntmps99 aZ (wp_seq (aA (sg (aI (cs := cs) rfl (St.start w) ?_)))); intro n p q z
 refine sg (aI (cs := ds) rfl z ?_); intro A a c B
 refine sg (aG (aB (wp_seq (wp_seq (aA ?_)))))
 have D := hd
 obtain ⟨t, E, F, G, rfl, H, J, K, rfl⟩ := D
 refine rn B 4 Ag.nil.put.put.put.put.put.put [] [(13, E), (14, I (r.tasks.length : Int)), (15, I 0)] [qb 0 rfl 7, ql K] aD fun f15 a => (aB (wp_block (bF (fun (m : Nat) (f : Nat → Value) (W : World) => ∃ (k : Nat), k ≤ r.tasks.length ∧ (∀ j, j < k → wL y.now r es j) ∧ m = r.tasks.length - k ∧ Ag [(2, v), (3, pt_ n), (4, pt_ A), (13, E), (14, I (r.tasks.length : Int)), (15, I (k : Int))] f ∧ St w W ([Res.bx A [I r.id, I r.plan.prio, I r.plan.most, I r.plan.wait, I r.plan.tasks, t, I r.state, E] 123, Res.bx n cs 34])) (r.tasks.length - 0) ?_ ?_)))
 ·exact ⟨0, aE, (fun j hj => absurd hj (Nat.not_lt_zero j)), rfl, (a.to aD), B⟩
 intro c p q z
 obtain ⟨k, hk, hT, rfl, D, L⟩ := z
 refine wp_seq (aA (sg (bU (D.at 15) (D.at 14) (aB (wp_seq (aP rfl (fun F => ?_) (fun F => ?_)))))))
 ·refine wp_skip (wp_seq (wp_block (wp_seq (aA ?_))))
  have M : k < r.tasks.length := aE
  have a := idx K (i := k) M
  obtain ⟨c, p, q, z, B, G, N, H⟩ := a
  refine rn L 3 D.put [] [(17, I (k : Int)), (19, .agg q.toArray)] [qx B, qrw G (Shape.len N)] aD fun F J => (sg (aQ iD L ?_)); intro O P R K
  refine sg (aF (J.at 17) (sgn (aJ (cs := q) iI N rfl (J.at 19) K rfl ?_))); intro c p
  refine aB (wp_seq (aA (sg (aG (aB (wp_seq (wp_seq (aA (rn p 3 J.put.put.put [] [(20, v), (21, I (es.length : Int)), (22, I 0)] [ql h] aD fun z B => (aB (wp_block (bF (fun (m : Nat) (f : Nat → Value) (W : World) => ∃ (i : Nat), k < r.tasks.length ∧ i ≤ es.length ∧ rN r k (es.take i) ∧ gO r.id (k : Int) (es.take i) ≤ i ∧ m = es.length - i ∧ Ag [(2, v), (3, pt_ n), (4, pt_ A), (7, I (k : Int)), (8, pt_ O), (9, I ((gO r.id (k : Int) (es.take i) : Nat) : Int)), (13, E), (14, I (r.tasks.length : Int)), (15, I (k : Int)), (20, v), (21, I (es.length : Int)), (22, I (i : Int))] f ∧ St w W ([Res.bx O q 140, Res.bx A [I r.id, I r.plan.prio, I r.plan.most, I r.plan.wait, I r.plan.tasks, t, I r.state, E] 123, Res.bx n cs 34])) (es.length - 0) ?_ ?_))))))))))))
  ·exact ⟨0, aE, aE, (fun _ e he => by simp at he), (by simp [gO]), rfl, (Ag.cons (B.at 2) (Ag.cons (B.at 3) (Ag.cons (B.at 4) (Ag.cons (B.at 7) (Ag.cons (B.at 8) (Ag.cons (Eq.trans (show _ = I 0 from (B.at 9)) (congrArg I (by simp [gO]))) (Ag.cons (B.at 13) (Ag.cons (B.at 14) (Ag.cons (B.at 15) (Ag.cons (B.at 20) (Ag.cons (B.at 21) (Ag.cons (B.at 22) Ag.nil)))))))))))), p⟩
  intro t c n q
  obtain ⟨i, z, hi, hPr, hen, rfl, S, T⟩ := q
  refine wp_seq (aA (sg (bU (S.at 22) (S.at 21) (aB (wp_seq (aP rfl (fun A => ?_) (fun A => ?_)))))))
  ·refine wp_skip (wp_seq (wp_block (wp_seq (aA ?_))))
   have U : i < es.length := aE
   have a := idx h (i := i) U
   obtain ⟨t, c, n, p, q, z, B, D⟩ := a
   refine sg (aT sl_EntryS (S.at 20) q (S.at 22) rfl (sg (cY eI rfl rfl z T.below (Shape.len B) (sg (aQ iU T ?_))))); intro A E F G
   refine sgn (aJ (cs := n) eI B rfl rfl G rfl ?_); intro t X
   refine aB (wp_seq (aA ?_))
   have Y := B
   obtain ⟨Z, rfl, a⟩ := Y
   have Z : _ = [I (es[i]'U).prio, I (es[i]'U).seq, I (es[i]'U).run, I (es[i]'U).task] := Z
   subst Z
   rcases nem ((es[i]'U).run = r.id) with t | t
   ·have c := decide_eq_false t
    refine rn X 11 S.put.put.put.put [] [(36, .bool false)] [qb 0 rfl 2, qb 2 rfl 0, qk c] aD fun a n => (aB (kI (n.at 36) rfl (wp_skip (aA (sg (bO (n.at 22) rfl dL (sg (aH (v := I ((i : Int) + 1)) rfl (aB ?_)))))))))
    exact ⟨_, es.length - (i + 1), aE, rfl, i + 1, aE, aE, (iC aE hPr (fun _ d g a0 => by omega)), (by exact Nat.le_trans (nA _ _ _) (length_take_le _ _)), rfl, (Ag.cons (n.at 2) (Ag.cons (n.at 3) (Ag.cons (n.at 4) (Ag.cons (n.at 7) (Ag.cons (n.at 8) (Ag.cons (Eq.trans (show _ = I ((gO r.id (k : Int) (es.take i) : Nat) : Int) from (n.at 9)) (congrArg I (by rw [aC8 aE (fun hz => by have b0 := hz.1; have c0 := hz.2; omega)]))) (Ag.cons (n.at 13) (Ag.cons (n.at 14) (Ag.cons (n.at 15) (Ag.cons (n.at 20) (Ag.cons (n.at 21) (Ag.cons rfl Ag.nil)))))))))))), X.f3.f3.f3.d3⟩
   have c := decide_eq_true t
   refine rn X 11 S.put.put.put.put [] [(36, .bool (decide ((es[i]'U).task = (k : Int))))] [qb 0 rfl 2, qb 2 rfl 0, qk c, qb 0 rfl 3, .o] aD fun a e0 => (aB (aP (e0.at 36) (fun p => ?_) (fun p => ?_)))
   ·refine wp_seq (wp_seq (aA ?_))
    have f0 := N
    obtain ⟨g0, rfl, t⟩ := f0
    have g0 : _ = [I (r.tasks[k]'M).state, I (r.tasks[k]'M).need, I (r.tasks[k]'M).try_, I (r.tasks[k]'M).until_] := g0
    subst g0
    rcases nem ((r.tasks[k]'M).state = 2) with a | a
    ·have c := decide_eq_false a
     refine rn X 11 e0 [] [(47, .bool false)] [qb 1 rfl 0, qk c] aD fun t n => (aB (kI (n.at 47) rfl (wp_skip (aA (rn X 3 n [9] [(9, I (((gO r.id (k : Int) (es.take i) : Nat) : Int) + 1))] [qad ((gO r.id (k : Int) (es.take i) : Nat) : Int) 1] aD fun p q => (aB (aA (sg (bO (q.at 22) rfl dL (sg (aH (v := I ((i : Int) + 1)) rfl (aB ?_))))))))))))
     exact ⟨_, es.length - (i + 1), aE, rfl, i + 1, aE, aE, (iC aE hPr (fun _ d g a0 => by omega)), (by exact Nat.le_trans (nA _ _ _) (length_take_le _ _)), rfl, (Ag.cons (q.at 2) (Ag.cons (q.at 3) (Ag.cons (q.at 4) (Ag.cons (q.at 7) (Ag.cons (q.at 8) (Ag.cons (Eq.trans (show _ = I (((gO r.id (k : Int) (es.take i) : Nat) : Int) + 1) from (q.at 9)) (congrArg I (by rw [aC7 aE ⟨by assumption, by assumption⟩]; omega))) (Ag.cons (q.at 13) (Ag.cons (q.at 14) (Ag.cons (q.at 15) (Ag.cons (q.at 20) (Ag.cons (q.at 21) (Ag.cons rfl Ag.nil)))))))))))), X.f3.f3.f3.d3⟩
    have c := decide_eq_true a
    refine rn X 11 e0 [] [(47, .bool (!decide ((es[i]'U).prio = r.plan.prio)))] [qb 1 rfl 0, qk c, qb 0 rfl 0, qb 2 rfl 1, .o] aD fun t n => (aB (cQ (n.at 47) (fun p => ?_) (fun p => ?_)))
    ·refine wp_seq (aA (sg (aG (aB (wr (bA results99 rfl ?_))))))
     exact ⟨(fB (by unfold gS; rw [fU (fun hz => wV (i := i) (k := k) aE aE (by assumption) (by assumption) (by assumption) (by assumption) (hz k aE).1)])), X.bare⟩
    refine wp_skip (aA (rn X 3 n [9] [(9, I (((gO r.id (k : Int) (es.take i) : Nat) : Int) + 1))] [qad ((gO r.id (k : Int) (es.take i) : Nat) : Int) 1] aD fun t a => (aB (aA (sg (bO (a.at 22) rfl dL (sg (aH (v := I ((i : Int) + 1)) rfl (aB ?_)))))))))
    exact ⟨_, es.length - (i + 1), aE, rfl, i + 1, aE, aE, (iC aE hPr (fun _ d g a0 => by omega)), (by exact Nat.le_trans (nA _ _ _) (length_take_le _ _)), rfl, (Ag.cons (a.at 2) (Ag.cons (a.at 3) (Ag.cons (a.at 4) (Ag.cons (a.at 7) (Ag.cons (a.at 8) (Ag.cons (Eq.trans (show _ = I (((gO r.id (k : Int) (es.take i) : Nat) : Int) + 1) from (a.at 9)) (congrArg I (by rw [aC7 aE ⟨by assumption, by assumption⟩]; omega))) (Ag.cons (a.at 13) (Ag.cons (a.at 14) (Ag.cons (a.at 15) (Ag.cons (a.at 20) (Ag.cons (a.at 21) (Ag.cons rfl Ag.nil)))))))))))), X.f3.f3.f3.d3⟩
   refine wp_skip (aA (sg (bO (e0.at 22) rfl dL (sg (aH (v := I ((i : Int) + 1)) rfl (aB ?_))))))
   exact ⟨_, es.length - (i + 1), aE, rfl, i + 1, aE, aE, (iC aE hPr (fun _ d g a0 => by omega)), (by exact Nat.le_trans (nA _ _ _) (length_take_le _ _)), rfl, (Ag.cons (e0.at 2) (Ag.cons (e0.at 3) (Ag.cons (e0.at 4) (Ag.cons (e0.at 7) (Ag.cons (e0.at 8) (Ag.cons (Eq.trans (show _ = I ((gO r.id (k : Int) (es.take i) : Nat) : Int) from (e0.at 9)) (congrArg I (by rw [aC8 aE (fun hz => by have b0 := hz.1; have c0 := hz.2; omega)]))) (Ag.cons (e0.at 13) (Ag.cons (e0.at 14) (Ag.cons (e0.at 15) (Ag.cons (e0.at 20) (Ag.cons (e0.at 21) (Ag.cons rfl Ag.nil)))))))))))), X.f3.f3.f3.d3⟩
  refine wp_exit (wp_seq (aA ?_))
  have h0 := N
  obtain ⟨j0, rfl, t⟩ := h0
  have j0 : _ = [I (r.tasks[k]'M).state, I (r.tasks[k]'M).need, I (r.tasks[k]'M).try_, I (r.tasks[k]'M).until_] := j0
  subst j0
  rcases nem ((r.tasks[k]'M).state = 2) with k0 | k0
  ·have l0 := decide_eq_false k0
   rcases nem ((r.tasks[k]'M).state = 3) with t | t
   ·have m0 := decide_eq_false t
    refine rn T 27 S.put [] [(77, .bool false)] [qb 0 rfl 0, qk l0, qb 0 rfl 0, qk m0] aD fun a c => (aB (kI (c.at 77) rfl (wp_skip (aA (sg (bO (c.at 15) rfl dL (sg (aH (v := I ((k : Int) + 1)) rfl (aB ?_)))))))))
    exact ⟨_, r.tasks.length - (k + 1), aE, rfl, k + 1, aE, (iB aE hPr (fun _ => by omega) hT), rfl, (c.put.put.to aD), T.f2.f2.d2⟩
   have m0 := decide_eq_true t
   have n0 := hc
   obtain ⟨a, d, g, n, rfl, p, q, z, rfl⟩ := n0
   refine rc T 27 S.put [] [(77, .bool (!(inB (r.tasks[k]'M).until_ (y.now + 1) (y.now + r.plan.wait))))] [qb 0 rfl 0, qk l0, qb 0 rfl 0, qk m0, qb 0 rfl 3, qb 2 rfl 0, qad y.now 1, qb 2 rfl 0, qb 1 rfl 3, qad y.now r.plan.wait, qc (args := [I (r.tasks[k]'M).until_, I (y.now + 1), I (y.now + r.plan.wait)]) (v := .bool (inB (r.tasks[k]'M).until_ (y.now + 1) (y.now + r.plan.wait))) func47 rfl (fun W s b => cF W (r.tasks[k]'M).until_ (y.now + 1) (y.now + r.plan.wait)), .o] aD fun t a c d g => (aB (bZ (c.at 77) (fun n => ?_) (fun n => ?_)))
   ·have p := cU (aY n)
    refine wp_seq (aA (sg (aG (aB (wr (bA results99 rfl ?_))))))
    have hent : gO r.id (k : Int) es = gO r.id (k : Int) (es.take i) := by rw [show i = es.length by omega, take_length]
    exact ⟨(fB (by unfold gS; rw [fU (fun hz => by have c0 := (hz k aE).2 aE; omega)])), d.bare⟩
   have p := inB_iff'.1 (aX n)
   refine wp_skip (aA (sg (bO (c.at 15) rfl dL (sg (aH (v := I ((k : Int) + 1)) rfl (aB ?_))))))
   exact ⟨_, r.tasks.length - (k + 1), aE, rfl, k + 1, aE, (iB aE hPr (fun _ => by omega) hT), rfl, (c.put.put.to aD), d.f2.f2.d2⟩
  have l0 := decide_eq_true k0
  rcases Decidable.em (((gO r.id (k : Int) (es.take i) : Nat) : Int) = 1) with o0 | o0
  ·have p0 := gM o0
   rcases nem ((r.tasks[k]'M).state = 3) with t | t
   ·have q0 := decide_eq_false t
    refine rn T 27 S.put [] [(77, .bool false)] [qb 0 rfl 0, qk l0, qk p0, qb 0 rfl 0, qk q0] aD fun a c => (aB (kI (c.at 77) rfl (wp_skip (aA (sg (bO (c.at 15) rfl dL (sg (aH (v := I ((k : Int) + 1)) rfl (aB ?_)))))))))
    exact ⟨_, r.tasks.length - (k + 1), aE, rfl, k + 1, aE, (iB aE hPr (fun _ => by omega) hT), rfl, (c.put.put.to aD), T.f2.f2.d2⟩
   have q0 := decide_eq_true t
   have s0 := hc
   obtain ⟨a, d, g, n, rfl, p, q, z, rfl⟩ := s0
   refine rc T 27 S.put [] [(77, .bool (!(inB (r.tasks[k]'M).until_ (y.now + 1) (y.now + r.plan.wait))))] [qb 0 rfl 0, qk l0, qk p0, qb 0 rfl 0, qk q0, qb 0 rfl 3, qb 2 rfl 0, qad y.now 1, qb 2 rfl 0, qb 1 rfl 3, qad y.now r.plan.wait, qc (args := [I (r.tasks[k]'M).until_, I (y.now + 1), I (y.now + r.plan.wait)]) (v := .bool (inB (r.tasks[k]'M).until_ (y.now + 1) (y.now + r.plan.wait))) func47 rfl (fun W s b => cF W (r.tasks[k]'M).until_ (y.now + 1) (y.now + r.plan.wait)), .o] aD fun t a c d g => (aB (bZ (c.at 77) (fun n => ?_) (fun n => ?_)))
   ·have p := cU (aY n)
    refine wp_seq (aA (sg (aG (aB (wr (bA results99 rfl ?_))))))
    have hent : gO r.id (k : Int) es = gO r.id (k : Int) (es.take i) := by rw [show i = es.length by omega, take_length]
    exact ⟨(fB (by unfold gS; rw [fU (fun hz => by have c0 := (hz k aE).2 aE; omega)])), d.bare⟩
   have p := inB_iff'.1 (aX n)
   refine wp_skip (aA (sg (bO (c.at 15) rfl dL (sg (aH (v := I ((k : Int) + 1)) rfl (aB ?_))))))
   exact ⟨_, r.tasks.length - (k + 1), aE, rfl, k + 1, aE, (iB aE hPr (fun _ => by omega) hT), rfl, (c.put.put.to aD), d.f2.f2.d2⟩
  have p0 := gL o0
  refine rn T 27 S.put [] [(77, .bool true)] [qb 0 rfl 0, qk l0, qk p0] aD fun t a => (aB (gY (a.at 77) rfl (wp_seq (aA (sg (aG (aB (wr (bA results99 rfl ?_)))))))))
  have hent : gO r.id (k : Int) es = gO r.id (k : Int) (es.take i) := by rw [show i = es.length by omega, take_length]
  exact ⟨(fB (by unfold gS; rw [fU (fun hz => by have c0 := (hz k aE).2 aE; omega)])), T.bare⟩
 refine wp_exit (wp_seq (aA (sg (aG (aB (wr (bA results99 rfl ?_)))))))
 exact ⟨(fB (by unfold gS; rw [oX (fun j hj => hT j aE)])), L.bare⟩
theorem RunsOkS {y : Yard} (hc : Shape.C w cs y fp) {r : Run} (hd : Shape.C w ds r gp) {v : Value} {es : List Entry} {fq : List Nat} (h : Sl w v es fq) (hn : 0 ≤ y.now ∧ y.now ≤ 999999980) (hwt : 0 ≤ r.plan.wait ∧ r.plan.wait ≤ 20) (hl : es.length ≤ 1048576) :
  Calls prog 92 #[.agg cs.toArray, .agg ds.toArray, v] w (rB_ (gS y.now r es) w) := by
 have hcap : r.tasks.length ≤ 9223372036854775807 := by have t := hd; obtain ⟨a, c, f1, f2, t, hok, d, g, hfp⟩ := t; exact g.len_le
 have hcap2 := h.len_le
 refine iS func92 rfl ntmps92 aZ (wp_seq (aA (sg (aI (cs := cs) rfl (St.start w) ?_)))); intro n p q z
 refine sg (aI (cs := ds) rfl z ?_); intro A a c B
 refine sg (aG (aB (wp_seq (wp_seq (aA (sg (aG (aB (wp_block (bF (fun (m : Nat) (f : Nat → Value) (W : World) => ∃ (k : Nat), k ≤ r.tasks.length ∧ (∀ j, j < k → wL y.now r es j) ∧ m = r.tasks.length - k ∧ Ag [(2, v), (3, pt_ n), (4, pt_ A), (7, I (k : Int))] f ∧ St w W ([Res.bx A ds 123, Res.bx n cs 34])) (r.tasks.length - 0) ?_ ?_))))))))))
 ·exact ⟨0, aE, (fun j hj => absurd hj (Nat.not_lt_zero j)), rfl, (Ag.nil.put.put.put.put.put.put.put.to aD), B⟩
 intro t a c p
 obtain ⟨k, hk, hT, rfl, D, E⟩ := p
 refine wp_seq (wp_seq (aA ?_))
 have F := hd
 obtain ⟨q, z, G, H, rfl, J, K, L, rfl⟩ := F
 refine rn E 5 D [] [(14, .bool (decide ((k : Int) < (r.tasks.length : Int))))] [qb 0 rfl 7, ql L, .o] aD fun t a => (aB (aP (a.at 14) (fun c => ?_) (fun c => ?_)))
 ·refine wp_skip (wp_seq (wp_block (wp_seq (aA (sg (aG (aB (wp_seq (wp_seq (aA (sg (aG (aB ?_)))))))))))))
  refine wp_block (bF (fun (m : Nat) (f : Nat → Value) (W : World) => ∃ (i : Nat), k < r.tasks.length ∧ i ≤ es.length ∧ rN r k (es.take i) ∧ gO r.id (k : Int) (es.take i) ≤ i ∧ m = es.length - i ∧ Ag [(2, v), (3, pt_ n), (4, pt_ A), (7, I (k : Int)), (8, I ((gO r.id (k : Int) (es.take i) : Nat) : Int)), (9, I (i : Int))] f ∧ St w W ([Res.bx A [I r.id, I r.plan.prio, I r.plan.most, I r.plan.wait, I r.plan.tasks, q, I r.state, z] 123, Res.bx n cs 34])) (es.length - 0) ?_ ?_)
  ·exact ⟨0, aE, aE, (fun _ e he => by simp at he), (by simp [gO]), rfl, (Ag.cons (a.at 2) (Ag.cons (a.at 3) (Ag.cons (a.at 4) (Ag.cons (a.at 7) (Ag.cons (Eq.trans (show _ = I 0 from rfl) (congrArg I (by simp [gO]))) (Ag.cons rfl Ag.nil)))))), E⟩
  intro t c n p
  obtain ⟨i, q, hi, hPr, hen, rfl, z, M⟩ := p
  refine wp_seq (wp_seq (aA (rn M 4 z [] [(20, .bool (decide ((i : Int) < (es.length : Int))))] [ql h, .o] aD fun a N => (aB (aP (N.at 20) (fun A => ?_) (fun A => ?_))))))
  ·refine wp_skip (wp_seq (wp_block (wp_seq ?_)))
   have O : i < es.length := aE
   rcases nem ((es[i]'O).run = r.id) with P | P
   ·have R := decide_eq_false P
    have O : i < es.length := aE
    have S := idx h (i := i) O
    obtain ⟨t, a, c, n, T, U, p, q⟩ := S
    have X := p
    obtain ⟨Y, rfl, z⟩ := X
    have Y : _ = [I (es[i]'O).prio, I (es[i]'O).seq, I (es[i]'O).run, I (es[i]'O).task] := Y
    subst Y
    refine rd M N [] [(39, .bool false)] [qx T, qr U 2, qb 0 rfl 0, qk R] aD aD fun t a c n p => (kI (c.at 39) rfl (wp_skip (aA (rn n 3 c [9] [(9, I ((i : Int) + 1))] [qad (i : Int) 1] aD fun q z => (aB ?_)))))
    exact ⟨_, es.length - (i + 1), aE, rfl, i + 1, aE, aE, (iC aE hPr (fun _ d g Z => by omega)), (by exact Nat.le_trans (nA _ _ _) (length_take_le _ _)), rfl, (Ag.cons (z.at 2) (Ag.cons (z.at 3) (Ag.cons (z.at 4) (Ag.cons (z.at 7) (Ag.cons (Eq.trans (show _ = I ((gO r.id (k : Int) (es.take i) : Nat) : Int) from (z.at 8)) (congrArg I (by rw [aC8 aE (fun hz => by have a0 := hz.1; have b0 := hz.2; omega)]))) (Ag.cons (z.at 9) Ag.nil)))))), n⟩
   have R := decide_eq_true P
   have O : i < es.length := aE
   have S := idx h (i := i) O
   obtain ⟨t, a, c, p, c0, e0, q, A⟩ := S
   have f0 := q
   obtain ⟨g0, rfl, B⟩ := f0
   have g0 : _ = [I (es[i]'O).prio, I (es[i]'O).seq, I (es[i]'O).run, I (es[i]'O).task] := g0
   subst g0
   refine rd M N [] [(39, .bool (decide ((es[i]'O).task = (k : Int))))] [qx c0, qr e0 2, qb 0 rfl 0, qk R, qx c0, qr e0 3, .o] aD aD fun t a h0 j0 c => (aP (h0.at 39) (fun n => ?_) (fun n => ?_))
   ·refine wp_seq (aA (rn j0 3 h0 [8] [(8, I (((gO r.id (k : Int) (es.take i) : Nat) : Int) + 1))] [qad ((gO r.id (k : Int) (es.take i) : Nat) : Int) 1] aD fun p k0 => (aB (wp_seq ?_))))
    have l0 : k < r.tasks.length := aE
    rcases nem ((r.tasks[k]'l0).state = 2) with m0 | m0
    ·have n0 := decide_eq_false m0
     have l0 : k < r.tasks.length := aE
     have S := idx L (i := k) l0
     obtain ⟨t, a, c, n, o0, p0, p, q⟩ := S
     have q0 := p
     obtain ⟨s0, rfl, z⟩ := q0
     have s0 : _ = [I (r.tasks[k]'l0).state, I (r.tasks[k]'l0).need, I (r.tasks[k]'l0).try_, I (r.tasks[k]'l0).until_] := s0
     subst s0
     refine rd j0 k0 [] [(59, .bool false)] [qb 0 rfl 7, qx o0, qr p0 0, qk n0] aD aD fun t a c n p => (kI (c.at 59) rfl (wp_skip (aA (rn n 3 c [9] [(9, I ((i : Int) + 1))] [qad (i : Int) 1] aD fun q z => (aB ?_)))))
     exact ⟨_, es.length - (i + 1), aE, rfl, i + 1, aE, aE, (iC aE hPr (fun _ d g Z => by omega)), (by exact Nat.le_trans (nA _ _ _) (length_take_le _ _)), rfl, (Ag.cons (z.at 2) (Ag.cons (z.at 3) (Ag.cons (z.at 4) (Ag.cons (z.at 7) (Ag.cons (Eq.trans (show _ = I (((gO r.id (k : Int) (es.take i) : Nat) : Int) + 1) from (z.at 8)) (congrArg I (by rw [aC7 aE ⟨by assumption, by assumption⟩]; omega))) (Ag.cons (z.at 9) Ag.nil)))))), n⟩
    have n0 := decide_eq_true m0
    have l0 : k < r.tasks.length := aE
    have S := idx L (i := k) l0
    obtain ⟨t, a, c, p, t0, v0, q, A⟩ := S
    have w0 := q
    obtain ⟨x0, rfl, B⟩ := w0
    have x0 : _ = [I (r.tasks[k]'l0).state, I (r.tasks[k]'l0).need, I (r.tasks[k]'l0).try_, I (r.tasks[k]'l0).until_] := x0
    subst x0
    refine rd j0 k0 [] [(59, .bool (!decide ((es[i]'O).prio = r.plan.prio)))] [qb 0 rfl 7, qx t0, qr v0 0, qk n0, qx c0, qr e0 0, qb 0 rfl 1, .o] aD aD fun t a c n p => (cQ (c.at 59) (fun q => ?_) (fun q => ?_))
    ·refine wp_seq (aA (sg (aG (aB (wr (bA results92 rfl ?_))))))
     exact ⟨(fB (by unfold gS; rw [fU (fun hz => wV (i := i) (k := k) aE aE (by assumption) (by assumption) (by assumption) (by assumption) (hz k aE).1)])), n.bare⟩
    refine wp_skip (aA (rn n 3 c [9] [(9, I ((i : Int) + 1))] [qad (i : Int) 1] aD fun t a => (aB ?_)))
    exact ⟨_, es.length - (i + 1), aE, rfl, i + 1, aE, aE, (iC aE hPr (fun _ d g Z => by omega)), (by exact Nat.le_trans (nA _ _ _) (length_take_le _ _)), rfl, (Ag.cons (a.at 2) (Ag.cons (a.at 3) (Ag.cons (a.at 4) (Ag.cons (a.at 7) (Ag.cons (Eq.trans (show _ = I (((gO r.id (k : Int) (es.take i) : Nat) : Int) + 1) from (a.at 8)) (congrArg I (by rw [aC7 aE ⟨by assumption, by assumption⟩]; omega))) (Ag.cons (a.at 9) Ag.nil)))))), n⟩
   refine wp_skip (aA (rn j0 3 h0 [9] [(9, I ((i : Int) + 1))] [qad (i : Int) 1] aD fun t c => (aB ?_)))
   exact ⟨_, es.length - (i + 1), aE, rfl, i + 1, aE, aE, (iC aE hPr (fun _ d g Z => by omega)), (by exact Nat.le_trans (nA _ _ _) (length_take_le _ _)), rfl, (Ag.cons (c.at 2) (Ag.cons (c.at 3) (Ag.cons (c.at 4) (Ag.cons (c.at 7) (Ag.cons (Eq.trans (show _ = I ((gO r.id (k : Int) (es.take i) : Nat) : Int) from (c.at 8)) (congrArg I (by rw [aC8 aE (fun hz => by have a0 := hz.1; have b0 := hz.2; omega)]))) (Ag.cons (c.at 9) Ag.nil)))))), j0⟩
  refine wp_exit (wp_seq ?_)
  have l0 : k < r.tasks.length := aE
  rcases nem ((r.tasks[k]'l0).state = 2) with y0 | y0
  ·have z0 := decide_eq_false y0
   have l0 : k < r.tasks.length := aE
   rcases nem ((r.tasks[k]'l0).state = 3) with A0 | A0
   ·have B0 := decide_eq_false A0
    have l0 : k < r.tasks.length := aE
    have S := idx L (i := k) l0
    obtain ⟨t, a, c, d, C0, D0, g, n⟩ := S
    have E0 := g
    obtain ⟨F0, rfl, p⟩ := E0
    have F0 : _ = [I (r.tasks[k]'l0).state, I (r.tasks[k]'l0).need, I (r.tasks[k]'l0).try_, I (r.tasks[k]'l0).until_] := F0
    subst F0
    refine rd M N [] [(98, .bool false)] [qb 0 rfl 7, qx C0, qr D0 0, qk z0, qb 0 rfl 7, qx C0, qr D0 0, qk B0] aD aD fun t a c d g => (kI (c.at 98) rfl (wp_skip (aA (rn d 3 c [7] [(7, I ((k : Int) + 1))] [qad (k : Int) 1] aD fun n p => (aB ?_)))))
    exact ⟨_, r.tasks.length - (k + 1), aE, rfl, k + 1, aE, (iB aE hPr (fun _ => by omega) hT), rfl, (p.to aD), d⟩
   have B0 := decide_eq_true A0
   have l0 : k < r.tasks.length := aE
   have S := idx L (i := k) l0
   obtain ⟨t, a, c, g, G0, H0, n, q⟩ := S
   have J0 := n
   obtain ⟨K0, rfl, z⟩ := J0
   have K0 : _ = [I (r.tasks[k]'l0).state, I (r.tasks[k]'l0).need, I (r.tasks[k]'l0).try_, I (r.tasks[k]'l0).until_] := K0
   subst K0
   have L0 := hc
   obtain ⟨t, a, c, d, rfl, g, p, q, rfl⟩ := L0
   refine rd M N [] [(98, .bool (!(inB (r.tasks[k]'l0).until_ (y.now + 1) (y.now + r.plan.wait))))] [qb 0 rfl 7, qx G0, qr H0 0, qk z0, qb 0 rfl 7, qx G0, qr H0 0, qk B0, qb 0 rfl 7, qx G0, qr H0 3, qb 1 rfl 0, qad y.now 1, qb 1 rfl 0, qb 0 rfl 3, qad y.now r.plan.wait, qc (args := [I (r.tasks[k]'l0).until_, I (y.now + 1), I (y.now + r.plan.wait)]) (v := .bool (inB (r.tasks[k]'l0).until_ (y.now + 1) (y.now + r.plan.wait))) func43 rfl (fun W s b => cR W (r.tasks[k]'l0).until_ (y.now + 1) (y.now + r.plan.wait)), .o] aD aD fun t a c d g => (bZ (c.at 98) (fun n => ?_) (fun n => ?_))
   ·have p := cU (aY n)
    refine wp_seq (aA (sg (aG (aB (wr (bA results92 rfl ?_))))))
    have hent : gO r.id (k : Int) es = gO r.id (k : Int) (es.take i) := by rw [show i = es.length by omega, take_length]
    exact ⟨(fB (by unfold gS; rw [fU (fun hz => by have b0 := (hz k aE).2 aE; omega)])), d.bare⟩
   have p := inB_iff'.1 (aX n)
   refine wp_skip (aA (rn d 3 c [7] [(7, I ((k : Int) + 1))] [qad (k : Int) 1] aD fun t a => (aB ?_)))
   exact ⟨_, r.tasks.length - (k + 1), aE, rfl, k + 1, aE, (iB aE hPr (fun _ => by omega) hT), rfl, (a.to aD), d⟩
  have z0 := decide_eq_true y0
  rcases Decidable.em (((gO r.id (k : Int) (es.take i) : Nat) : Int) = 1) with M0 | M0
  ·have N0 := gM M0
   have l0 : k < r.tasks.length := aE
   rcases nem ((r.tasks[k]'l0).state = 3) with O0 | O0
   ·have P0 := decide_eq_false O0
    have l0 : k < r.tasks.length := aE
    have S := idx L (i := k) l0
    obtain ⟨t, a, c, d, Q0, R0, g, n⟩ := S
    have S0 := g
    obtain ⟨T0, rfl, p⟩ := S0
    have T0 : _ = [I (r.tasks[k]'l0).state, I (r.tasks[k]'l0).need, I (r.tasks[k]'l0).try_, I (r.tasks[k]'l0).until_] := T0
    subst T0
    refine rd M N [] [(98, .bool false)] [qb 0 rfl 7, qx Q0, qr R0 0, qk z0, qk N0, qb 0 rfl 7, qx Q0, qr R0 0, qk P0] aD aD fun t a c d g => (kI (c.at 98) rfl (wp_skip (aA (rn d 3 c [7] [(7, I ((k : Int) + 1))] [qad (k : Int) 1] aD fun n p => (aB ?_)))))
    exact ⟨_, r.tasks.length - (k + 1), aE, rfl, k + 1, aE, (iB aE hPr (fun _ => by omega) hT), rfl, (p.to aD), d⟩
   have P0 := decide_eq_true O0
   have l0 : k < r.tasks.length := aE
   have S := idx L (i := k) l0
   obtain ⟨t, a, c, g, U0, V0, n, q⟩ := S
   have W0 := n
   obtain ⟨X0, rfl, z⟩ := W0
   have X0 : _ = [I (r.tasks[k]'l0).state, I (r.tasks[k]'l0).need, I (r.tasks[k]'l0).try_, I (r.tasks[k]'l0).until_] := X0
   subst X0
   have Y0 := hc
   obtain ⟨t, a, c, d, rfl, g, p, q, rfl⟩ := Y0
   refine rd M N [] [(98, .bool (!(inB (r.tasks[k]'l0).until_ (y.now + 1) (y.now + r.plan.wait))))] [qb 0 rfl 7, qx U0, qr V0 0, qk z0, qk N0, qb 0 rfl 7, qx U0, qr V0 0, qk P0, qb 0 rfl 7, qx U0, qr V0 3, qb 1 rfl 0, qad y.now 1, qb 1 rfl 0, qb 0 rfl 3, qad y.now r.plan.wait, qc (args := [I (r.tasks[k]'l0).until_, I (y.now + 1), I (y.now + r.plan.wait)]) (v := .bool (inB (r.tasks[k]'l0).until_ (y.now + 1) (y.now + r.plan.wait))) func43 rfl (fun W s b => cR W (r.tasks[k]'l0).until_ (y.now + 1) (y.now + r.plan.wait)), .o] aD aD fun t a c d g => (bZ (c.at 98) (fun n => ?_) (fun n => ?_))
   ·have p := cU (aY n)
    refine wp_seq (aA (sg (aG (aB (wr (bA results92 rfl ?_))))))
    have hent : gO r.id (k : Int) es = gO r.id (k : Int) (es.take i) := by rw [show i = es.length by omega, take_length]
    exact ⟨(fB (by unfold gS; rw [fU (fun hz => by have b0 := (hz k aE).2 aE; omega)])), d.bare⟩
   have p := inB_iff'.1 (aX n)
   refine wp_skip (aA (rn d 3 c [7] [(7, I ((k : Int) + 1))] [qad (k : Int) 1] aD fun t a => (aB ?_)))
   exact ⟨_, r.tasks.length - (k + 1), aE, rfl, k + 1, aE, (iB aE hPr (fun _ => by omega) hT), rfl, (a.to aD), d⟩
  have N0 := gL M0
  have l0 : k < r.tasks.length := aE
  have S := idx L (i := k) l0
  obtain ⟨t, c, g, n, Z0, a1, p, q⟩ := S
  have b1 := p
  obtain ⟨c1, rfl, z⟩ := b1
  have c1 : _ = [I (r.tasks[k]'l0).state, I (r.tasks[k]'l0).need, I (r.tasks[k]'l0).try_, I (r.tasks[k]'l0).until_] := c1
  subst c1
  refine rd M N [] [(98, .bool true)] [qb 0 rfl 7, qx Z0, qr a1 0, qk z0, qk N0] aD aD fun t a c d g => (gY (c.at 98) rfl (wp_seq (aA (sg (aG (aB (wr (bA results92 rfl ?_))))))))
  have hent : gO r.id (k : Int) es = gO r.id (k : Int) (es.take i) := by rw [show i = es.length by omega, take_length]
  exact ⟨(fB (by unfold gS; rw [fU (fun hz => by have b0 := (hz k aE).2 aE; omega)])), d.bare⟩
 refine wp_exit (wp_seq (aA (sg (aG (aB (wr (bA results92 rfl ?_)))))))
 exact ⟨(fB (by unfold gS; rw [oX (fun j hj => hT j aE)])), E.bare⟩
def Way (es : List Edge) : Int → List Int → Prop
 | _, [] => True
 | a, v :: vs => (⟨a, v⟩ : Edge) ∈ es ∧ Way es v vs
def Rch (es : List Edge) (a b : Int) : Prop := ∃ vs, Way es a (vs ++ [b])
theorem Way.append {es : List Edge} : ∀ {vs ws : List Int} {a : Int}, Way es a (vs ++ ws) ↔ Way es a vs ∧ Way es ((a :: vs).getLast (by simp)) ws
 | [], ws, a => by simp [Way]
 | v :: vs, ws, a => by
  simp only [cons_append, Way]
  rw [Way.append (vs := vs)]
  simp [getLast_cons, and_assoc]
theorem zB (a : Int) (vs : List Int) (b : Int) : (a :: (vs ++ [b])).getLast (cons_ne_nil _ _) = b := by
 rw [getLast_cons (by simp)]; simp
theorem Rch.one {es : List Edge} {a b : Int} (h : (⟨a, b⟩ : Edge) ∈ es) : Rch es a b := ⟨[], h, trivial⟩
theorem Rch.cons {es : List Edge} {a b c : Int} (h : (⟨a, b⟩ : Edge) ∈ es) (k : Rch es b c) : Rch es a c := by
 obtain ⟨vs, hv⟩ := k
 exact ⟨b :: vs, h, hv⟩
theorem Rch.cases {es : List Edge} {a c : Int} (h : Rch es a c) : (⟨a, c⟩ : Edge) ∈ es ∨ ∃ b, (⟨a, b⟩ : Edge) ∈ es ∧ Rch es b c := by
 obtain ⟨vs, hv⟩ := h
 cases vs with
 | nil => exact .inl hv.1
 | cons b vs => exact .inr ⟨b, hv.1, vs, hv.2⟩
theorem Rch.snoc {es : List Edge} {a b c : Int} (h : Rch es a b) (k : (⟨b, c⟩ : Edge) ∈ es) : Rch es a c := by
 obtain ⟨vs, hv⟩ := h
 refine ⟨vs ++ [b], ?_⟩
 rw [Way.append]
 refine ⟨hv, ?_⟩
 rw [zB]
 exact ⟨k, trivial⟩

/-! ### A way that meets no task twice -/
theorem pH : ∀ (n : Nat) (l : List Int), l.Nodup → (∀ x ∈ l, 0 ≤ x ∧ x < n) → l.length ≤ n
 | 0, l, _, h => by
  cases l with
  | nil => simp
  | cons x l => have := h x (by simp); omega
 | n + 1, l, hn, h => by
  have h1 := pH n (l.erase (n : Int)) (hn.erase _) (fun x hx => by
   have hm := mem_of_mem_erase hx
   have hne : x ≠ (n : Int) := fun e => by
    subst e
    exact absurd hx hn.not_mem_erase
   have := h x hm
   omega)
  have h2 : l.length ≤ (l.erase (n : Int)).length + 1 := by
   rw [length_erase]
   split <;> omega
  omega
theorem yX : ∀ {l : List Int}, ¬ l.Nodup → ∃ x l1 l2 l3, l = l1 ++ x :: l2 ++ x :: l3
 | [], h => by simp at h
 | y :: l, h => by
  by_cases hm : y ∈ l
  ·obtain ⟨l2, l3, rfl⟩ := append_of_mem hm
   exact ⟨y, [], l2, l3, rfl⟩
  ·have : ¬ l.Nodup := fun hn => h (nodup_cons.2 ⟨hm, hn⟩)
   obtain ⟨x, l1, l2, l3, rfl⟩ := yX this
   exact ⟨x, y :: l1, l2, l3, rfl⟩
theorem Way.mem {es : List Edge} : ∀ {vs : List Int} {a x : Int}, Way es a vs → x ∈ vs → ∃ e ∈ es, e.to_ = x
 | v :: vs, a, x, h, hx => by
  rcases mem_cons.1 hx with rfl | hx
  ·exact ⟨_, h.1, rfl⟩
  ·exact Way.mem h.2 hx
theorem Rch.short {es : List Edge} {n : Nat} (hr : ∀ e ∈ es, 0 ≤ e.to_ ∧ e.to_ < n) {a b : Int} (h : Rch es a b) : ∃ vs, Way es a (vs ++ [b]) ∧ (vs ++ [b]).length ≤ n := by
 obtain ⟨vs, hv⟩ := h
 induction hk : vs.length using Nat.strongRecOn generalizing vs with
 | _ k ih =>
  subst hk
  by_cases hn : (vs ++ [b]).Nodup
  ·exact ⟨vs, hv, pH n _ hn (fun x hx => by obtain ⟨e, he, rfl⟩ := Way.mem hv hx; exact hr e he)⟩
  obtain ⟨x, s, t, c, hl⟩ := yX hn
  have d := hv
  rw [hl, Way.append] at d
  have hw := d.1
  rw [show s ++ x :: t = s ++ [x] ++ t by simp, Way.append] at hw
  have hnew : Way es a (s ++ [x] ++ c) := by
   rw [Way.append]
   refine ⟨hw.1, ?_⟩
   have g := d.2
   rw [zB]
   have j : (a :: (s ++ x :: t)).getLast (cons_ne_nil _ _) = (a :: (s ++ x :: t)).getLast (cons_ne_nil _ _) := rfl
   exact g.2
  -- the same end
  have hlast : ∃ ws, s ++ [x] ++ c = ws ++ [b] ∧ ws.length < vs.length := by
   have hlen := congrArg List.length hl
   simp only [length_append, length_cons, length_nil] at hlen
   by_cases g : c = []
   ·subst g
    have p : x = b := by
     have := (append_inj' hl rfl).2
     simpa using this.symm
    subst p
    exact ⟨s, by simp, by omega⟩
   obtain ⟨m, y, rfl⟩ : ∃ m y, c = m ++ [y] := ⟨c.dropLast, c.getLast g, (dropLast_concat_getLast g).symm⟩
   have p : y = b := by
    have d : vs ++ [b] = (s ++ x :: t ++ x :: m) ++ [y] := by rw [hl]; simp
    have := (append_inj' d rfl).2
    simpa using this.symm
   subst p
   refine ⟨s ++ [x] ++ m, by simp, ?_⟩
   simp at hlen ⊢
   omega
  obtain ⟨ws, he, hlt⟩ := hlast
  rw [he] at hnew
  exact ih ws.length hlt ws hnew rfl

/-! ### Sets of tasks as numbers, relaxed edge by edge -/
def mM (m : List Nat) (a : Int) (b : Int) : Bool := (m.getD a.toNat 0).testBit b.toNat
def jJ (m : List Nat) (e : Edge) : List Nat := m.set e.from_.toNat (m.getD e.from_.toNat 0 ||| (1 <<< e.to_.toNat ||| m.getD e.to_.toNat 0))
def jH (es : List Edge) (m : List Nat) : List Nat := es.foldl jJ m
def eV (es : List Edge) (m : List Nat) : Nat → List Nat
 | 0 => m
 | k + 1 => jH es (eV es m k)
def EdgesIn (n : Nat) (es : List Edge) : Prop := ∀ e ∈ es, (0 ≤ e.from_ ∧ e.from_ < n) ∧ (0 ≤ e.to_ ∧ e.to_ < n)
theorem nX (m : List Nat) (e : Edge) : (jJ m e).length = m.length := by simp [jJ]
theorem tY : ∀ (es : List Edge) (m : List Nat), (jH es m).length = m.length
 | [], m => rfl
 | e :: es, m => by show (jH es (jJ m e)).length = _; rw [tY es, nX]
theorem kM (es : List Edge) (m : List Nat) : ∀ k, (eV es m k).length = m.length
 | 0 => rfl
 | k + 1 => by rw [eV, tY, kM es m k]
theorem oP {m : List Nat} {e : Edge} {a b : Int} (ha : 0 ≤ a ∧ a < m.length) (hb : 0 ≤ b) (he : 0 ≤ e.from_ ∧ 0 ≤ e.to_) : mM (jJ m e) a b = (mM m a b || (decide (a = e.from_) && (decide (b = e.to_) || mM m e.to_ b))) := by
 unfold mM jJ
 by_cases h : a = e.from_
 ·subst h
  have hl : e.from_.toNat < m.length := by omega
  rw [getD_eq_getElem?_getD, getElem?_set_self hl]
  simp only [Option.getD_some, decide_true, Bool.true_and, Nat.testBit_or]
  congr 1
  congr 1
  rw [Nat.one_shiftLeft, Nat.testBit_two_pow]
  by_cases h2 : b = e.to_
  ·subst h2; simp
  have : ¬ e.to_.toNat = b.toNat := by omega
  simp [h2, this]
 have hne : ¬ e.from_.toNat = a.toNat := by omega
 rw [getD_eq_getElem?_getD, getElem?_set_ne hne]
 simp [h, getD_eq_getElem?_getD]
theorem wR {n : Nat} : ∀ {es : List Edge} {m : List Nat} {a b : Int}, EdgesIn n es → m.length = n → (0 ≤ a ∧ a < n) → 0 ≤ b → mM m a b = true → mM (jH es m) a b = true
 | [], m, a, b, _, _, _, _, h => h
 | e :: es, m, a, b, hi, hl, ha, hb, h => by
  refine wR (es := es) (m := jJ m e) (fun x hx => hi x (by simp [hx])) (by rw [nX, hl]) ha hb ?_
  have := hi e (by simp)
  rw [oP aE hb aE, h]; rfl
theorem rM {n : Nat} : ∀ {es : List Edge} {m : List Nat} {e : Edge} {b : Int}, EdgesIn n es → m.length = n → e ∈ es → 0 ≤ b → (b = e.to_ ∨ mM m e.to_ b = true) → mM (jH es m) e.from_ b = true
 | e0 :: es, m, e, b, hi, hl, he, hb, h => by
  have h0 := hi e0 (by simp)
  have hlen : (jJ m e0).length = n := by rw [nX, hl]
  have hi' : EdgesIn n es := fun x hx => hi x (by simp [hx])
  rcases mem_cons.1 he with rfl | he
  ·refine wR (es := es) hi' hlen h0.1 hb ?_
   rw [oP aE hb aE]
   rcases h with h | h
   ·simp [h]
   simp [h]
  refine rM (es := es) (m := jJ m e0) hi' hlen he hb ?_
  rcases h with h | h
  ·exact .inl h
  refine .inr ?_
  have h1 := hi e (by simp [he])
  rw [oP aE hb aE, h]; rfl
theorem uT {n : Nat} {all : List Edge} : ∀ {es : List Edge} {m : List Nat}, EdgesIn n es → m.length = n → (∀ e ∈ es, e ∈ all) → (∀ a b : Int, 0 ≤ a → a < n → 0 ≤ b → mM m a b = true → Rch all a b) → ∀ a b : Int, 0 ≤ a → a < n → 0 ≤ b → mM (jH es m) a b = true → Rch all a b
 | [], m, _, _, _, h => h
 | e :: es, m, hi, hl, hs, h => by
  refine uT (es := es) (m := jJ m e) (fun x hx => hi x (by simp [hx])) (by rw [nX, hl]) (fun x hx => hs x (by simp [hx])) ?_
  intro a b ha ha2 hb hbit
  have h0 := hi e (by simp)
  rw [oP aE hb aE] at hbit
  simp only [Bool.or_eq_true, Bool.and_eq_true, decide_eq_true_eq] at hbit
  rcases hbit with hbit | ⟨rfl, hbit⟩
  ·exact h a b ha ha2 hb hbit
  ·have hem : (⟨e.from_, e.to_⟩ : Edge) ∈ all := hs e (by simp)
   rcases hbit with rfl | hbit
   ·exact .one hem
   ·exact .cons hem (h e.to_ b h0.2.1 h0.2.2 hb hbit)
theorem wT {n : Nat} {es : List Edge} {m : List Nat} (hi : EdgesIn n es) (hl : m.length = n) : ∀ (k : Nat) {a b : Int} {vs : List Int}, Way es a (vs ++ [b]) → (vs ++ [b]).length ≤ k → mM (eV es m k) a b = true
 | 0, a, b, vs, _, h => by simp at h
 | k + 1, a, b, [], hw, h => by
  rw [eV]
  have hb := hi _ hw.1
  exact rM (e := ⟨a, b⟩) hi (by rw [kM, hl]) hw.1 hb.2.1 (.inl rfl)
 | k + 1, a, b, v :: vs, hw, h => by
  rw [eV]
  have h1 := wT hi hl k (vs := vs) hw.2 (by simpa using h)
  have hb : 0 ≤ b := by
   have : b ∈ vs ++ [b] := by simp
   obtain ⟨e, he, rfl⟩ := Way.mem hw.2 this
   exact (hi e he).2.1
  exact rM (e := ⟨a, v⟩) hi (by rw [kM, hl]) hw.1 hb (.inr h1)
theorem waits_iff {n : Nat} {es : List Edge} (hi : EdgesIn n es) {a b : Int} (ha : 0 ≤ a ∧ a < n) (hb : 0 ≤ b) : mM (eV es (List.replicate n 0) n) a b = true ↔ Rch es a b := by
 constructor
 ·have key : ∀ k, ∀ a b : Int, 0 ≤ a → a < n → 0 ≤ b → mM (eV es (List.replicate n 0) k) a b = true → Rch es a b := by
   intro k
   induction k with
   | zero =>
    intro a b _ _ _ h
    simp only [eV, mM, getD_eq_getElem?_getD, getElem?_replicate] at h
    split at h <;> simp at h
   | succ k ih => exact uT hi (by rw [kM]; simp) (fun e he => he) ih
  exact key n a b ha.1 ha.2 hb
 intro h
 obtain ⟨vs, hv, hlen⟩ := h.short (n := n) (fun e he => (hi e he).2)
 exact wT hi (by simp) n hv hlen
structure BInv (es : List Edge) (n : Nat) (t : Int) (q : List Int) (out : List Bool) (h i : Nat) : Prop where
 head : q[0]? = some t
 len : out.length = n
 mark : ∀ x : Int, 0 ≤ x → x < n → (out.getD x.toNat false = true ↔ x ∈ q.tail)
 nodup : q.tail.Nodup
 sound : ∀ x ∈ q.tail, Rch es t x
 range : ∀ x ∈ q.tail, 0 ≤ x ∧ x < n
 done : ∀ (k : Nat) (x : Int), k < h → q[k]? = some x → ∀ e ∈ es, e.from_ = x → e.to_ ∈ q.tail
 part : ∀ x : Int, q[h]? = some x → ∀ e ∈ es.take i, e.from_ = x → e.to_ ∈ q.tail
section
variable {es : List Edge} {n : Nat} {t : Int} {q : List Int} {out : List Bool} {h i : Nat}
theorem BInv.start : BInv es n t [t] (List.replicate n false) 0 0 :=
 ⟨rfl, by simp, fun x _ _ => by
  simp only [getD_eq_getElem?_getD, getElem?_replicate, tail_cons, not_mem_nil, iff_false]
  split <;> simp, by simp, by simp, by simp, fun k x hk => absurd hk (Nat.not_lt_zero k), by simp⟩
theorem BInv.len_le (b : BInv es n t q out h i) : q.length ≤ n + 1 := by
 have := pH n q.tail b.nodup b.range
 rw [length_tail] at this
 omega
theorem mem_of_tail {q : List Int} {x : Int} (h : x ∈ q.tail) : x ∈ q := mem_of_mem_tail h
theorem BInv.at (b : BInv es n t q out h i) {k : Nat} {x : Int} (hk : q[k]? = some x) : x = t ∨ x ∈ q.tail := by
 cases k with
 | zero => rw [b.head] at hk; exact .inl (Option.some.inj hk).symm
 | succ k => exact .inr (mem_of_getElem? (by rw [getElem?_tail]; exact hk))
theorem BInv.skip (b : BInv es n t q out h i) (hin : EdgesIn n es) {e : Edge} (hi : es[i]? = some e) {x : Int} (hx : q[h]? = some x) (hne : ¬ (e.from_ = x ∧ out.getD e.to_.toNat false = false)) : BInv es n t q out h (i + 1) := by
 refine ⟨b.head, b.len, b.mark, b.nodup, b.sound, b.range, b.done, ?_⟩
 intro y hy e' he' hf
 rw [hx] at hy
 obtain rfl := Option.some.inj hy
 obtain ⟨hil, rfl⟩ := gsi_.1 hi
 rw [take_succ_eq_append_getElem hil] at he'
 rcases mem_append.1 he' with s | s
 ·exact b.part x hx e' s hf
 simp at s
 subst s
 have hr := hin es[i] (getElem_mem hil)
 refine (b.mark es[i].to_ hr.2.1 hr.2.2).1 ?_
 cases ho : out.getD es[i].to_.toNat false with
 | true => rfl
 | false => exact absurd ⟨hf, ho⟩ hne
theorem BInv.add (b : BInv es n t q out h i) (hin : EdgesIn n es) {e : Edge} (hi : es[i]? = some e) {x : Int} (hx : q[h]? = some x) (hf : e.from_ = x) (ho : out.getD e.to_.toNat false = false) : BInv es n t (q ++ [e.to_]) (out.set e.to_.toNat true) h (i + 1) := by
 obtain ⟨hil, rfl⟩ := gsi_.1 hi
 have hem : es[i] ∈ es := getElem_mem hil
 have hr := hin es[i] hem
 have s : q ≠ [] := fun e => by have := b.head; rw [e] at this; simp at this
 have htail : (q ++ [es[i].to_]).tail = q.tail ++ [es[i].to_] := by
  cases q with
  | nil => exact absurd rfl s
  | cons a q => rfl
 have hnot : es[i].to_ ∉ q.tail := fun hm => by rw [(b.mark _ hr.2.1 hr.2.2).2 hm] at ho; cases ho
 have hsound : Rch es t es[i].to_ := by
  have hxe : (⟨x, es[i].to_⟩ : Edge) ∈ es := by rw [← hf]; exact hem
  rcases b.at hx with d | d
  ·rw [← d]; exact .one hxe
  exact (b.sound x d).snoc hxe
 refine ⟨?_, by rw [length_set]; exact b.len, ?_, ?_, ?_, ?_, ?_, ?_⟩
 ·rw [getElem?_append_left (length_pos_iff.2 s)]; exact b.head
 ·intro y g d
  rw [htail, mem_append, mem_singleton]
  by_cases hy : y = es[i].to_
  ·subst hy
   rw [getD_eq_getElem?_getD, getElem?_set_self (by rw [b.len]; omega)]
   simp
  have hne : ¬ es[i].to_.toNat = y.toNat := by omega
  rw [getD_eq_getElem?_getD, getElem?_set_ne hne, ← getD_eq_getElem?_getD, b.mark y g d]
  simp [hy]
 ·rw [htail, nodup_append]
  exact ⟨b.nodup, by simp, fun a ha c hc e => by simp at hc; subst hc e; exact hnot ha⟩
 ·intro y hy
  rw [htail] at hy
  rcases mem_append.1 hy with hy | hy
  ·exact b.sound y hy
  simp at hy; subst hy; exact hsound
 ·intro y hy
  rw [htail] at hy
  rcases mem_append.1 hy with hy | hy
  ·exact b.range y hy
  simp at hy; subst hy; exact hr.2
 ·intro k y hk hy e' he' hf'
  have hkq : k < q.length := by
   have := (gsi_.1 hx).1; omega
  rw [getElem?_append_left hkq] at hy
  rw [htail]
  exact mem_append_left _ (b.done k y hk hy e' he' hf')
 intro y hy e' he' hf'
 have hhq := (gsi_.1 hx).1
 rw [getElem?_append_left hhq, hx] at hy
 obtain rfl := Option.some.inj hy
 rw [htail]
 rw [take_succ_eq_append_getElem hil] at he'
 rcases mem_append.1 he' with d | d
 ·exact mem_append_left _ (b.part x hx e' d hf')
 simp at d; subst d; simp
theorem BInv.next (b : BInv es n t q out h i) (hi : i = es.length) : BInv es n t q out (h + 1) 0 := by
 subst hi
 refine ⟨b.head, b.len, b.mark, b.nodup, b.sound, b.range, ?_, by simp⟩
 intro k x hk hx e he hf
 by_cases hkh : k = h
 ·subst hkh
  exact b.part x hx e (by rw [take_length]; exact he) hf
 exact b.done k x aE hx e he hf
theorem BInv.fin (b : BInv es n t q out h i) (hh : h = q.length) {x : Int} (h0 : 0 ≤ x) (h1 : x < n) : out.getD x.toNat false = true ↔ Rch es t x := by
 rw [b.mark x h0 h1]
 constructor
 ·exact b.sound x
 rintro ⟨vs, hv⟩
 have key : ∀ (vs : List Int) (a : Int), Way es a (vs ++ [x]) → a ∈ q → x ∈ q.tail := by
  intro vs
  induction vs with
  | nil =>
   intro a hw ha
   obtain ⟨k, hk⟩ := mem_iff_getElem?.1 ha
   exact b.done k a (by have := (gsi_.1 hk).1; omega) hk ⟨a, x⟩ hw.1 rfl
  | cons v vs ih =>
   intro a hw ha
   obtain ⟨k, hk⟩ := mem_iff_getElem?.1 ha
   have := b.done k a (by have := (gsi_.1 hk).1; omega) hk ⟨a, v⟩ hw.1 rfl
   exact ih v hw.2 (mem_of_tail this)
 exact key vs t hv (mem_of_getElem? b.head)
end
noncomputable def oG (es : List Edge) (n : Nat) (t : Int) : List Bool := (List.range n).map (fun x : Nat => pB (Rch es t (x : Int)))
theorem BInv.all {es : List Edge} {n : Nat} {t : Int} {q : List Int} {out : List Bool} {h i : Nat} (b : BInv es n t q out h i) (hh : h = q.length) : out = oG es n t := by
 apply ext_getElem?
 intro j
 unfold oG
 by_cases hj : j < n
 ·have hl : j < out.length := by rw [b.len]; exact hj
  have hf := b.fin hh (x := (j : Int)) aE aE
  rw [Int.toNat_natCast, getD_eq_getElem?_getD, getElem?_eq_getElem hl] at hf
  simp only [Option.getD_some] at hf
  rw [getElem?_eq_getElem hl, getElem?_map, getElem?_range hj]
  simp only [Option.map_some]
  congr 1
  rw [Bool.eq_iff_iff, hf, pB_iff]
 rw [getElem?_eq_none (by rw [b.len]; omega), getElem?_eq_none (by simp; omega)]
end Go.Proofs.YtchnllpegfbleaaGreat
namespace Go.Proofs.YtchnllpegfbleaaGreat
set_option linter.unusedSimpArgs false
set_option linter.unusedVariables false
set_option maxHeartbeats 2000000
open Go.RowKit Go.Proofs.Tryz List Go.Lib
section
variable {P : Program} {n : Nat} {f : Nat → Value} {W : World} {Q : Exit → Act → World → Prop} {K : Value → World → Prop} {d : Option Tmp} {ty : TypeId} {pos : String} {af : Array Go.Edge} {g : Option (Nat × Bool)} {x y : Operand} {t t' : TypeId}
theorem jY (a : Nat) (h : a < 2 ^ 32) : (BitVec.ofInt 64 (a : Int)).toNat = a := by
 simp [BitVec.toNat_ofInt]
 omega
theorem stp_or {a b : Nat} (hx : ev n f x = I (a : Int)) (hy : ev n f y = I (b : Int)) (ha : a < 2 ^ 32) (hb : b < 2 ^ 32) (k : K (I ((a ||| b : Nat) : Int)) W) : Stp P n ⟨d, .binOp .or t x y t', ty, pos, af, g⟩ f W Q K :=
 Stp.run (v := I ((a ||| b : Nat) : Int)) (by
  have h := Nat.or_lt_two_pow ha hb
  have hw : IntKind.i64.wrap ((BitVec.ofInt 64 (a : Int) ||| BitVec.ofInt 64 (b : Int)).toNat : Int) = ((a ||| b : Nat) : Int) := by
   rw [BitVec.toNat_or, jY a ha, jY b hb]
   exact kW ⟨by omega, by omega⟩
  simp [execOp, hx, hy, go_sem]
  exact hw) k
theorem stp_and {a b : Nat} (hx : ev n f x = I (a : Int)) (hy : ev n f y = I (b : Int)) (ha : a < 2 ^ 32) (hb : b < 2 ^ 32) (k : K (I ((a &&& b : Nat) : Int)) W) : Stp P n ⟨d, .binOp .and t x y t', ty, pos, af, g⟩ f W Q K :=
 Stp.run (v := I ((a &&& b : Nat) : Int)) (by
  have h : a &&& b < 2 ^ 32 := Nat.and_lt_two_pow _ hb
  have hw : IntKind.i64.wrap ((BitVec.ofInt 64 (a : Int) &&& BitVec.ofInt 64 (b : Int)).toNat : Int) = ((a &&& b : Nat) : Int) := by
   rw [BitVec.toNat_and, jY a ha, jY b hb]
   exact kW ⟨by omega, by omega⟩
  simp [execOp, hx, hy, go_sem]
  exact hw) k
end
end Go.Proofs.YtchnllpegfbleaaGreat
namespace Go.Proofs.YtchnllpegfbleaaGreat
set_option linter.unusedSimpArgs false
set_option linter.unusedVariables false
set_option maxHeartbeats 2000000
open Go.RowKit Go.Proofs.Tryz List Go.Lib
section
variable {P : Program} {n : Nat} {f : Nat → Value} {W : World} {Q : Exit → Act → World → Prop} {K : Value → World → Prop} {d : Option Tmp} {ty : TypeId} {pos : String} {af : Array Go.Edge} {g : Option (Nat × Bool)} {x y : Operand} {t t' : TypeId}
theorem pow_fin : ∀ s : Fin 60, IntKind.i64.wrap (1 * 2 ^ min s.val 64) = ((1 <<< s.val : Nat) : Int) := by decide +kernel
theorem stp_shl1 {s : Nat} (hx : ev n f x = I 1) (hy : ev n f y = I (s : Int)) (hs : s < 60) (k : K (I ((1 <<< s : Nat) : Int)) W) : Stp P n ⟨d, .binOp .shl t x y t', ty, pos, af, g⟩ f W Q K :=
 Stp.run (v := I ((1 <<< s : Nat) : Int)) (by
  have h := pow_fin ⟨s, hs⟩
  have hn : ¬ ((s : Int) < 0) := by omega
  simp only [execOp, hx, hy, Sem.run_bind, binOp, Op.shift, hn, if_false, Int.toNat_natCast, Sem.run_pure, Result.andThen_ok]
  simp only [show IntKind.i64.bits = 64 from rfl, h]
  rfl) k
theorem stp_shr {a s : Nat} (hx : ev n f x = I (a : Int)) (hy : ev n f y = I (s : Int)) (hs : s < 60) (k : K (I ((a >>> s : Nat) : Int)) W) : Stp P n ⟨d, .binOp .shr t x y t', ty, pos, af, g⟩ f W Q K :=
 Stp.run (v := I ((a >>> s : Nat) : Int)) (by
  have hn : ¬ ((s : Int) < 0) := by omega
  have hm : min s 64 = s := by omega
  have h : Int.fdiv (a : Int) (2 ^ s) = ((a >>> s : Nat) : Int) := by
   rw [Nat.shiftRight_eq_div_pow, Int.fdiv_eq_ediv_of_nonneg _ (by exact Int.le_of_lt (Int.pow_pos aE))]
   push_cast; rfl
  simp only [execOp, hx, hy, Sem.run_bind, binOp, Op.shift, hn, if_false, Int.toNat_natCast, Sem.run_pure, Result.andThen_ok]
  simp only [show IntKind.i64.bits = 64 from rfl, hm, h]
  rfl) k
end
end Go.Proofs.YtchnllpegfbleaaGreat
namespace Go.Proofs.YtchnllpegfbleaaGreat
set_option linter.unusedSimpArgs false
set_option linter.unusedVariables false
set_option maxHeartbeats 2000000
open Go.RowKit Go.Proofs.Tryz List Go.Lib
def orI (a b : Int) : Int := ((a.toNat ||| b.toNat : Nat) : Int)
def andI (a b : Int) : Int := ((a.toNat &&& b.toNat : Nat) : Int)
def aB4 (s : Int) : Int := ((1 <<< s.toNat : Nat) : Int)
def aJ2 (a s : Int) : Int := ((a.toNat >>> s.toNat : Nat) : Int)
section
variable {P : Program} {n : Nat} {f : Nat → Value} {W : World} {Q : Exit → Act → World → Prop} {K : Value → World → Prop} {d : Option Tmp} {ty : TypeId} {pos : String} {af : Array Go.Edge} {g : Option (Nat × Bool)} {x y : Operand} {t t' : TypeId}
theorem tB {x : Operand} {a : Int} (h : ev n f x = I a) (h0 : 0 ≤ a) : ev n f x = I ((a.toNat : Nat) : Int) := by rw [Int.toNat_of_nonneg h0]; exact h
theorem aK8 {a b : Int} (hx : ev n f x = I a) (hy : ev n f y = I b) (ha : 0 ≤ a ∧ a < 4294967296) (hb : 0 ≤ b ∧ b < 4294967296) (k : K (I (orI a b)) W) : Stp P n ⟨d, .binOp .or t x y t', ty, pos, af, g⟩ f W Q K :=
 stp_or (tB hx ha.1) (tB hy hb.1) aE aE k
theorem stp_andI {a b : Int} (hx : ev n f x = I a) (hy : ev n f y = I b) (ha : 0 ≤ a ∧ a < 4294967296) (hb : 0 ≤ b ∧ b < 4294967296) (k : K (I (andI a b)) W) : Stp P n ⟨d, .binOp .and t x y t', ty, pos, af, g⟩ f W Q K :=
 stp_and (tB hx ha.1) (tB hy hb.1) aE aE k
theorem stp_shlI {s : Int} (hx : ev n f x = I 1) (hy : ev n f y = I s) (hs : 0 ≤ s ∧ s < 60) (k : K (I (aB4 s)) W) : Stp P n ⟨d, .binOp .shl t x y t', ty, pos, af, g⟩ f W Q K :=
 stp_shl1 hx (tB hy hs.1) aE k
theorem stp_shrI {a s : Int} (hx : ev n f x = I a) (hy : ev n f y = I s) (ha : 0 ≤ a) (hs : 0 ≤ s ∧ s < 60) (k : K (I (aJ2 a s)) W) : Stp P n ⟨d, .binOp .shr t x y t', ty, pos, af, g⟩ f W Q K :=
 stp_shr (tB hx ha) (tB hy hs.1) aE k
end
theorem aB7 {a b : Int} (ha : 0 ≤ a ∧ a < 4294967296) (hb : 0 ≤ b ∧ b < 4294967296) : 0 ≤ orI a b ∧ orI a b < 4294967296 := by
 have h := Nat.or_lt_two_pow (n := 32) (x := a.toNat) (y := b.toNat) aE aE
 unfold orI
 generalize a.toNat ||| b.toNat = m at h ⊢
 omega
theorem wH {s : Int} (hs : 0 ≤ s ∧ s < 32) : 0 ≤ aB4 s ∧ aB4 s < 4294967296 := by
 have h : 1 <<< s.toNat < 2 ^ 32 := by
  rw [Nat.one_shiftLeft]
  exact Nat.pow_lt_pow_right aE aE
 unfold aB4
 generalize 1 <<< s.toNat = m at h ⊢
 omega
theorem shrI_rng {a s : Int} (ha : 0 ≤ a ∧ a < 4294967296) : 0 ≤ aJ2 a s ∧ aJ2 a s < 4294967296 := by
 have h := Nat.shiftRight_le a.toNat s.toNat
 unfold aJ2
 generalize a.toNat >>> s.toNat = m at h ⊢
 omega
theorem andI_one (a s : Int) : andI (aJ2 a s) 1 = if a.toNat.testBit s.toNat then 1 else 0 := by
 unfold andI aJ2
 simp only [Int.toNat_natCast, Int.toNat_one]
 rw [Nat.testBit, Nat.and_comm 1, ]
 have h := Nat.and_one_is_mod (a.toNat >>> s.toNat)
 rw [h]
 have : a.toNat >>> s.toNat % 2 = 0 ∨ a.toNat >>> s.toNat % 2 = 1 := by omega
 rcases this with h | h <;> simp [h]
/-! ### Lists of such numbers -/
def fG (ms : List Nat) : List Int := ms.map (fun m : Nat => (m : Int))
theorem zW (ms : List Nat) : (fG ms).length = ms.length := by simp [fG]
theorem kQ {ms : List Nat} (hB : ∀ m ∈ ms, m < 4294967296) (i : Nat) (h : i < (fG ms).length) : 0 ≤ (fG ms)[i] ∧ (fG ms)[i] < 4294967296 := by
 simp only [fG, getElem_map]
 have := hB (ms[i]'(by simpa [fG] using h)) (getElem_mem _)
 omega
theorem yA {ms : List Nat} {i : Nat} (h : i < (fG ms).length) : (fG ms)[i].toNat = ms.getD i 0 := by
 have h' : i < ms.length := by simpa [fG] using h
 simp [fG, List.getD, h']
theorem castL_set (ms : List Nat) (i : Nat) (m : Nat) : (fG ms).set i (m : Int) = fG (ms.set i m) := by
 simp [fG, map_set]
theorem castL_rep (n : Nat) : List.replicate n (0 : Int) = fG (List.replicate n 0) := by simp [fG]
end Go.Proofs.YtchnllpegfbleaaGreat
namespace Go.Proofs.YtchnllpegfbleaaGreat
set_option linter.unusedSimpArgs false
set_option linter.unusedVariables false
set_option maxRecDepth 100000
set_option maxHeartbeats 2000000
open Go.RowKit Go.Proofs.Tryz List
def dE (p : Plan) : Prop := ¬ (1 ≤ p.tasks ∧ p.tasks ≤ 12) ∨ 30 < p.edges.length ∨ ¬ (0 ≤ p.prio ∧ p.prio ≤ 9) ∨ ¬ (1 ≤ p.most ∧ p.most ≤ 5) ∨ ¬ (1 ≤ p.wait ∧ p.wait ≤ 20)
def lP (p : Plan) : Prop := ∃ t : Nat, t < p.tasks.toNat ∧ Rch p.edges (t : Int) (t : Int)
open Classical in
noncomputable def bM (p : Plan) : Int :=
 if dE p then 1 else if ¬ EdgesIn p.tasks.toNat p.edges then 2 else if ¬ p.edges.Nodup then 3 else if lP p then 4 else 0
theorem pf1 {p : Plan} (h : dE p) : bM p = 1 := by unfold bM; rw [if_pos h]
theorem pf2 {p : Plan} (h : ¬ dE p) (h2 : ¬ EdgesIn p.tasks.toNat p.edges) : bM p = 2 := by unfold bM; rw [if_neg h, if_pos h2]
theorem pf3 {p : Plan} (h : ¬ dE p) (h2 : EdgesIn p.tasks.toNat p.edges) (h3 : ¬ p.edges.Nodup) : bM p = 3 := by unfold bM; rw [if_neg h, if_neg (not_not_intro h2), if_pos h3]
theorem pf4 {p : Plan} (h : ¬ dE p) (h2 : EdgesIn p.tasks.toNat p.edges) (h3 : p.edges.Nodup) (h4 : lP p) : bM p = 4 := by unfold bM; rw [if_neg h, if_neg (not_not_intro h2), if_neg (not_not_intro h3), if_pos h4]
theorem pf0 {p : Plan} (h : ¬ dE p) (h2 : EdgesIn p.tasks.toNat p.edges) (h3 : p.edges.Nodup) (h4 : ¬ lP p) : bM p = 0 := by unfold bM; rw [if_neg h, if_neg (not_not_intro h2), if_neg (not_not_intro h3), if_neg h4]
theorem pf_cases (p : Plan) : bM p = 0 ∨ bM p = 1 ∨ bM p = 2 ∨ bM p = 3 ∨ bM p = 4 := by
 unfold bM
 split
 ·simp
 split
 ·simp
 split
 ·simp
 split <;> simp
theorem pf_rng (p : Plan) : 0 ≤ bM p ∧ bM p ≤ 4 := by
 rcases pf_cases p with h | h | h | h | h <;> omega
theorem lI {p : Plan} (h : bM p = 0) : ¬ dE p ∧ EdgesIn p.tasks.toNat p.edges ∧ p.edges.Nodup ∧ ¬ lP p := by
 by_cases h1 : dE p
 ·rw [pf1 h1] at h; omega
 by_cases h2 : EdgesIn p.tasks.toNat p.edges
 ·by_cases h3 : p.edges.Nodup
  ·by_cases h4 : lP p
   ·rw [pf4 h1 h2 h3 h4] at h; omega
   exact ⟨h1, h2, h3, h4⟩
  rw [pf3 h1 h2 h3] at h; omega
 rw [pf2 h1 h2] at h; omega
theorem EdgesIn.nil {n : Nat} : EdgesIn n [] := fun e h => by cases h
theorem EdgesIn.step {n : Nat} {es : List Edge} {k : Nat} (h : EdgesIn n (es.take k)) (hk : k < es.length) (h1 : (0 ≤ es[k].from_ ∧ es[k].from_ < n) ∧ (0 ≤ es[k].to_ ∧ es[k].to_ < n)) : EdgesIn n (es.take (k + 1)) := by
 intro e he
 rw [take_succ_eq_append_getElem hk] at he
 rcases mem_append.1 he with he | he
 ·exact h e he
 simp at he; subst he; exact h1
theorem EdgesIn.at {n : Nat} {es : List Edge} (h : EdgesIn n es) {k : Nat} (hk : k < es.length) : (0 ≤ es[k].from_ ∧ es[k].from_ < n) ∧ (0 ≤ es[k].to_ ∧ es[k].to_ < n) := h _ (getElem_mem hk)
theorem xA {α : Type} {xs : List α} {k : Nat} (h : (xs.take k).Nodup) (hk : k < xs.length) (hn : xs[k] ∉ xs.take k) : (xs.take (k + 1)).Nodup := by
 rw [take_succ_eq_append_getElem hk, nodup_append]
 exact ⟨h, by simp, fun a ha b hb => by simp at hb; subst hb; exact fun e => hn (e ▸ ha)⟩
theorem sR {α : Type} {xs : List α} {k : Nat} (hk : k < xs.length) (hm : xs[k] ∈ xs.take k) : ¬ xs.Nodup := by
 intro h
 have s : (xs.take (k + 1)).Nodup := h.sublist (take_sublist _ _)
 rw [take_succ_eq_append_getElem hk, nodup_append] at s
 exact s.2.2 _ hm _ (by simp) rfl
theorem not_mem_take_step {α : Type} {xs : List α} {y : α} {k : Nat} (hk : k < xs.length) (h : y ∉ xs.take k) (hn : ¬ y = xs[k]) : y ∉ xs.take (k + 1) := by
 rw [take_succ_eq_append_getElem hk, mem_append]
 rintro (s | s)
 ·exact h s
 simp at s; exact hn s
theorem uW {α : Type} {xs : List α} {i k : Nat} (hi : i < xs.length) (h : i < k) : xs[i] ∈ xs.take k := by
 rw [mem_take_iff_getElem]
 exact ⟨i, by omega, rfl⟩
/-! ### The sets, as numbers -/
theorem relax_snoc (es : List Edge) (m : List Nat) (k : Nat) (hk : k < es.length) : jH (es.take (k + 1)) m = jJ (jH (es.take k) m) es[k] := by
 unfold jH
 rw [take_succ_eq_append_getElem hk, foldl_append]; rfl
theorem relax1_bd {m : List Nat} {e : Edge} (h : ∀ x ∈ m, x < 4294967296) (he : 0 ≤ e.to_ ∧ e.to_ < 32) : ∀ x ∈ jJ m e, x < 4294967296 := by
 intro x hx
 unfold jJ at hx
 rcases mem_or_eq_of_mem_set hx with hx | rfl
 ·exact h x hx
 have hd : ∀ i, m.getD i 0 < 2 ^ 32 := by
  intro i
  rw [getD_eq_getElem?_getD]
  cases hi : m[i]? with
  | none => simp
  | some y => simpa using h y (mem_of_getElem? hi)
 have s : 1 <<< e.to_.toNat < 2 ^ 32 := by
  rw [Nat.one_shiftLeft]
  exact Nat.pow_lt_pow_right aE aE
 exact Nat.or_lt_two_pow (hd _) (Nat.or_lt_two_pow s (hd _))
theorem wS {n : Nat} (hn : n ≤ 32) : ∀ {es : List Edge} {m : List Nat}, EdgesIn n es → (∀ x ∈ m, x < 4294967296) → ∀ x ∈ jH es m, x < 4294967296
 | [], m, _, h => h
 | e :: es, m, hi, h => by
  refine wS hn (es := es) (m := jJ m e) (fun x hx => hi x (by simp [hx])) (relax1_bd h ?_)
  have := hi e (by simp)
  omega
theorem yW {n : Nat} (hn : n ≤ 32) {es : List Edge} (hi : EdgesIn n es) (k : Nat) : ∀ x ∈ eV es (List.replicate n 0) k, x < 4294967296 := by
 induction k with
 | zero => intro x hx; simp [eV, mem_replicate] at hx; omega
 | succ k ih => exact wS hn hi ih
theorem castL_relax1 {m : List Nat} {e : Edge} (hf : 0 ≤ e.from_) (h1 : e.from_.toNat < (fG m).length) (h2 : e.to_.toNat < (fG m).length) :
  (fG m).set e.from_.toNat (orI ((fG m)[e.from_.toNat]'h1) (orI (aB4 e.to_) ((fG m)[e.to_.toNat]'h2))) = fG (jJ m e) := by
 unfold jJ
 rw [← castL_set]
 congr 1
 unfold orI aB4
 rw [yA h1]
 simp only [Int.toNat_natCast]
 rw [yA h2]
theorem yM {n : Nat} {es : List Edge} (hi : EdgesIn n es) {t : Nat} (ht : t < n) (h : t < (fG (eV es (List.replicate n 0) n)).length) : andI (aJ2 ((fG (eV es (List.replicate n 0) n))[t]'h) (t : Int)) 1 = 1 ↔ Rch es (t : Int) (t : Int) := by
 rw [andI_one, yA h]
 have hw := waits_iff hi (a := (t : Int)) (b := (t : Int)) aE aE
 unfold mM at hw
 rw [← hw, Int.toNat_natCast]
 split <;> simp_all
def dK (l : List Int) : List Int := l.mergeSort (fun x y => decide (x ≤ y))
theorem mE (l : List Int) : (dK l).Perm l := mergeSort_perm l _
theorem sortI_le (l : List Int) : (dK l).Pairwise (fun x y => x ≤ y) := by
 have h := pairwise_mergeSort (le := fun x y : Int => decide (x ≤ y)) (fun a b c s t => by simp only [decide_eq_true_eq] at *; omega) (fun a b => by simp only [Bool.or_eq_true, decide_eq_true_eq]; omega) l
 exact h.imp (fun h => by simpa using h)
theorem qF (l : List Int) : (dK l).length = l.length := (mE l).length_eq
theorem sortI_eq {l l' : List Int} (hp : l.Perm l') (hs : l.Pairwise (fun x y => x ≤ y)) : l = dK l' :=
 List.Perm.eq_of_pairwise (le := fun x y => x ≤ y) (fun a b _ _ h1 h2 => by omega) hs (sortI_le l') (hp.trans (mE l').symm)
def fX (l : List Int) (n : Nat) : List Int := (List.range n).flatMap (fun t : Nat => l.filter (fun x => decide (x = (t : Int))))
theorem filter_or {α : Type} (p q r : α → Bool) (l : List α) (h : ∀ x, r x = (p x || q x)) (hd : ∀ x, p x = true → q x = true → False) : (l.filter p ++ l.filter q).Perm (l.filter r) := by
 induction l with
 | nil => simp
 | cons x l ih =>
  cases hp : p x with
  | true =>
   have hq : q x = false := by cases hq : q x with | true => exact (hd x hp hq).elim | false => rfl
   have hr : r x = true := by rw [h, hp]; rfl
   simp only [filter_cons, hp, hq, hr, if_true, Bool.false_eq_true, if_false, cons_append]
   exact List.Perm.cons _ ih
  | false =>
   cases hq : q x with
   | true =>
    have hr : r x = true := by rw [h, hp, hq]; rfl
    simp only [filter_cons, hp, hq, hr, if_true, Bool.false_eq_true, if_false]
    exact (perm_middle).trans (List.Perm.cons _ ih)
   | false =>
    have hr : r x = false := by rw [h, hp, hq]; rfl
    simp only [filter_cons, hp, hq, hr, Bool.false_eq_true, if_false]
    exact ih
theorem pS (l : List Int) : ∀ n : Nat, (fX l n).Perm (l.filter (fun x => decide (0 ≤ x) && decide (x < (n : Int))))
 | 0 => by
  have : l.filter (fun x => decide (0 ≤ x) && decide (x < ((0 : Nat) : Int))) = [] := by
   rw [filter_eq_nil_iff]
   intro x _; simp
  rw [this]
  exact List.Perm.refl _
 | n + 1 => by
  have ih := pS l n
  have hb : fX l (n + 1) = fX l n ++ l.filter (fun x => decide (x = (n : Int))) := by simp [fX, range_succ, flatMap_append]
  rw [hb]
  refine (ih.append_right _).trans (filter_or _ _ _ l (fun x => ?_) (fun x s t => ?_))
  ·rw [Bool.eq_iff_iff]; simp; omega
  simp at s t; omega
theorem zY (l : List Int) : ∀ n : Nat, (fX l n).Pairwise (fun x y => x ≤ y) ∧ ∀ x ∈ fX l n, x < (n : Int)
 | 0 => by simp [fX]
 | n + 1 => by
  have ih := zY l n
  have hb : fX l (n + 1) = fX l n ++ l.filter (fun x => decide (x = (n : Int))) := by simp [fX, range_succ, flatMap_append]
  rw [hb]
  have hf : ∀ x ∈ l.filter (fun x => decide (x = (n : Int))), x = (n : Int) := fun x hx => by simpa using (mem_filter.1 hx).2
  refine ⟨?_, ?_⟩
  ·rw [pairwise_append]
   refine ⟨ih.1, ?_, ?_⟩
   ·rw [pairwise_iff_forall_sublist]
    intro a b hs
    have h1 := hf a (hs.subset (by simp))
    have h2 := hf b (hs.subset (by simp))
    omega
   intro a ha b hb
   have h1 := ih.2 a ha
   have h2 := hf b hb
   omega
  intro x hx
  rcases mem_append.1 hx with h | h
  ·have := ih.2 x h; omega
  have := hf x h; omega
theorem zZ {l : List Int} {n : Nat} (h : ∀ x ∈ l, 0 ≤ x ∧ x < (n : Int)) : fX l n = dK l := by
 refine sortI_eq ?_ (zY l n).1
 have hp := pS l n
 rwa [filter_eq_self.2 (fun x hx => by have := h x hx; simp; omega)] at hp
def dO (es : List Edge) (task : Int) : List Int := (es.filter (fun e => decide (e.to_ = task))).map (·.from_)
def tos (es : List Edge) (task : Int) : List Int := (es.filter (fun e => decide (e.from_ = task))).map (·.to_)
noncomputable def bK (p : Plan) (task : Int) : List Int := if bM p = 0 then dK (dO p.edges task) else []
noncomputable def dH (p : Plan) (task : Int) : List Int := if bM p = 0 then dK (tos p.edges task) else []
theorem uA (es : List Edge) (task : Int) : (dO es task).length ≤ es.length := by
 unfold dO; rw [length_map]; exact length_filter_le _ _
theorem aA9 (es : List Edge) (task : Int) : (tos es task).length ≤ es.length := by
 unfold tos; rw [length_map]; exact length_filter_le _ _
theorem oF {es : List Edge} {task : Int} {k : Nat} (hk : k < es.length) (h : es[k].to_ = task) : dO (es.take (k + 1)) task = dO (es.take k) task ++ [es[k].from_] := by
 rw [take_succ_eq_append_getElem hk, dO, filter_append, map_append]; simp [dO, h]
theorem sX {es : List Edge} {task : Int} {k : Nat} (hk : k < es.length) (h : ¬ es[k].to_ = task) : dO (es.take (k + 1)) task = dO (es.take k) task := by
 rw [take_succ_eq_append_getElem hk, dO, filter_append, map_append]; simp [dO, h]
theorem rH {es : List Edge} {task : Int} {k : Nat} (hk : k < es.length) (h : es[k].from_ = task) : tos (es.take (k + 1)) task = tos (es.take k) task ++ [es[k].to_] := by
 rw [take_succ_eq_append_getElem hk, tos, filter_append, map_append]; simp [tos, h]
theorem vS {es : List Edge} {task : Int} {k : Nat} (hk : k < es.length) (h : ¬ es[k].from_ = task) : tos (es.take (k + 1)) task = tos (es.take k) task := by
 rw [take_succ_eq_append_getElem hk, tos, filter_append, map_append]; simp [tos, h]
theorem zG {n : Nat} {es : List Edge} (hi : EdgesIn n es) (task : Int) : ∀ x ∈ dO es task, 0 ≤ x ∧ x < (n : Int) := by
 intro x hx
 simp only [dO, mem_map, mem_filter] at hx
 obtain ⟨e, ⟨he, _⟩, rfl⟩ := hx
 exact (hi e he).1
theorem aK4 {n : Nat} {es : List Edge} (hi : EdgesIn n es) (task : Int) : ∀ x ∈ tos es task, 0 ≤ x ∧ x < (n : Int) := by
 intro x hx
 simp only [tos, mem_map, mem_filter] at hx
 obtain ⟨e, ⟨he, _⟩, rfl⟩ := hx
 exact (hi e he).2
def nO (es : List Edge) (task : Int) (t : Int) : List Int := (dO es task).filter (fun x => decide (x = t))
def nN (es : List Edge) (task : Int) (t : Int) : List Int := (tos es task).filter (fun x => decide (x = t))
theorem nC (l : List Int) (n : Nat) : fX l (n + 1) = fX l n ++ l.filter (fun x => decide (x = (n : Int))) := by simp [fX, range_succ, flatMap_append]
theorem rF (l : List Int) (n : Nat) : (fX l n).length ≤ l.length := by
 rw [(pS l n).length_eq]; exact length_filter_le _ _
theorem onesF_step_t {es : List Edge} {task t : Int} {k : Nat} (hk : k < es.length) (h : es[k].from_ = t ∧ es[k].to_ = task) : nO (es.take (k + 1)) task t = nO (es.take k) task t ++ [t] := by
 unfold nO; rw [oF hk h.2]; simp [filter_append, h.1]
theorem sQ {es : List Edge} {task t : Int} {k : Nat} (hk : k < es.length) (h : ¬ (es[k].from_ = t ∧ es[k].to_ = task)) : nO (es.take (k + 1)) task t = nO (es.take k) task t := by
 unfold nO
 by_cases h2 : es[k].to_ = task
 ·rw [oF hk h2]
  have : ¬ es[k].from_ = t := fun e => h ⟨e, h2⟩
  simp [filter_append, this]
 rw [sX hk h2]
theorem onesT_step_t {es : List Edge} {task t : Int} {k : Nat} (hk : k < es.length) (h : es[k].from_ = task ∧ es[k].to_ = t) : nN (es.take (k + 1)) task t = nN (es.take k) task t ++ [t] := by
 unfold nN; rw [rH hk h.1]; simp [filter_append, h.2]
theorem sP {es : List Edge} {task t : Int} {k : Nat} (hk : k < es.length) (h : ¬ (es[k].from_ = task ∧ es[k].to_ = t)) : nN (es.take (k + 1)) task t = nN (es.take k) task t := by
 unfold nN
 by_cases h2 : es[k].from_ = task
 ·rw [rH hk h2]
  have : ¬ es[k].to_ = t := fun e => h ⟨h2, e⟩
  simp [filter_append, this]
 rw [vS hk h2]
theorem onesF_len (es : List Edge) (task t : Int) (k n : Nat) : (fX (dO es task) n ++ nO (es.take k) task (n : Int)).length ≤ es.length := by
 have s := rF (dO es task) (n + 1)
 rw [nC, length_append] at s
 have a : (nO (es.take k) task (n : Int)).length ≤ (nO es task (n : Int)).length := by
  unfold nO dO
  exact List.Sublist.length_le (List.Sublist.filter _ (List.Sublist.map _ (List.Sublist.filter _ (take_sublist k es))))
 have b := uA es task
 rw [length_append]
 unfold nO at a ⊢
 omega
theorem onesT_len (es : List Edge) (task t : Int) (k n : Nat) : (fX (tos es task) n ++ nN (es.take k) task (n : Int)).length ≤ es.length := by
 have s := rF (tos es task) (n + 1)
 rw [nC, length_append] at s
 have a : (nN (es.take k) task (n : Int)).length ≤ (nN es task (n : Int)).length := by
  unfold nN tos
  exact List.Sublist.length_le (List.Sublist.filter _ (List.Sublist.map _ (List.Sublist.filter _ (take_sublist k es))))
 have b := aA9 es task
 rw [length_append]
 unfold nN at a ⊢
 omega
theorem yE (p : Plan) (task : Int) : ∀ x ∈ bK p task, 0 ≤ x ∧ x < p.tasks := by
 intro x hx
 unfold bK at hx
 split at hx
 ·rename_i h
  obtain ⟨s, t, _⟩ := lI h
  have := zG t task x ((mE _).mem_iff.1 hx)
  unfold dE at s
  omega
 cases hx
theorem yB (p : Plan) (task : Int) : ∀ x ∈ dH p task, 0 ≤ x ∧ x < p.tasks := by
 intro x hx
 unfold dH at hx
 split at hx
 ·rename_i h
  obtain ⟨s, t, _⟩ := lI h
  have := aK4 t task x ((mE _).mem_iff.1 hx)
  unfold dE at s
  omega
 cases hx
theorem jW (p : Plan) (task : Int) : (bK p task).length ≤ 30 := by
 unfold bK
 split
 ·rename_i h
  obtain ⟨s, _⟩ := lI h
  rw [qF]
  have := uA p.edges task
  unfold dE at s
  omega
 simp
theorem yC (p : Plan) (task : Int) : (dH p task).length ≤ 30 := by
 unfold dH
 split
 ·rename_i h
  obtain ⟨s, _⟩ := lI h
  rw [qF]
  have := aA9 p.edges task
  unfold dE at s
  omega
 simp
theorem PA.same {v : Value} {k i b o b' o' : Nat} (h : PA v k i b o) (h' : PA v k i b' o') : b = b' ∧ o = o' := by
 obtain ⟨off, len, cap, rfl, _, rfl⟩ := h
 obtain ⟨off', len', cap', e, _, rfl⟩ := h'
 injection e with s t a
 injection s with s
 injection s with s c
 subst s c
 exact ⟨rfl, rfl⟩
section
variable {P : Program} {n : Nat} {f : Nat → Value} {W w0 : World} {rs : List Res} {Q : Exit → Act → World → Prop} {K : Value → World → Prop}
 {d : Option Tmp} {ty : TypeId} {pos : String} {af : Array Go.Edge} {g : Option (Nat × Bool)} {α : Type} [Shape α]
theorem qA {t : TypeId} {x y : Operand} {b o i : Nat} {v u : Value} {xs : List α} {z : α} {fp : List Nat} (hs : Shape.size α = 1) (hi : (P.info? t).map (·.size) = some 1) (hx : ev n f x = .pointer (some ⟨b, o, none⟩)) (hPA : PA v (Shape.size α) i b o) (hl : i < xs.length) (hy : ev n f y = u) (h1 : u.cells = #[u]) (h2 : u.oneCell' = true)
  (hst : St w0 W (Res.own v xs fp :: rs)) (hc : ∀ W, Shape.C W [u] z []) (k : ∀ fp' W', St w0 W' (Res.own v (xs.set i z) fp' :: rs) → K undef W') : Stp P n ⟨d, .store t x y, ty, pos, af, g⟩ f W Q K := by
 obtain ⟨b', e, pre, cs, post, fi, fr, hPA', hC, st⟩ := St.lend (α := α) aE hst hl
 obtain ⟨rfl, rfl⟩ := hPA.same hPA'
 have hcl := Shape.len hC
 rw [hs] at hcl
 obtain ⟨c, rfl⟩ : ∃ c, cs = [c] := by
  cases cs with
  | nil => simp at hcl
  | cons c cs => cases cs with
   | nil => exact ⟨c, rfl⟩
   | cons _ _ => simp at hcl
 refine bS (i := 0) hi hx hy h1 h2 st rfl (Nat.le_refl _) rfl ?_
 intro W' st'
 have s := st'.d1
 have a := St.cs0 (cs := [u]) (x := z) s (hc W')
 have j := a.f1
 obtain ⟨fp', p⟩ := St.give (α := α) j
 exact k fp' W' p
theorem made_list (v : Value) (m : Nat) : (madeCells #[v] m).toList = List.replicate m v := by
 apply ext_getElem
 ·rw [Array.length_toList, size_madeCells, length_replicate]
 intro j s t
 rw [getElem_replicate, Array.getElem_toList]
 simp [madeCells, Nat.mod_one]
theorem Elems.rep {W : World} {v : Value} {z : α} (h : Shape.C W [v] z []) : ∀ m, Elems W (List.replicate m v) (List.replicate m z) []
 | 0 => ⟨rfl, rfl⟩
 | m + 1 => ⟨[v], List.replicate m v, [], [], rfl, h, Elems.rep h m, rfl⟩
theorem tS {t e : TypeId} {bytes : Nat} {x y : Operand} {N : Nat} {v : Value} {z : α} (hT : ApOk P t e α bytes) (hzero : ((P.info? e).bind (·.zero)).map (·.cells) = some #[v]) (hx : ev n f x = I (N : Int)) (hy : ev n f y = I (N : Int)) (hN : N ≤ 1048576 * 64) (hb : N * bytes ≤ 140737488355328) (hst : St w0 W rs) (hz : ∀ W, Shape.C W [v] z [])
  (k : ∀ b fp W', Below W.heap.size W W' → St w0 W' (Res.own (.slice (some ⟨b, 0, none⟩) N N) (List.replicate N z) fp :: rs) → K (.slice (some ⟨b, 0, none⟩) N N) W') : Stp P n ⟨d, .makeSlice t x y, ty, pos, af, g⟩ f W Q K := by
 obtain ⟨i, zz, hi, hzz, s, a, c⟩ := hT.info
 have hzc : zz.cells = #[v] := by simpa [hi, hzz] using hzero
 have j : Shape.size α = 1 := by rw [← c, hzc]; rfl
 have hb' : (N : Int) * (bytes : Int) ≤ 140737488355328 := by have := Int.ofNat_le.2 hb; rw [Int.natCast_mul] at this; exact this
 have hmk := run_make (P := P) W t e i zz hT.desc hi hzz .i64 .i64 N N aE aE (by rw [a, Int.mul_comm]; omega) aE
 rw [Int.toNat_natCast, s, j, Nat.mul_one, hzc] at hmk
 refine Stp.run (v := .slice (some ⟨W.heap.size, 0, none⟩) N N) (W' := W.alloc (.cells (madeCells #[v] N) e)) (by simp only [execOp, hx, hy, Sem.run_bind, hmk, Result.andThen_ok]; rfl) ?_
 have h := hst.alloc (madeCells #[v] N).toList e
 rw [Array.toArray_toList] at h
 have hbl : Below W.heap.size W (W.alloc (.cells (madeCells #[v] N) e)) := jC (Below.refl _ _)
 have h' : St w0 (W.alloc (.cells (madeCells #[v] N) e)) (Res.bx W.heap.size (List.replicate N v) e :: rs) := by
  rw [made_list] at h; exact h
 have hr := St.row_lit (α := α) (m := N) (ys := List.replicate N z) h' (by simp) (by unfold maxLen; omega) (Elems.rep (hz _) N)
 obtain ⟨fp, s⟩ := hr.shut
 exact k _ fp _ hbl s
end
section
variable {P : Program} {W : World}
end
theorem St.own_nil {α : Type} [Shape α] {w0 W : World} {rs : List Res} (h : St w0 W rs) : St w0 W (Res.own (.slice none 0 0) ([] : List α) [] :: rs) :=
 h.trade (rs1 := []) (rs2 := [Res.own (.slice none 0 0) ([] : List α) []]) (show ([] : List Nat).Nodup from nodup_nil) (fun b hb => absurd (show b ∈ ([] : List Nat) from hb) (by simp)) (by intro r hr; simp at hr; subst hr; exact ⟨nil_Sl.v, by simp⟩)
section
variable {α : Type} [Shape α]
theorem aE1 {w : World} {v : Value} {xs : List α} {fp : List Nat} {h : Nat} (hs : Sl w v xs fp) (hh : h ≤ xs.length) : ∃ u g, Sl w u (xs.take h) g ∧ (∀ c ∈ g, c ∈ fp) ∧
  ∀ {P : Program} {n : Nat} {f : Nat → Value} {W : World} {Q : Exit → Act → World → Prop} {K : Value → World → Prop} {d : Option Tmp} {ty : TypeId} {pos : String} {af : Array Go.Edge} {gd : Option (Nat × Bool)} {t t' : TypeId} {x y : Operand} {e : Int}, SlOk P t t' α → ev n f x = v → ev n f y = I e → e = h → K u W → Stp P n ⟨d, .slice t x none (some y) none, ty, pos, af, gd⟩ f W Q K := by
 obtain ⟨ao, cap, fp', rfl, hcap, hs', hf⟩ := hs.part 0 h (Nat.zero_le _) hh
 refine ⟨sliced ao 0 h cap (Shape.size α), fp', by simpa using hs', hf, ?_⟩
 intro P n f W Q K d ty pos af gd t t' x y e hT hx hy he k
 subst he
 have hel : P.elem t = t' := by simp [Program.elem, hT.desc]
 have hu : P.underlying t = some (.slice (P.elem t)) := by rw [hel]; exact hT.desc
 refine Stp.run (v := sliced ao 0 h cap (Shape.size α)) ?_ k
 simp only [execOp, hx, hy, Sem.run_bind, Option.map_none, Option.map_some]
 rw [run_sliceAt_slice (h := hu), run_slice_h (ht := hu) (h0 := by omega) (h2 := by omega), hel, jK hT.size]
 simp
theorem yU {w : World} {v : Value} {xs : List α} {fp : List Nat} {l : Nat} (hs : Sl w v xs fp) (hh : l ≤ xs.length) : ∃ u g, Sl w u (xs.drop l) g ∧ (∀ c ∈ g, c ∈ fp) ∧
  ∀ {P : Program} {n : Nat} {f : Nat → Value} {W : World} {Q : Exit → Act → World → Prop} {K : Value → World → Prop} {d : Option Tmp} {ty : TypeId} {pos : String} {af : Array Go.Edge} {gd : Option (Nat × Bool)} {t t' : TypeId} {x y : Operand} {e : Int}, SlOk P t t' α → ev n f x = v → ev n f y = I e → e = l → K u W → Stp P n ⟨d, .slice t x (some y) none none, ty, pos, af, gd⟩ f W Q K := by
 obtain ⟨ao, cap, fp', rfl, hcap, hs', hf⟩ := hs.part l xs.length hh (Nat.le_refl _)
 refine ⟨sliced ao l xs.length cap (Shape.size α), fp', by simpa using hs', hf, ?_⟩
 intro P n f W Q K d ty pos af gd t t' x y e hT hx hy he k
 subst he
 have hel : P.elem t = t' := by simp [Program.elem, hT.desc]
 have hu : P.underlying t = some (.slice (P.elem t)) := by rw [hel]; exact hT.desc
 refine Stp.run (v := sliced ao l xs.length cap (Shape.size α)) ?_ k
 simp only [execOp, hx, hy, Sem.run_bind, Option.map_none, Option.map_some]
 rw [run_sliceAt_slice (h := hu), run_slice_l (ht := hu) (h0 := by omega) (h1 := by omega), hel, jK hT.size]
 simp
end
section
variable {P : Program} {n : Nat} {f : Nat → Value} {W : World} {α : Type} [Shape α] [Agg α]
theorem aB6 {fn : Func} {s u u2 : Tmp} {t : TypeId} {R : Ending → World → Prop} {b : Nat} {C : List Value} {t' : TypeId} {v v2 : Value} (hT : TyOk P t α) (ha : Agg.agg α = true) (hr : fn.results = #[.cell s t, .tmp u, .tmp u2]) (hv : ev n f (.tmp s) = pt_ b) (hB : (Res.bx b C t').holds W) (hl : C.length = Shape.size α) (hu : ev n f (.tmp u) = v) (hu2 : ev n f (.tmp u2) = v2) (h : R (.returned (.tuple #[.agg C.toArray, v, v2])) W) : bodyPost P fn R .ret (act n f) W := by
 refine ⟨rfl, .tuple #[.agg C.toArray, v, v2], ?_, h⟩
 have a := hT.load (bQ hB) hl
 simp only [val, ha, cond_true, Instr.loadAt, Instr.sureAddr, Sem.run_bind, Sem.run_pure, Result.andThen_ok] at a
 have e : (act n f).tmps.getD s undef = pt_ b := by rw [jR]; exact hv
 have c : (act n f).tmps.getD u undef = v := by rw [jR]; exact hu
 have d : (act n f).tmps.getD u2 undef = v2 := by rw [jR]; exact hu2
 rw [Array.getD_eq_getD_getElem?] at e c d
 simp [results, hr, e, c, d, asAddr, a]
end
end Go.Proofs.YtchnllpegfbleaaGreat
