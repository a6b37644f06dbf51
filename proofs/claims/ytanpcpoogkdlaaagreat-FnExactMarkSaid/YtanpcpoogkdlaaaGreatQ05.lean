/-
  Slots, and the entries of a run: of the program and of the reference.
  What is wrong with a plan. Theory alone.
  The tasks before and behind a task, in order. Theory alone.
  What is wrong with a plan: of the program and of the reference.
  What a sort leaves of an owned slice of numbers.
  slices.Sort over a slice of numbers of one's own.
  The tasks before and behind a task: of the program and of the reference.
  When a run is right. Theory alone.
  When a run is right: of the program and of the reference.
  When a yard is right: of the program and of the reference.
  Both readers of yards are one, and both readers of marks. Plain theory.
  A yard's numbers, as they are put one behind the other. Plain theory; older contracts told anew.
-/
import Derived.Shelf.Sort.Plain
import Derived.Shelf.Slices.In.SortNone
import Derived.Test.YtanpcpoogkdlaaaGreatQ01
import Derived.Test.YtanpcpoogkdlaaaGreatQ02
import Derived.Test.YtanpcpoogkdlaaaGreatQ03
import Derived.Test.YtanpcpoogkdlaaaGreatQ04
namespace Go.Proofs.YtanpcpoogkdlaaaGreat
set_option linter.unusedSimpArgs false
set_option linter.unusedVariables false
set_option maxRecDepth 100000
set_option maxHeartbeats 2000000
open Go.RowKit Go.Proofs.Tryz List
variable (w : World) {cs ds : List Value} {fp gp : List Nat}
def cM (r : Run) : Nat := if r.state = 1 then r.tasks.length else 0
def cR (y : Yard) (es : List Entry) : Nat := (es.filter (fun e => !fresh y e)).length
def jB (y : Yard) : Int := ((((y.runs).map cM).sum : Nat) : Int) + ((cR y y.shelf.flatten : Nat) : Int)
theorem slotsR_le (r : Run) : cM r ≤ r.wt := by unfold cM Run.wt; split <;> omega
theorem xF (y : Yard) (k : Nat) : ((y.runs.take k).map cM).sum ≤ y.wt := by
 have h1 := aL4 (f := cM) (g := fun r : Run => r.wt) slotsR_le (y.runs.take k)
 have h2 := fH (fun r : Run => r.wt) y.runs k
 unfold Yard.wt wtL
 omega
theorem zR {y : Yard} {es : List Entry} {k : Nat} (hk : k < es.length) (h : (!fresh y es[k]) = true) : cR y (es.take (k + 1)) = cR y (es.take k) + 1 := by
 unfold cR; rw [take_succ_eq_append_getElem hk, filter_append, length_append]; simp [h]
theorem zS {y : Yard} {es : List Entry} {k : Nat} (hk : k < es.length) (h : (!fresh y es[k]) = false) : cR y (es.take (k + 1)) = cR y (es.take k) := by
 unfold cR; rw [take_succ_eq_append_getElem hk, filter_append, length_append]; simp [h]
theorem rU (y : Yard) (es : List Entry) : cR y es ≤ es.length := length_filter_le _ _
theorem slotsE_app (y : Yard) (a b : List Entry) : cR y (a ++ b) = cR y a + cR y b := by unfold cR; rw [filter_append, length_append]
theorem zP {r : Run} (h : r.state = 1) : cM r = r.tasks.length := by unfold cM; rw [if_pos h]
theorem zQ {r : Run} (h : ¬ r.state = 1) : cM r = 0 := by unfold cM; rw [if_neg h]
def vX (id : Int) (task : Int) (e : Entry) : Bool := decide (e.run = id) && decide (e.task = task)
def eZ (id task : Int) (es : List Entry) : Nat := (es.filter (vX id task)).length
def pF (r : Run) (k : Nat) (es : List Entry) : Prop := ∀ h : k < r.tasks.length, ∀ e ∈ es, vX r.id (k : Int) e = true → r.tasks[k].state = 2 → e.prio = r.plan.prio
def uQ (now : Int) (r : Run) (es : List Entry) (k : Nat) : Prop := pF r k es ∧ ∀ h : k < r.tasks.length, (r.tasks[k].state = 2 → eZ r.id (k : Int) es = 1) ∧ (r.tasks[k].state = 3 → now + 1 ≤ r.tasks[k].until_ ∧ r.tasks[k].until_ ≤ now + r.plan.wait)
noncomputable def eW (now : Int) (r : Run) (es : List Entry) : Bool := pB (∀ k, k < r.tasks.length → uQ now r es k)
theorem aE5 {id task : Int} {es : List Entry} {k : Nat} (hk : k < es.length) (h : es[k].run = id ∧ es[k].task = task) : eZ id task (es.take (k + 1)) = eZ id task (es.take k) + 1 := by
 unfold eZ; rw [take_succ_eq_append_getElem hk, filter_append, length_append]; simp [vX, h]
theorem aE6 {id task : Int} {es : List Entry} {k : Nat} (hk : k < es.length) (h : ¬ (es[k].run = id ∧ es[k].task = task)) : eZ id task (es.take (k + 1)) = eZ id task (es.take k) := by
 have : vX id task es[k] = false := by
  unfold vX
  by_cases h1 : es[k].run = id
  ·have h2 : ¬ es[k].task = task := fun e => h ⟨h1, e⟩
   simp [h1, h2]
  simp [h1]
 unfold eZ; rw [take_succ_eq_append_getElem hk, filter_append, length_append]; simp [this]
theorem oF (id task : Int) (es : List Entry) : eZ id task es ≤ es.length := length_filter_le _ _
theorem gF {r : Run} {k : Nat} {es : List Entry} {i : Nat} (hi : i < es.length) (h : pF r k (es.take i)) (h1 : ∀ hk : k < r.tasks.length, es[i].run = r.id → es[i].task = (k : Int) → r.tasks[k].state = 2 → es[i].prio = r.plan.prio) : pF r k (es.take (i + 1)) := by
 intro hk e he hent hst
 rw [take_succ_eq_append_getElem hi] at he
 rcases mem_append.1 he with he | he
 ·exact h hk e he hent hst
 rw [mem_singleton] at he; subst he
 simp only [vX, Bool.and_eq_true, decide_eq_true_eq] at hent
 exact h1 hk hent.1 hent.2 hst
theorem iQ {now : Int} {r : Run} {es : List Entry} {k i : Nat} (hi : i = es.length) (hPr : pF r k (es.take i)) (h2 : ∀ h : k < r.tasks.length, (r.tasks[k].state = 2 → eZ r.id (k : Int) (es.take i) = 1) ∧ (r.tasks[k].state = 3 → now + 1 ≤ r.tasks[k].until_ ∧ r.tasks[k].until_ ≤ now + r.plan.wait)) (hT : ∀ j, j < k → uQ now r es j) : ∀ j, j < k + 1 → uQ now r es j := by
 subst hi
 rw [take_length] at hPr h2
 intro j hj
 rcases Nat.lt_succ_iff_lt_or_eq.1 hj with h1 | rfl
 ·exact hT j h1
 exact ⟨hPr, h2⟩
theorem uX {r : Run} {k : Nat} {es : List Entry} {i : Nat} (hi : i < es.length) (hk : k < r.tasks.length) (h1 : es[i].run = r.id) (h2 : es[i].task = (k : Int)) (h3 : r.tasks[k].state = 2) (h4 : ¬ es[i].prio = r.plan.prio) : ¬ pF r k es := fun h => h4 (h hk _ (getElem_mem hi) (by simp [vX, h1, h2]) h3)

theorem SlotsOfI {y : Yard} (hc : Shape.C w cs y fp) (hw : y.wt ≤ 1048576) :
  Calls prog 234 #[.agg cs.toArray] w (rI_ (jB y) w) := by
 have hyr : y.runs.length ≤ y.wt := by unfold Yard.wt wtL; omega
 have hys : y.shelf.length ≤ y.wt := by unfold Yard.wt wtL; omega
 have hfw := qY y
 refine cC func234 rfl ntmps234 aU (wp_seq (aA (sg (aH (cs := cs) rfl (St.start w) ?_)))); intro b1 W2 hb3 st4
 refine sg (aE (aB (wp_seq (aA (sg (aE (aB (wp_seq (wp_seq (aA ?_))))))))))
 have hk11 := hc
 obtain ⟨v11_0, v11_1, g11_0, g11_1, rfl, hok11, h11_0, h11_1, rfl⟩ := hk11
 refine rn st4 4 Ag.nil.put.put.put.put [] [(9, v11_1), (10, I (y.runs.length : Int)), (11, I 0)] [qb 0 rfl 3, ql h11_1] aD fun f12 h12_ => (aB (wp_block (aQ (fun (m : Nat) (f : Nat → Value) (W : World) => ∃ (k : Nat), k ≤ y.runs.length ∧ m = y.runs.length - k ∧ Ag [(1, pt_ b1), (3, I ((((y.runs.take k).map cM).sum : Nat) : Int)), (9, v11_1), (10, I (y.runs.length : Int)), (11, I (k : Int))] f ∧ St w W ([Res.bx b1 [I y.now, I y.seq, v11_0, v11_1] 27])) (y.runs.length - 0) ?_ ?_)))
 ·exact ⟨0, aC, rfl, (h12_.to aD), st4⟩
 intro m13 f14 W15 hJ16
 obtain ⟨k, hk, rfl, hA18, st17⟩ := hJ16
 have hsl := xF y k
 refine wp_seq (aA (sg (bA (hA18.at 11) (hA18.at 10) (aB (wp_seq (aK rfl (fun h21p => ?_) (fun h21p => ?_)))))))
 ·refine wp_skip (wp_seq (wp_block (wp_seq (aA ?_))))
  have hi24e2d : k < y.runs.length := aC
  obtain ⟨b22, o22, cs22, f22, hp22, hr22, hc22, hm22⟩ := idx h11_1 (i := k) hi24e2d
  refine sg (aY pX (hA18.at 9) hp22 (hA18.at 11) rfl (sg (dX fU rfl rfl hr22 st17.below (Shape.len hc22) (sg (aT oW st17 ?_))))); intro b25 W26 hb27 st28
  refine sgn (bR (cs := cs22) fU hc22 rfl rfl st28 rfl ?_); intro W30 st31
  refine aB (wp_seq (aA ?_))
  have hk33 := hc22
  obtain ⟨v33_0, v33_1, g33_0, g33_1, rfl, hok33, h33_0, h33_1, rfl⟩ := hk33
  refine rn st31 3 hA18.put.put.put.put [] [(17, .bool (decide ((y.runs[k]'hi24e2d).state = 1)))] [qb 0 rfl 6, .o] aD fun f34 h34_ => (aB (aK (h34_.at 17) (fun h35p => ?_) (fun h35p => ?_)))
  ·refine aA (rn st31 4 h34_ [] [(18, I ((((y.runs.take k).map cM).sum : Nat) : Int)), (21, I ((y.runs[k]'hi24e2d).tasks.length : Int))] [qb 0 rfl 7, ql h33_1] aD fun f37 h37_ => ?_)
   have hyk := mR (y := y) (k := k) aC
   have hrw : (y.runs[k]'(by omega)).tasks.length ≤ (y.runs[k]'(by omega)).wt := by unfold Run.wt; omega
   refine sg (bW (h37_.at 18) (h37_.at 21) eI (sg (aF (v := I (((((y.runs.take k).map cM).sum : Nat) : Int) + ((y.runs[k]'hi24e2d).tasks.length : Int))) rfl (aB (aA (sg (bW (h37_.at 11) rfl eI (sg (aG (v := I ((k : Int) + 1)) rfl (aB ?_))))))))))
   exact ⟨_, y.runs.length - (k + 1), aC, rfl, k + 1, aC, rfl, (Ag.cons (h37_.at 1) (Ag.cons (Eq.trans (show _ = I (((((y.runs.take k).map cM).sum : Nat) : Int) + ((y.runs[k]'hi24e2d).tasks.length : Int)) from rfl) (congrArg I (by rw [pR cM y.runs k aC, zP h35p]; try omega))) (Ag.cons (h37_.at 9) (Ag.cons (h37_.at 10) (Ag.cons rfl Ag.nil))))), st31.f1.d1⟩
  refine wp_skip (aA (sg (bW (h34_.at 11) rfl eI (sg (aG (v := I ((k : Int) + 1)) rfl (aB ?_))))))
  exact ⟨_, y.runs.length - (k + 1), aC, rfl, k + 1, aC, rfl, (Ag.cons (h34_.at 1) (Ag.cons (Eq.trans (show _ = I ((((y.runs.take k).map cM).sum : Nat) : Int) from (h34_.at 3)) (congrArg I (by rw [pR cM y.runs k aC, zQ h35p]; try omega))) (Ag.cons (h34_.at 9) (Ag.cons (h34_.at 10) (Ag.cons rfl Ag.nil))))), st31.f1.d1⟩
 refine wp_exit (wp_seq (wp_seq (aA (sg (aV (cs := [I y.now, I y.seq, v11_0, v11_1]) iL rfl (hA18.at 1) (st17.get 0 rfl) rfl rfl (sg (bO func229 rfl rfl ((aC1 W15 (bG hc st17.below) aC).mono ?_)))))))); rintro _ W52 ⟨v50, fp50, rfl, hk53⟩; refine ⟨_, rfl, ?_⟩
 have st54 := St.call st17 hk53
 refine sg (fP jI rfl (aR (st54.get 0 rfl)) (sg (aG (v := I 0) rfl (aB (wp_block (aQ (fun (m : Nat) (f : Nat → Value) (W : World) => ∃ (i : Nat), i ≤ y.shelf.flatten.length ∧ m = y.shelf.flatten.length - i ∧ Ag [(1, pt_ b1), (3, I (((((y.runs.take k).map cM).sum : Nat) : Int) + ((cR y (y.shelf.flatten.take i) : Nat) : Int))), (25, v50), (26, I ((y.shelf).flatten.length : Int)), (27, I (i : Int))] f ∧ St w W ([Res.own (α := List Entry) v50 (y.shelf).flatten fp50, Res.bx b1 [I y.now, I y.seq, v11_0, v11_1] 27])) (y.shelf.flatten.length - 0) ?_ ?_))))))
 ·exact ⟨0, aC, rfl, (Ag.cons (hA18.at 1) (Ag.cons (Eq.trans (show _ = I ((((y.runs.take k).map cM).sum : Nat) : Int) from (hA18.at 3)) (congrArg I (by simp [cR]))) (Ag.cons rfl (Ag.cons rfl (Ag.cons rfl Ag.nil))))), st54⟩
 intro m58 f59 W60 hJ61
 obtain ⟨i, hi, rfl, hA63, st62⟩ := hJ61
 have hse := rU y (y.shelf.flatten.take i)
 have htl := length_take_le i y.shelf.flatten
 refine wp_seq (aA (sg (bA (hA63.at 27) (hA63.at 26) (aB (wp_seq (aK rfl (fun h66p => ?_) (fun h66p => ?_)))))))
 ·refine wp_skip (wp_seq (wp_block (wp_seq (aA ?_))))
  have hi11c32 : i < (y.shelf).flatten.length := aC
  obtain ⟨b67, o67, cs67, f67, hp67, hr67, hc67, hm67⟩ := idx (aR (st62.get 0 rfl)) (i := i) hi11c32
  refine sg (aY jI (hA63.at 25) hp67 (hA63.at 27) rfl (sg (dX iT rfl rfl hr67 (Below.refl _ _) (Shape.len hc67) (sg (aT mQ st62 ?_))))); intro b70 W71 hb72 st73
  refine sgn (bR (cs := cs67) iT hc67 rfl rfl st73 rfl ?_); intro W75 st76
  refine aB (wp_seq (aA (rc st76 4 hA63.put.put.put.put [] [(34, .bool (!(fresh y ((y.shelf).flatten[i]'hi11c32))))] [qb 2 rfl 0, qw 0 rfl (Shape.len hc67), qc (args := [.agg #[I y.now, I y.seq, v11_0, v11_1], .agg cs67.toArray]) (v := .bool (fresh y ((y.shelf).flatten[i]'hi11c32))) func346 rfl (fun W s b => FreshI W (bG hc s.below) hc67 aC), .o] aD fun f78 W79 h78_ st80 hb81 => (aB (cF (h78_.at 34) (fun h82 => ?_) (fun h82 => ?_))))))
  ·refine aA (rn st80 3 h78_ [3] [(3, I ((((((y.runs.take k).map cM).sum : Nat) : Int) + ((cR y (y.shelf.flatten.take i) : Nat) : Int)) + 1))] [qad (((((y.runs.take k).map cM).sum : Nat) : Int) + ((cR y (y.shelf.flatten.take i) : Nat) : Int)) 1] aD fun f84 h84_ => (aB (aA (sg (bW (h84_.at 27) rfl eI (sg (aG (v := I ((i : Int) + 1)) rfl (aB ?_))))))))
   exact ⟨_, y.shelf.flatten.length - (i + 1), aC, rfl, i + 1, aC, rfl, (Ag.cons (h84_.at 1) (Ag.cons (Eq.trans (show _ = I ((((((y.runs.take k).map cM).sum : Nat) : Int) + ((cR y (y.shelf.flatten.take i) : Nat) : Int)) + 1) from (h84_.at 3)) (congrArg I (by rw [zR aC h82]; try omega))) (Ag.cons (h84_.at 25) (Ag.cons (h84_.at 26) (Ag.cons rfl Ag.nil))))), st80.f2.f2.d2⟩
  refine wp_skip (aA (sg (bW (h78_.at 27) rfl eI (sg (aG (v := I ((i : Int) + 1)) rfl (aB ?_))))))
  exact ⟨_, y.shelf.flatten.length - (i + 1), aC, rfl, i + 1, aC, rfl, (Ag.cons (h78_.at 1) (Ag.cons (Eq.trans (show _ = I (((((y.runs.take k).map cM).sum : Nat) : Int) + ((cR y (y.shelf.flatten.take i) : Nat) : Int)) from (h78_.at 3)) (congrArg I (by rw [zS aC h82]; try omega))) (Ag.cons (h78_.at 25) (Ag.cons (h78_.at 26) (Ag.cons rfl Ag.nil))))), st80.f2.f2.d2⟩
 refine wp_exit (wp_seq (aA (sg (aG (hA63.at 3) (sg (aF (v := I (((((y.runs.take k).map cM).sum : Nat) : Int) + ((cR y (y.shelf.flatten.take i) : Nat) : Int))) rfl (aB (wr (aM results234 rfl ?_)))))))))
 obtain rfl : k = y.runs.length := by omega
 obtain rfl : i = y.shelf.flatten.length := by omega
 exact ⟨(fI (by unfold jB; rw [take_length, take_length])), st62.bare⟩
theorem SlotsOfS {y : Yard} (hc : Shape.C w cs y fp) (hw : y.wt ≤ 1048576) :
  Calls prog 294 #[.agg cs.toArray] w (rI_ (jB y) w) := by
 have hyr : y.runs.length ≤ y.wt := by unfold Yard.wt wtL; omega
 have hys : y.shelf.length ≤ y.wt := by unfold Yard.wt wtL; omega
 have hfw := qY y
 refine cC func294 rfl ntmps294 aU (wp_seq (aA (sg (aH (cs := cs) rfl (St.start w) ?_)))); intro b1 W2 hb3 st4
 refine sg (aE (aB (wp_seq (aA (sg (aE (aB (wp_seq (wp_seq (aA (sg (aE (aB (wp_block ?_))))))))))))))
 refine aQ (fun (m : Nat) (f : Nat → Value) (W : World) => ∃ (k : Nat), k ≤ y.runs.length ∧ m = y.runs.length - k ∧ Ag [(1, pt_ b1), (3, I ((((y.runs.take k).map cM).sum : Nat) : Int)), (4, I (k : Int))] f ∧ St w W ([Res.bx b1 cs 27])) (y.runs.length - 0) ?_ ?_
 ·exact ⟨0, aC, rfl, (Ag.nil.put.put.put.put.put.to aD), st4⟩
 intro m12 f13 W14 hJ15
 obtain ⟨k, hk, rfl, hA17, st16⟩ := hJ15
 have hsl := xF y k
 refine wp_seq (wp_seq (aA ?_))
 have hk19 := hc
 obtain ⟨v19_0, v19_1, g19_0, g19_1, rfl, hok19, h19_0, h19_1, rfl⟩ := hk19
 refine rn st16 5 hA17 [] [(11, .bool (decide ((k : Int) < (y.runs.length : Int))))] [qb 0 rfl 3, ql h19_1, .o] aD fun f20 h20_ => (aB (aK (h20_.at 11) (fun h21p => ?_) (fun h21p => ?_)))
 ·refine wp_skip (wp_seq (wp_block (wp_seq (aA ?_))))
  have hi24e2d : k < y.runs.length := aC
  obtain ⟨b23, o23, cs23, f23, hp23, hr23, hc23, hm23⟩ := idx h19_1 (i := k) hi24e2d
  have hk24 := hc23
  obtain ⟨v24_0, v24_1, g24_0, g24_1, rfl, hok24, h24_0, h24_1, rfl⟩ := hk24
  refine rn st16 7 h20_ [] [(20, .bool (decide ((y.runs[k]'hi24e2d).state = 1)))] [qb 0 rfl 3, qx hp23, qr hr23 6, .o] aD fun f25 h25_ => (aB (aK (h25_.at 20) (fun h26p => ?_) (fun h26p => ?_)))
  ·refine aA (rn st16 8 h25_ [] [(21, I ((((y.runs.take k).map cM).sum : Nat) : Int)), (28, I ((y.runs[k]'hi24e2d).tasks.length : Int))] [qb 0 rfl 3, qx hp23, qr hr23 7, ql h24_1] aD fun f28 h28_ => ?_)
   have hyk := mR (y := y) (k := k) aC
   have hrw : (y.runs[k]'(by omega)).tasks.length ≤ (y.runs[k]'(by omega)).wt := by unfold Run.wt; omega
   refine sg (bW (h28_.at 21) (h28_.at 28) eI (sg (aF (v := I (((((y.runs.take k).map cM).sum : Nat) : Int) + ((y.runs[k]'hi24e2d).tasks.length : Int))) rfl (aB (aA (rn st16 3 h28_.put.put [4] [(4, I ((k : Int) + 1))] [qad (k : Int) 1] aD fun f32 h32_ => (aB ?_)))))))
   exact ⟨_, y.runs.length - (k + 1), aC, rfl, k + 1, aC, rfl, (Ag.cons (h32_.at 1) (Ag.cons (Eq.trans (show _ = I (((((y.runs.take k).map cM).sum : Nat) : Int) + ((y.runs[k]'hi24e2d).tasks.length : Int)) from (h32_.at 3)) (congrArg I (by rw [pR cM y.runs k aC, zP h26p]; try omega))) (Ag.cons (h32_.at 4) Ag.nil))), st16⟩
  refine wp_skip (aA (rn st16 3 h25_ [4] [(4, I ((k : Int) + 1))] [qad (k : Int) 1] aD fun f34 h34_ => (aB ?_)))
  exact ⟨_, y.runs.length - (k + 1), aC, rfl, k + 1, aC, rfl, (Ag.cons (h34_.at 1) (Ag.cons (Eq.trans (show _ = I ((((y.runs.take k).map cM).sum : Nat) : Int) from (h34_.at 3)) (congrArg I (by rw [pR cM y.runs k aC, zQ h26p]; try omega))) (Ag.cons (h34_.at 4) Ag.nil))), st16⟩
 refine wp_exit (wp_seq (wp_seq (aA (sg (aE (aB (wp_block (aQ (fun (m : Nat) (f : Nat → Value) (W : World) => ∃ (i : Nat), i ≤ y.shelf.length ∧ m = y.shelf.length - i ∧ Ag [(1, pt_ b1), (3, I (((((y.runs.take k).map cM).sum : Nat) : Int) + ((cR y (y.shelf.take i).flatten : Nat) : Int))), (5, I (i : Int))] f ∧ St w W ([Res.bx b1 [I y.now, I y.seq, v19_0, v19_1] 27])) (y.shelf.length - 0) ?_ ?_))))))))
 ·exact ⟨0, aC, rfl, (Ag.cons (h20_.at 1) (Ag.cons (Eq.trans (show _ = I ((((y.runs.take k).map cM).sum : Nat) : Int) from (h20_.at 3)) (congrArg I (by simp [cR]))) (Ag.cons rfl Ag.nil))), st16⟩
 intro m37 f38 W39 hJ40
 obtain ⟨i, hi, rfl, hA42, st41⟩ := hJ40
 have hse := rU y (y.shelf.take i).flatten
 have hfi := rA y i
 refine wp_seq (wp_seq (aA (rn st41 5 hA42 [] [(34, .bool (decide ((i : Int) < (y.shelf.length : Int))))] [qb 0 rfl 2, ql h19_0, .o] aD fun f44 h44_ => (aB (aK (h44_.at 34) (fun h45p => ?_) (fun h45p => ?_))))))
 ·refine wp_skip (wp_seq (wp_block (wp_seq (aA (sg (aE (aB (wp_block (aQ (fun (m : Nat) (f : Nat → Value) (W : World) => ∃ (j : Nat), i < y.shelf.length ∧ j ≤ (y.shelf[i]'(by omega)).length ∧ m = (y.shelf[i]'(by omega)).length - j ∧ Ag [(1, pt_ b1), (3, I (((((y.runs.take k).map cM).sum : Nat) : Int) + ((cR y (y.shelf.take i).flatten : Nat) : Int) + ((cR y ((y.shelf[i]'(by omega)).take j) : Nat) : Int))), (5, I (i : Int)), (6, I (j : Int))] f ∧ St w W ([Res.bx b1 [I y.now, I y.seq, v19_0, v19_1] 27])) ((y.shelf[i]'(by omega)).length - 0) ?_ ?_)))))))))
  ·exact ⟨0, aC, aC, rfl, (Ag.cons (h44_.at 1) (Ag.cons (Eq.trans (show _ = I (((((y.runs.take k).map cM).sum : Nat) : Int) + ((cR y (y.shelf.take i).flatten : Nat) : Int)) from (h44_.at 3)) (congrArg I (by simp [cR]))) (Ag.cons (h44_.at 5) (Ag.cons rfl Ag.nil)))), st41⟩
  intro m48 f49 W50 hJ51
  obtain ⟨j, hi2, hj, rfl, hA53, st52⟩ := hJ51
  have hse2 := rU y ((y.shelf[i]'(by omega)).take j)
  have htl := length_take_le j (y.shelf[i]'(by omega))
  have hfi2 := rA y (i + 1)
  rw [oE aC, length_append] at hfi2
  refine wp_seq (wp_seq (aA ?_))
  have hij : i ≤ y.shelf.length := by omega
  have hi41acd : i < y.shelf.length := aC
  obtain ⟨b55, o55, cs55, f55, hp55, hr55, hc55, hm55⟩ := idx h19_0 (i := i) hi41acd
  have hk55 := hc55
  obtain ⟨v56, rfl, h57⟩ := hk55
  refine rn st52 8 hA53 [] [(44, .bool (decide ((j : Int) < ((y.shelf[i]'hi41acd).length : Int))))] [qb 0 rfl 2, qx hp55, qr hr55 0, ql h57, .o] aD fun f58 h58_ => (aB (aK (h58_.at 44) (fun h59p => ?_) (fun h59p => ?_)))
  ·refine wp_skip (wp_seq (wp_block (wp_seq ?_)))
   have hi8b643 : j < (y.shelf[i]'hi41acd).length := aC
   obtain ⟨b61, o61, cs61, f61, hp61, hr61, hc61, hm61⟩ := idx h57 (i := j) hi8b643
   have hk62 := hc61
   obtain ⟨he62, rfl, hok62⟩ := hk62
   have he62 : _ = [I ((y.shelf[i]'hi41acd)[j]'hi8b643).prio, I ((y.shelf[i]'hi41acd)[j]'hi8b643).seq, I ((y.shelf[i]'hi41acd)[j]'hi8b643).run, I ((y.shelf[i]'hi41acd)[j]'hi8b643).task] := he62
   subst he62
   refine rd st52 h58_ [] [(57, .bool (!(fresh y ((y.shelf[i]'hi41acd)[j]'hi8b643))))] [qb 0 rfl 0, qb 0 rfl 2, qx hp55, qr hr55 0, qx hp61, qr hr61 0, qc (args := [.agg #[I y.now, I y.seq, v19_0, v19_1], .agg #[I ((y.shelf[i]'hi41acd)[j]'hi8b643).prio, I ((y.shelf[i]'hi41acd)[j]'hi8b643).seq, I ((y.shelf[i]'hi41acd)[j]'hi8b643).run, I ((y.shelf[i]'hi41acd)[j]'hi8b643).task]]) (v := .bool (fresh y ((y.shelf[i]'hi41acd)[j]'hi8b643))) func374 rfl (fun W s b => FreshS W (bG hc s.below) hc61 aC), .o] aD aD fun f63 W64 h63_ st65 hb66 => (cF (h63_.at 57) (fun h67 => ?_) (fun h67 => ?_))
   ·refine aA (rn st65 3 h63_ [3] [(3, I ((((((y.runs.take k).map cM).sum : Nat) : Int) + ((cR y (y.shelf.take i).flatten : Nat) : Int) + ((cR y ((y.shelf[i]'(by omega)).take j) : Nat) : Int)) + 1))] [qad (((((y.runs.take k).map cM).sum : Nat) : Int) + ((cR y (y.shelf.take i).flatten : Nat) : Int) + ((cR y ((y.shelf[i]'(by omega)).take j) : Nat) : Int)) 1] aD fun f69 h69_ => (aB (aA (rn st65 3 h69_ [6] [(6, I ((j : Int) + 1))] [qad (j : Int) 1] aD fun f71 h71_ => (aB ?_)))))
    exact ⟨_, (y.shelf[i]'(by omega)).length - (j + 1), aC, rfl, j + 1, aC, aC, rfl, (Ag.cons (h71_.at 1) (Ag.cons (Eq.trans (show _ = I ((((((y.runs.take k).map cM).sum : Nat) : Int) + ((cR y (y.shelf.take i).flatten : Nat) : Int) + ((cR y ((y.shelf[i]'(by omega)).take j) : Nat) : Int)) + 1) from (h71_.at 3)) (congrArg I (by rw [zR aC h67]; try omega))) (Ag.cons (h71_.at 5) (Ag.cons (h71_.at 6) Ag.nil)))), st65⟩
   refine wp_skip (aA (rn st65 3 h63_ [6] [(6, I ((j : Int) + 1))] [qad (j : Int) 1] aD fun f73 h73_ => (aB ?_)))
   exact ⟨_, (y.shelf[i]'(by omega)).length - (j + 1), aC, rfl, j + 1, aC, aC, rfl, (Ag.cons (h73_.at 1) (Ag.cons (Eq.trans (show _ = I (((((y.runs.take k).map cM).sum : Nat) : Int) + ((cR y (y.shelf.take i).flatten : Nat) : Int) + ((cR y ((y.shelf[i]'(by omega)).take j) : Nat) : Int)) from (h73_.at 3)) (congrArg I (by rw [zS aC h67]; try omega))) (Ag.cons (h73_.at 5) (Ag.cons (h73_.at 6) Ag.nil)))), st65⟩
  refine wp_exit (aA (rn st52 3 h58_ [5] [(5, I ((i : Int) + 1))] [qad (i : Int) 1] aD fun f75 h75_ => (aB ?_)))
  exact ⟨_, y.shelf.length - (i + 1), aC, rfl, i + 1, aC, rfl, (Ag.cons (h75_.at 1) (Ag.cons (Eq.trans (show _ = I (((((y.runs.take k).map cM).sum : Nat) : Int) + ((cR y (y.shelf.take i).flatten : Nat) : Int) + ((cR y ((y.shelf[i]'(by omega)).take j) : Nat) : Int)) from (h75_.at 3)) (congrArg I (by rw [oE aC, slotsE_app, show j = (y.shelf[i]'(by omega)).length by omega, take_length]; omega))) (Ag.cons (h75_.at 5) Ag.nil))), st52⟩
 refine wp_exit (wp_seq (aA (sg (aG (h44_.at 3) (sg (aF (v := I (((((y.runs.take k).map cM).sum : Nat) : Int) + ((cR y (y.shelf.take i).flatten : Nat) : Int))) rfl (aB (wr (aM results294 rfl ?_)))))))))
 obtain rfl : k = y.runs.length := by omega
 obtain rfl : i = y.shelf.length := by omega
 exact ⟨(fI (by unfold jB; rw [take_length, take_length])), st41.bare⟩
theorem RunsOkI {y : Yard} (hc : Shape.C w cs y fp) {r : Run} (hd : Shape.C w ds r gp) {v : Value} {es : List Entry} {fq : List Nat} (h : Sl w v es fq) (hn : 0 ≤ y.now ∧ y.now ≤ 999999980) (hwt : 0 ≤ r.plan.wait ∧ r.plan.wait ≤ 20) (hl : es.length ≤ 1048576) :
  Calls prog 233 #[.agg cs.toArray, .agg ds.toArray, v] w (rB_ (eW y.now r es) w) := by
 have hcap : r.tasks.length ≤ 9223372036854775807 := by have h0 := hd; obtain ⟨v1, v2, f1, f2, h0, hok, h1, h2, hfp⟩ := h0; exact h2.len_le
 have hcap2 := h.len_le
 refine aE4 func233 rfl ntmps233 aU (wp_seq (aA (sg (aH (cs := cs) rfl (St.start w) ?_)))); intro b1 W2 hb3 st4
 refine sg (aH (cs := ds) rfl st4 ?_); intro b6 W7 hb8 st9
 refine sg (aE (aB (wp_seq (wp_seq (aA ?_)))))
 have hk14 := hd
 obtain ⟨v14_0, v14_1, g14_0, g14_1, rfl, hok14, h14_0, h14_1, rfl⟩ := hk14
 refine rn st9 4 Ag.nil.put.put.put.put.put.put [] [(13, v14_1), (14, I (r.tasks.length : Int)), (15, I 0)] [qb 0 rfl 7, ql h14_1] aD fun f15 h15_ => (aB (wp_block (aQ (fun (m : Nat) (f : Nat → Value) (W : World) => ∃ (k : Nat), k ≤ r.tasks.length ∧ (∀ j, j < k → uQ y.now r es j) ∧ m = r.tasks.length - k ∧ Ag [(2, v), (3, pt_ b1), (4, pt_ b6), (13, v14_1), (14, I (r.tasks.length : Int)), (15, I (k : Int))] f ∧ St w W ([Res.bx b6 [I r.id, I r.plan.prio, I r.plan.most, I r.plan.wait, I r.plan.tasks, v14_0, I r.state, v14_1] 55, Res.bx b1 cs 27])) (r.tasks.length - 0) ?_ ?_)))
 ·exact ⟨0, aC, (fun j hj => absurd hj (Nat.not_lt_zero j)), rfl, (h15_.to aD), st9⟩
 intro m16 f17 W18 hJ19
 obtain ⟨k, hk, hT, rfl, hA21, st20⟩ := hJ19
 refine wp_seq (aA (sg (bA (hA21.at 15) (hA21.at 14) (aB (wp_seq (aK rfl (fun h24p => ?_) (fun h24p => ?_)))))))
 ·refine wp_skip (wp_seq (wp_block (wp_seq (aA ?_))))
  have hif4d94 : k < r.tasks.length := aC
  obtain ⟨b26, o26, cs26, f26, hp26, hr26, hc26, hm26⟩ := idx h14_1 (i := k) hif4d94
  refine rn st20 3 hA21.put [] [(17, I (k : Int)), (19, .agg cs26.toArray)] [qx hp26, qrw hr26 (Shape.len hc26)] aD fun f27 h27_ => (sg (aT nP st20 ?_)); intro b28 W29 hb30 st31
  refine sg (aF (h27_.at 17) (sgn (bR (cs := cs26) oA hc26 rfl (h27_.at 19) st31 rfl ?_))); intro W35 st36
  refine aB (wp_seq (aA (sg (aE (aB (wp_seq (wp_seq (aA (rn st36 3 h27_.put.put.put [] [(20, v), (21, I (es.length : Int)), (22, I 0)] [ql h] aD fun f40 h40_ => (aB (wp_block (aQ (fun (m : Nat) (f : Nat → Value) (W : World) => ∃ (i : Nat), k < r.tasks.length ∧ i ≤ es.length ∧ pF r k (es.take i) ∧ eZ r.id (k : Int) (es.take i) ≤ i ∧ m = es.length - i ∧ Ag [(2, v), (3, pt_ b1), (4, pt_ b6), (7, I (k : Int)), (8, pt_ b28), (9, I ((eZ r.id (k : Int) (es.take i) : Nat) : Int)), (13, v14_1), (14, I (r.tasks.length : Int)), (15, I (k : Int)), (20, v), (21, I (es.length : Int)), (22, I (i : Int))] f ∧ St w W ([Res.bx b28 cs26 158, Res.bx b6 [I r.id, I r.plan.prio, I r.plan.most, I r.plan.wait, I r.plan.tasks, v14_0, I r.state, v14_1] 55, Res.bx b1 cs 27])) (es.length - 0) ?_ ?_))))))))))))
  ·exact ⟨0, aC, aC, (fun _ e he => by simp at he), (by simp [eZ]), rfl, (Ag.cons (h40_.at 2) (Ag.cons (h40_.at 3) (Ag.cons (h40_.at 4) (Ag.cons (h40_.at 7) (Ag.cons (h40_.at 8) (Ag.cons (Eq.trans (show _ = I 0 from (h40_.at 9)) (congrArg I (by simp [eZ]))) (Ag.cons (h40_.at 13) (Ag.cons (h40_.at 14) (Ag.cons (h40_.at 15) (Ag.cons (h40_.at 20) (Ag.cons (h40_.at 21) (Ag.cons (h40_.at 22) Ag.nil)))))))))))), st36⟩
  intro m41 f42 W43 hJ44
  obtain ⟨i, hk2, hi, hPr, hen, rfl, hA46, st45⟩ := hJ44
  refine wp_seq (aA (sg (bA (hA46.at 22) (hA46.at 21) (aB (wp_seq (aK rfl (fun h49p => ?_) (fun h49p => ?_)))))))
  ·refine wp_skip (wp_seq (wp_block (wp_seq (aA ?_))))
   have hif21f0 : i < es.length := aC
   obtain ⟨b50, o50, cs50, f50, hp50, hr50, hc50, hm50⟩ := idx h (i := i) hif21f0
   refine sg (aY jI (hA46.at 20) hp50 (hA46.at 22) rfl (sg (dX iT rfl rfl hr50 st45.below (Shape.len hc50) (sg (aT mQ st45 ?_))))); intro b53 W54 hb55 st56
   refine sgn (bR (cs := cs50) iT hc50 rfl rfl st56 rfl ?_); intro W58 st59
   refine aB (wp_seq (aA ?_))
   have hk61 := hc50
   obtain ⟨he61, rfl, hok61⟩ := hk61
   have he61 : _ = [I (es[i]'hif21f0).prio, I (es[i]'hif21f0).seq, I (es[i]'hif21f0).run, I (es[i]'hif21f0).task] := he61
   subst he61
   refine rg st59 11 hA46.put.put.put.put [] [(36, .bool ((decide ((es[i]'hif21f0).run = r.id)) && (decide ((es[i]'hif21f0).task = (k : Int)))))] [qb 0 rfl 2, qb 2 rfl 0, .o, qb 0 rfl 3, .o] aD fun f62 W63 h62_ st64 hb65 => (aB (cF (h62_.at 36) (fun h66 => ?_) (fun h66 => ?_)))
   ·have h66p := h66
    simp [inB] at h66p
    refine wp_seq (wp_seq (aA ?_))
    have hk68 := hc26
    obtain ⟨he68, rfl, hok68⟩ := hk68
    have he68 : _ = [I (r.tasks[k]'hif4d94).state, I (r.tasks[k]'hif4d94).need, I (r.tasks[k]'hif4d94).try_, I (r.tasks[k]'hif4d94).until_] := he68
    subst he68
    refine rg st64 11 h62_ [] [(47, .bool ((decide ((r.tasks[k]'hif4d94).state = 2)) && (!decide ((es[i]'hif21f0).prio = r.plan.prio))))] [qb 1 rfl 0, .o, qb 0 rfl 0, qb 2 rfl 1, .o] aD fun f69 W70 h69_ st71 hb72 => (aB (cF (h69_.at 47) (fun h73 => ?_) (fun h73 => ?_)))
    ·have h73p := h73
     simp [inB] at h73p
     refine wp_seq (aA (sg (aE (aB (wr (aM results233 rfl ?_))))))
     exact ⟨(fB (by unfold eW; rw [dV (fun hz => uX (i := i) (k := k) aC aC aC aC aC aC (hz k aC).1)])), st71.bare⟩
    have h73p := h73
    simp [inB] at h73p
    refine wp_skip (aA (rn st71 3 h69_ [9] [(9, I (((eZ r.id (k : Int) (es.take i) : Nat) : Int) + 1))] [qad ((eZ r.id (k : Int) (es.take i) : Nat) : Int) 1] aD fun f77 h77_ => (aB (aA (sg (bW (h77_.at 22) rfl eI (sg (aG (v := I ((i : Int) + 1)) rfl (aB ?_)))))))))
    exact ⟨_, es.length - (i + 1), aC, rfl, i + 1, aC, aC, (gF aC hPr (fun _ h1 h2 h3 => by omega)), (by exact Nat.le_trans (oF _ _ _) (length_take_le _ _)), rfl, (Ag.cons (h77_.at 2) (Ag.cons (h77_.at 3) (Ag.cons (h77_.at 4) (Ag.cons (h77_.at 7) (Ag.cons (h77_.at 8) (Ag.cons (Eq.trans (show _ = I (((eZ r.id (k : Int) (es.take i) : Nat) : Int) + 1) from (h77_.at 9)) (congrArg I (by rw [aE5 aC ⟨by omega, by omega⟩]; omega))) (Ag.cons (h77_.at 13) (Ag.cons (h77_.at 14) (Ag.cons (h77_.at 15) (Ag.cons (h77_.at 20) (Ag.cons (h77_.at 21) (Ag.cons rfl Ag.nil)))))))))))), st71.f3.f3.f3.d3⟩
   have h66p := h66
   simp [inB] at h66p
   refine wp_skip (aA (sg (bW (h62_.at 22) rfl eI (sg (aG (v := I ((i : Int) + 1)) rfl (aB ?_))))))
   exact ⟨_, es.length - (i + 1), aC, rfl, i + 1, aC, aC, (gF aC hPr (fun _ h1 h2 h3 => by omega)), (by exact Nat.le_trans (oF _ _ _) (length_take_le _ _)), rfl, (Ag.cons (h62_.at 2) (Ag.cons (h62_.at 3) (Ag.cons (h62_.at 4) (Ag.cons (h62_.at 7) (Ag.cons (h62_.at 8) (Ag.cons (Eq.trans (show _ = I ((eZ r.id (k : Int) (es.take i) : Nat) : Int) from (h62_.at 9)) (congrArg I (by rw [aE6 aC (fun hz => by have hz1 := hz.1; have hz2 := hz.2; omega)]))) (Ag.cons (h62_.at 13) (Ag.cons (h62_.at 14) (Ag.cons (h62_.at 15) (Ag.cons (h62_.at 20) (Ag.cons (h62_.at 21) (Ag.cons rfl Ag.nil)))))))))))), st64.f3.f3.f3.d3⟩
  refine wp_exit (wp_seq (aA ?_))
  have hk91 := hc26
  obtain ⟨he91, rfl, hok91⟩ := hk91
  have he91 : _ = [I (r.tasks[k]'hif4d94).state, I (r.tasks[k]'hif4d94).need, I (r.tasks[k]'hif4d94).try_, I (r.tasks[k]'hif4d94).until_] := he91
  subst he91
  have hk92 := hc
  obtain ⟨v92_0, v92_1, g92_0, g92_1, rfl, hok92, h92_0, h92_1, rfl⟩ := hk92
  refine rg st45 27 hA46.put [] [(77, .bool (((decide ((r.tasks[k]'hif4d94).state = 2)) && (!decide (((eZ r.id (k : Int) (es.take i) : Nat) : Int) = 1))) || ((decide ((r.tasks[k]'hif4d94).state = 3)) && (!(inB (r.tasks[k]'hif4d94).until_ (y.now + 1) (y.now + r.plan.wait))))))] [qb 0 rfl 0, .o, .o, qb 0 rfl 0, .o, qb 0 rfl 3, qb 2 rfl 0, qad y.now 1, qb 2 rfl 0, qb 1 rfl 3, qad y.now r.plan.wait, qc (args := [I (r.tasks[k]'hif4d94).until_, I (y.now + 1), I (y.now + r.plan.wait)]) (v := .bool (inB (r.tasks[k]'hif4d94).until_ (y.now + 1) (y.now + r.plan.wait))) func92 rfl (fun W s b => dH W (r.tasks[k]'hif4d94).until_ (y.now + 1) (y.now + r.plan.wait)), .o] aD fun f93 W94 h93_ st95 hb96 => (aB (cF (h93_.at 77) (fun h97 => ?_) (fun h97 => ?_)))
  ·have h97p := h97
   simp [inB] at h97p
   refine wp_seq (aA (sg (aE (aB (wr (aM results233 rfl ?_))))))
   have hent : eZ r.id (k : Int) es = eZ r.id (k : Int) (es.take i) := by rw [show i = es.length by omega, take_length]
   exact ⟨(fB (by unfold eW; rw [dV (fun hz => by have hz2 := (hz k aC).2 aC; omega)])), st95.bare⟩
  have h97p := h97
  simp [inB] at h97p
  refine wp_skip (aA (sg (bW (h93_.at 15) rfl eI (sg (aG (v := I ((k : Int) + 1)) rfl (aB ?_))))))
  exact ⟨_, r.tasks.length - (k + 1), aC, rfl, k + 1, aC, (iQ aC hPr (fun _ => by omega) hT), rfl, (h93_.put.put.to aD), st95.f2.f2.d2⟩
 refine wp_exit (wp_seq (aA (sg (aE (aB (wr (aM results233 rfl ?_)))))))
 exact ⟨(fB (by unfold eW; rw [lX (fun j hj => hT j aC)])), st20.bare⟩
theorem RunsOkS {y : Yard} (hc : Shape.C w cs y fp) {r : Run} (hd : Shape.C w ds r gp) {v : Value} {es : List Entry} {fq : List Nat} (h : Sl w v es fq) (hn : 0 ≤ y.now ∧ y.now ≤ 999999980) (hwt : 0 ≤ r.plan.wait ∧ r.plan.wait ≤ 20) (hl : es.length ≤ 1048576) :
  Calls prog 293 #[.agg cs.toArray, .agg ds.toArray, v] w (rB_ (eW y.now r es) w) := by
 have hcap : r.tasks.length ≤ 9223372036854775807 := by have h0 := hd; obtain ⟨v1, v2, f1, f2, h0, hok, h1, h2, hfp⟩ := h0; exact h2.len_le
 have hcap2 := h.len_le
 refine aE4 func293 rfl ntmps293 aU (wp_seq (aA (sg (aH (cs := cs) rfl (St.start w) ?_)))); intro b1 W2 hb3 st4
 refine sg (aH (cs := ds) rfl st4 ?_); intro b6 W7 hb8 st9
 refine sg (aE (aB (wp_seq (wp_seq (aA (sg (aE (aB (wp_block (aQ (fun (m : Nat) (f : Nat → Value) (W : World) => ∃ (k : Nat), k ≤ r.tasks.length ∧ (∀ j, j < k → uQ y.now r es j) ∧ m = r.tasks.length - k ∧ Ag [(2, v), (3, pt_ b1), (4, pt_ b6), (7, I (k : Int))] f ∧ St w W ([Res.bx b6 ds 55, Res.bx b1 cs 27])) (r.tasks.length - 0) ?_ ?_))))))))))
 ·exact ⟨0, aC, (fun j hj => absurd hj (Nat.not_lt_zero j)), rfl, (Ag.nil.put.put.put.put.put.put.put.to aD), st9⟩
 intro m15 f16 W17 hJ18
 obtain ⟨k, hk, hT, rfl, hA20, st19⟩ := hJ18
 refine wp_seq (wp_seq (aA ?_))
 have hk22 := hd
 obtain ⟨v22_0, v22_1, g22_0, g22_1, rfl, hok22, h22_0, h22_1, rfl⟩ := hk22
 refine rn st19 5 hA20 [] [(14, .bool (decide ((k : Int) < (r.tasks.length : Int))))] [qb 0 rfl 7, ql h22_1, .o] aD fun f23 h23_ => (aB (aK (h23_.at 14) (fun h24p => ?_) (fun h24p => ?_)))
 ·refine wp_skip (wp_seq (wp_block (wp_seq (aA (sg (aE (aB (wp_seq (wp_seq (aA (sg (aE (aB ?_)))))))))))))
  refine wp_block (aQ (fun (m : Nat) (f : Nat → Value) (W : World) => ∃ (i : Nat), k < r.tasks.length ∧ i ≤ es.length ∧ pF r k (es.take i) ∧ eZ r.id (k : Int) (es.take i) ≤ i ∧ m = es.length - i ∧ Ag [(2, v), (3, pt_ b1), (4, pt_ b6), (7, I (k : Int)), (8, I ((eZ r.id (k : Int) (es.take i) : Nat) : Int)), (9, I (i : Int))] f ∧ St w W ([Res.bx b6 [I r.id, I r.plan.prio, I r.plan.most, I r.plan.wait, I r.plan.tasks, v22_0, I r.state, v22_1] 55, Res.bx b1 cs 27])) (es.length - 0) ?_ ?_)
  ·exact ⟨0, aC, aC, (fun _ e he => by simp at he), (by simp [eZ]), rfl, (Ag.cons (h23_.at 2) (Ag.cons (h23_.at 3) (Ag.cons (h23_.at 4) (Ag.cons (h23_.at 7) (Ag.cons (Eq.trans (show _ = I 0 from rfl) (congrArg I (by simp [eZ]))) (Ag.cons rfl Ag.nil)))))), st19⟩
  intro m29 f30 W31 hJ32
  obtain ⟨i, hk2, hi, hPr, hen, rfl, hA34, st33⟩ := hJ32
  refine wp_seq (wp_seq (aA (rn st33 4 hA34 [] [(20, .bool (decide ((i : Int) < (es.length : Int))))] [ql h, .o] aD fun f36 h36_ => (aB (aK (h36_.at 20) (fun h37p => ?_) (fun h37p => ?_))))))
  ·refine wp_skip (wp_seq (wp_block (wp_seq ?_)))
   have hif21f0 : i < es.length := aC
   rcases nem ((es[i]'hif21f0).run = r.id) with h41p | h41p
   ·have h41 := decide_eq_false h41p
    have hif21f0 : i < es.length := aC
    obtain ⟨b43, o43, cs43, f43, hp43, hr43, hc43, hm43⟩ := idx h (i := i) hif21f0
    have hk44 := hc43
    obtain ⟨he44, rfl, hok44⟩ := hk44
    have he44 : _ = [I (es[i]'hif21f0).prio, I (es[i]'hif21f0).seq, I (es[i]'hif21f0).run, I (es[i]'hif21f0).task] := he44
    subst he44
    refine rd st33 h36_ [] [(39, .bool false)] [qx hp43, qr hr43 2, qb 0 rfl 0, qk h41] aD aD fun f45 W46 h45_ st47 hb48 => (lP (h45_.at 39) rfl (wp_skip (aA (rn st47 3 h45_ [9] [(9, I ((i : Int) + 1))] [qad (i : Int) 1] aD fun f50 h50_ => (aB ?_)))))
    exact ⟨_, es.length - (i + 1), aC, rfl, i + 1, aC, aC, (gF aC hPr (fun _ h1 h2 h3 => by omega)), (by exact Nat.le_trans (oF _ _ _) (length_take_le _ _)), rfl, (Ag.cons (h50_.at 2) (Ag.cons (h50_.at 3) (Ag.cons (h50_.at 4) (Ag.cons (h50_.at 7) (Ag.cons (Eq.trans (show _ = I ((eZ r.id (k : Int) (es.take i) : Nat) : Int) from (h50_.at 8)) (congrArg I (by rw [aE6 aC (fun hz => by have hz1 := hz.1; have hz2 := hz.2; omega)]))) (Ag.cons (h50_.at 9) Ag.nil)))))), st47⟩
   have h41 := decide_eq_true h41p
   have hif21f0 : i < es.length := aC
   obtain ⟨b52, o52, cs52, f52, hp52, hr52, hc52, hm52⟩ := idx h (i := i) hif21f0
   have hk53 := hc52
   obtain ⟨he53, rfl, hok53⟩ := hk53
   have he53 : _ = [I (es[i]'hif21f0).prio, I (es[i]'hif21f0).seq, I (es[i]'hif21f0).run, I (es[i]'hif21f0).task] := he53
   subst he53
   refine rd st33 h36_ [] [(39, .bool (decide ((es[i]'hif21f0).task = (k : Int))))] [qx hp52, qr hr52 2, qb 0 rfl 0, qk h41, qx hp52, qr hr52 3, .o] aD aD fun f54 W55 h54_ st56 hb57 => (aK (h54_.at 39) (fun h58p => ?_) (fun h58p => ?_))
   ·refine wp_seq (aA (rn st56 3 h54_ [8] [(8, I (((eZ r.id (k : Int) (es.take i) : Nat) : Int) + 1))] [qad ((eZ r.id (k : Int) (es.take i) : Nat) : Int) 1] aD fun f60 h60_ => (aB (wp_seq ?_))))
    have hif4d94 : k < r.tasks.length := aC
    rcases nem ((r.tasks[k]'hif4d94).state = 2) with h64p | h64p
    ·have h64 := decide_eq_false h64p
     have hif4d94 : k < r.tasks.length := aC
     obtain ⟨b66, o66, cs66, f66, hp66, hr66, hc66, hm66⟩ := idx h22_1 (i := k) hif4d94
     have hk67 := hc66
     obtain ⟨he67, rfl, hok67⟩ := hk67
     have he67 : _ = [I (r.tasks[k]'hif4d94).state, I (r.tasks[k]'hif4d94).need, I (r.tasks[k]'hif4d94).try_, I (r.tasks[k]'hif4d94).until_] := he67
     subst he67
     refine rd st56 h60_ [] [(59, .bool false)] [qb 0 rfl 7, qx hp66, qr hr66 0, qk h64] aD aD fun f68 W69 h68_ st70 hb71 => (lP (h68_.at 59) rfl (wp_skip (aA (rn st70 3 h68_ [9] [(9, I ((i : Int) + 1))] [qad (i : Int) 1] aD fun f73 h73_ => (aB ?_)))))
     exact ⟨_, es.length - (i + 1), aC, rfl, i + 1, aC, aC, (gF aC hPr (fun _ h1 h2 h3 => by omega)), (by exact Nat.le_trans (oF _ _ _) (length_take_le _ _)), rfl, (Ag.cons (h73_.at 2) (Ag.cons (h73_.at 3) (Ag.cons (h73_.at 4) (Ag.cons (h73_.at 7) (Ag.cons (Eq.trans (show _ = I (((eZ r.id (k : Int) (es.take i) : Nat) : Int) + 1) from (h73_.at 8)) (congrArg I (by rw [aE5 aC ⟨by assumption, by assumption⟩]; omega))) (Ag.cons (h73_.at 9) Ag.nil)))))), st70⟩
    have h64 := decide_eq_true h64p
    have hif4d94 : k < r.tasks.length := aC
    obtain ⟨b75, o75, cs75, f75, hp75, hr75, hc75, hm75⟩ := idx h22_1 (i := k) hif4d94
    have hk76 := hc75
    obtain ⟨he76, rfl, hok76⟩ := hk76
    have he76 : _ = [I (r.tasks[k]'hif4d94).state, I (r.tasks[k]'hif4d94).need, I (r.tasks[k]'hif4d94).try_, I (r.tasks[k]'hif4d94).until_] := he76
    subst he76
    refine rd st56 h60_ [] [(59, .bool (!decide ((es[i]'hif21f0).prio = r.plan.prio)))] [qb 0 rfl 7, qx hp75, qr hr75 0, qk h64, qx hp52, qr hr52 0, qb 0 rfl 1, .o] aD aD fun f77 W78 h77_ st79 hb80 => (bE (h77_.at 59) (fun h81p => ?_) (fun h81p => ?_))
    ·refine wp_seq (aA (sg (aE (aB (wr (aM results293 rfl ?_))))))
     exact ⟨(fB (by unfold eW; rw [dV (fun hz => uX (i := i) (k := k) aC aC (by assumption) (by assumption) (by assumption) (by assumption) (hz k aC).1)])), st79.bare⟩
    refine wp_skip (aA (rn st79 3 h77_ [9] [(9, I ((i : Int) + 1))] [qad (i : Int) 1] aD fun f85 h85_ => (aB ?_)))
    exact ⟨_, es.length - (i + 1), aC, rfl, i + 1, aC, aC, (gF aC hPr (fun _ h1 h2 h3 => by omega)), (by exact Nat.le_trans (oF _ _ _) (length_take_le _ _)), rfl, (Ag.cons (h85_.at 2) (Ag.cons (h85_.at 3) (Ag.cons (h85_.at 4) (Ag.cons (h85_.at 7) (Ag.cons (Eq.trans (show _ = I (((eZ r.id (k : Int) (es.take i) : Nat) : Int) + 1) from (h85_.at 8)) (congrArg I (by rw [aE5 aC ⟨by assumption, by assumption⟩]; omega))) (Ag.cons (h85_.at 9) Ag.nil)))))), st79⟩
   refine wp_skip (aA (rn st56 3 h54_ [9] [(9, I ((i : Int) + 1))] [qad (i : Int) 1] aD fun f87 h87_ => (aB ?_)))
   exact ⟨_, es.length - (i + 1), aC, rfl, i + 1, aC, aC, (gF aC hPr (fun _ h1 h2 h3 => by omega)), (by exact Nat.le_trans (oF _ _ _) (length_take_le _ _)), rfl, (Ag.cons (h87_.at 2) (Ag.cons (h87_.at 3) (Ag.cons (h87_.at 4) (Ag.cons (h87_.at 7) (Ag.cons (Eq.trans (show _ = I ((eZ r.id (k : Int) (es.take i) : Nat) : Int) from (h87_.at 8)) (congrArg I (by rw [aE6 aC (fun hz => by have hz1 := hz.1; have hz2 := hz.2; omega)]))) (Ag.cons (h87_.at 9) Ag.nil)))))), st56⟩
  refine wp_exit (wp_seq ?_)
  have hif4d94 : k < r.tasks.length := aC
  rcases nem ((r.tasks[k]'hif4d94).state = 2) with h91p | h91p
  ·have h91 := decide_eq_false h91p
   have hif4d94 : k < r.tasks.length := aC
   rcases nem ((r.tasks[k]'hif4d94).state = 3) with h95p | h95p
   ·have h95 := decide_eq_false h95p
    have hif4d94 : k < r.tasks.length := aC
    obtain ⟨b97, o97, cs97, f97, hp97, hr97, hc97, hm97⟩ := idx h22_1 (i := k) hif4d94
    have hk98 := hc97
    obtain ⟨he98, rfl, hok98⟩ := hk98
    have he98 : _ = [I (r.tasks[k]'hif4d94).state, I (r.tasks[k]'hif4d94).need, I (r.tasks[k]'hif4d94).try_, I (r.tasks[k]'hif4d94).until_] := he98
    subst he98
    refine rd st33 h36_ [] [(98, .bool false)] [qb 0 rfl 7, qx hp97, qr hr97 0, qk h91, qb 0 rfl 7, qx hp97, qr hr97 0, qk h95] aD aD fun f99 W100 h99_ st101 hb102 => (lP (h99_.at 98) rfl (wp_skip (aA (rn st101 3 h99_ [7] [(7, I ((k : Int) + 1))] [qad (k : Int) 1] aD fun f104 h104_ => (aB ?_)))))
    exact ⟨_, r.tasks.length - (k + 1), aC, rfl, k + 1, aC, (iQ aC hPr (fun _ => by omega) hT), rfl, (h104_.to aD), st101⟩
   have h95 := decide_eq_true h95p
   have hif4d94 : k < r.tasks.length := aC
   obtain ⟨b106, o106, cs106, f106, hp106, hr106, hc106, hm106⟩ := idx h22_1 (i := k) hif4d94
   have hk107 := hc106
   obtain ⟨he107, rfl, hok107⟩ := hk107
   have he107 : _ = [I (r.tasks[k]'hif4d94).state, I (r.tasks[k]'hif4d94).need, I (r.tasks[k]'hif4d94).try_, I (r.tasks[k]'hif4d94).until_] := he107
   subst he107
   have hk108 := hc
   obtain ⟨v108_0, v108_1, g108_0, g108_1, rfl, hok108, h108_0, h108_1, rfl⟩ := hk108
   refine rd st33 h36_ [] [(98, .bool (!(inB (r.tasks[k]'hif4d94).until_ (y.now + 1) (y.now + r.plan.wait))))] [qb 0 rfl 7, qx hp106, qr hr106 0, qk h91, qb 0 rfl 7, qx hp106, qr hr106 0, qk h95, qb 0 rfl 7, qx hp106, qr hr106 3, qb 1 rfl 0, qad y.now 1, qb 1 rfl 0, qb 0 rfl 3, qad y.now r.plan.wait, qc (args := [I (r.tasks[k]'hif4d94).until_, I (y.now + 1), I (y.now + r.plan.wait)]) (v := .bool (inB (r.tasks[k]'hif4d94).until_ (y.now + 1) (y.now + r.plan.wait))) func138 rfl (fun W s b => cK W (r.tasks[k]'hif4d94).until_ (y.now + 1) (y.now + r.plan.wait)), .o] aD aD fun f109 W110 h109_ st111 hb112 => (cF (h109_.at 98) (fun h113 => ?_) (fun h113 => ?_))
   ·have h113p := eA (aO h113)
    refine wp_seq (aA (sg (aE (aB (wr (aM results293 rfl ?_))))))
    have hent : eZ r.id (k : Int) es = eZ r.id (k : Int) (es.take i) := by rw [show i = es.length by omega, take_length]
    exact ⟨(fB (by unfold eW; rw [dV (fun hz => by have hz2 := (hz k aC).2 aC; omega)])), st111.bare⟩
   have h113p := inB_iff'.1 (bY h113)
   refine wp_skip (aA (rn st111 3 h109_ [7] [(7, I ((k : Int) + 1))] [qad (k : Int) 1] aD fun f117 h117_ => (aB ?_)))
   exact ⟨_, r.tasks.length - (k + 1), aC, rfl, k + 1, aC, (iQ aC hPr (fun _ => by omega) hT), rfl, (h117_.to aD), st111⟩
  have h91 := decide_eq_true h91p
  rcases Decidable.em (((eZ r.id (k : Int) (es.take i) : Nat) : Int) = 1) with h121p | h121p
  ·have h121 := fM h121p
   have hif4d94 : k < r.tasks.length := aC
   rcases nem ((r.tasks[k]'hif4d94).state = 3) with h125p | h125p
   ·have h125 := decide_eq_false h125p
    have hif4d94 : k < r.tasks.length := aC
    obtain ⟨b127, o127, cs127, f127, hp127, hr127, hc127, hm127⟩ := idx h22_1 (i := k) hif4d94
    have hk128 := hc127
    obtain ⟨he128, rfl, hok128⟩ := hk128
    have he128 : _ = [I (r.tasks[k]'hif4d94).state, I (r.tasks[k]'hif4d94).need, I (r.tasks[k]'hif4d94).try_, I (r.tasks[k]'hif4d94).until_] := he128
    subst he128
    refine rd st33 h36_ [] [(98, .bool false)] [qb 0 rfl 7, qx hp127, qr hr127 0, qk h91, qk h121, qb 0 rfl 7, qx hp127, qr hr127 0, qk h125] aD aD fun f129 W130 h129_ st131 hb132 => (lP (h129_.at 98) rfl (wp_skip (aA (rn st131 3 h129_ [7] [(7, I ((k : Int) + 1))] [qad (k : Int) 1] aD fun f134 h134_ => (aB ?_)))))
    exact ⟨_, r.tasks.length - (k + 1), aC, rfl, k + 1, aC, (iQ aC hPr (fun _ => by omega) hT), rfl, (h134_.to aD), st131⟩
   have h125 := decide_eq_true h125p
   have hif4d94 : k < r.tasks.length := aC
   obtain ⟨b136, o136, cs136, f136, hp136, hr136, hc136, hm136⟩ := idx h22_1 (i := k) hif4d94
   have hk137 := hc136
   obtain ⟨he137, rfl, hok137⟩ := hk137
   have he137 : _ = [I (r.tasks[k]'hif4d94).state, I (r.tasks[k]'hif4d94).need, I (r.tasks[k]'hif4d94).try_, I (r.tasks[k]'hif4d94).until_] := he137
   subst he137
   have hk138 := hc
   obtain ⟨v138_0, v138_1, g138_0, g138_1, rfl, hok138, h138_0, h138_1, rfl⟩ := hk138
   refine rd st33 h36_ [] [(98, .bool (!(inB (r.tasks[k]'hif4d94).until_ (y.now + 1) (y.now + r.plan.wait))))] [qb 0 rfl 7, qx hp136, qr hr136 0, qk h91, qk h121, qb 0 rfl 7, qx hp136, qr hr136 0, qk h125, qb 0 rfl 7, qx hp136, qr hr136 3, qb 1 rfl 0, qad y.now 1, qb 1 rfl 0, qb 0 rfl 3, qad y.now r.plan.wait, qc (args := [I (r.tasks[k]'hif4d94).until_, I (y.now + 1), I (y.now + r.plan.wait)]) (v := .bool (inB (r.tasks[k]'hif4d94).until_ (y.now + 1) (y.now + r.plan.wait))) func138 rfl (fun W s b => cK W (r.tasks[k]'hif4d94).until_ (y.now + 1) (y.now + r.plan.wait)), .o] aD aD fun f139 W140 h139_ st141 hb142 => (cF (h139_.at 98) (fun h143 => ?_) (fun h143 => ?_))
   ·have h143p := eA (aO h143)
    refine wp_seq (aA (sg (aE (aB (wr (aM results293 rfl ?_))))))
    have hent : eZ r.id (k : Int) es = eZ r.id (k : Int) (es.take i) := by rw [show i = es.length by omega, take_length]
    exact ⟨(fB (by unfold eW; rw [dV (fun hz => by have hz2 := (hz k aC).2 aC; omega)])), st141.bare⟩
   have h143p := inB_iff'.1 (bY h143)
   refine wp_skip (aA (rn st141 3 h139_ [7] [(7, I ((k : Int) + 1))] [qad (k : Int) 1] aD fun f147 h147_ => (aB ?_)))
   exact ⟨_, r.tasks.length - (k + 1), aC, rfl, k + 1, aC, (iQ aC hPr (fun _ => by omega) hT), rfl, (h147_.to aD), st141⟩
  have h121 := fL h121p
  have hif4d94 : k < r.tasks.length := aC
  obtain ⟨b149, o149, cs149, f149, hp149, hr149, hc149, hm149⟩ := idx h22_1 (i := k) hif4d94
  have hk150 := hc149
  obtain ⟨he150, rfl, hok150⟩ := hk150
  have he150 : _ = [I (r.tasks[k]'hif4d94).state, I (r.tasks[k]'hif4d94).need, I (r.tasks[k]'hif4d94).try_, I (r.tasks[k]'hif4d94).until_] := he150
  subst he150
  refine rd st33 h36_ [] [(98, .bool true)] [qb 0 rfl 7, qx hp149, qr hr149 0, qk h91, qk h121] aD aD fun f151 W152 h151_ st153 hb154 => (mV (h151_.at 98) rfl (wp_seq (aA (sg (aE (aB (wr (aM results293 rfl ?_))))))))
  have hent : eZ r.id (k : Int) es = eZ r.id (k : Int) (es.take i) := by rw [show i = es.length by omega, take_length]
  exact ⟨(fB (by unfold eW; rw [dV (fun hz => by have hz2 := (hz k aC).2 aC; omega)])), st153.bare⟩
 refine wp_exit (wp_seq (aA (sg (aE (aB (wr (aM results293 rfl ?_)))))))
 exact ⟨(fB (by unfold eW; rw [lX (fun j hj => hT j aC)])), st19.bare⟩
def cO (p : Plan) : Prop := ¬ (1 ≤ p.tasks ∧ p.tasks ≤ 12) ∨ 30 < p.edges.length ∨ ¬ (0 ≤ p.prio ∧ p.prio ≤ 9) ∨ ¬ (1 ≤ p.most ∧ p.most ≤ 5) ∨ ¬ (1 ≤ p.wait ∧ p.wait ≤ 20)
def jE (p : Plan) : Prop := ∃ t : Nat, t < p.tasks.toNat ∧ Rch p.edges (t : Int) (t : Int)
open Classical in
noncomputable def cJ (p : Plan) : Int :=
 if cO p then 1 else if ¬ EdgesIn p.tasks.toNat p.edges then 2 else if ¬ p.edges.Nodup then 3 else if jE p then 4 else 0
theorem pf1 {p : Plan} (h : cO p) : cJ p = 1 := by unfold cJ; rw [if_pos h]
theorem pf2 {p : Plan} (h : ¬ cO p) (h2 : ¬ EdgesIn p.tasks.toNat p.edges) : cJ p = 2 := by unfold cJ; rw [if_neg h, if_pos h2]
theorem pf3 {p : Plan} (h : ¬ cO p) (h2 : EdgesIn p.tasks.toNat p.edges) (h3 : ¬ p.edges.Nodup) : cJ p = 3 := by unfold cJ; rw [if_neg h, if_neg (not_not_intro h2), if_pos h3]
theorem pf4 {p : Plan} (h : ¬ cO p) (h2 : EdgesIn p.tasks.toNat p.edges) (h3 : p.edges.Nodup) (h4 : jE p) : cJ p = 4 := by unfold cJ; rw [if_neg h, if_neg (not_not_intro h2), if_neg (not_not_intro h3), if_pos h4]
theorem pf0 {p : Plan} (h : ¬ cO p) (h2 : EdgesIn p.tasks.toNat p.edges) (h3 : p.edges.Nodup) (h4 : ¬ jE p) : cJ p = 0 := by unfold cJ; rw [if_neg h, if_neg (not_not_intro h2), if_neg (not_not_intro h3), if_neg h4]
theorem vD {p : Plan} (h : cJ p = 0) : ¬ cO p ∧ EdgesIn p.tasks.toNat p.edges ∧ p.edges.Nodup ∧ ¬ jE p := by
 by_cases h1 : cO p
 ·rw [pf1 h1] at h; omega
 by_cases h2 : EdgesIn p.tasks.toNat p.edges
 ·by_cases h3 : p.edges.Nodup
  ·by_cases h4 : jE p
   ·rw [pf4 h1 h2 h3 h4] at h; omega
   exact ⟨h1, h2, h3, h4⟩
  rw [pf3 h1 h2 h3] at h; omega
 rw [pf2 h1 h2] at h; omega
theorem EdgesIn.nil {n : Nat} : EdgesIn n [] := fun e h => by cases h
theorem EdgesIn.step {n : Nat} {es : List Edge} {k : Nat} (h : EdgesIn n (es.take k)) (hk : k < es.length) (h1 : (0 ≤ es[k].from_ ∧ es[k].from_ < n) ∧ (0 ≤ es[k].to_ ∧ es[k].to_ < n)) : EdgesIn n (es.take (k + 1)) := by
 intro e he
 rw [take_succ_eq_append_getElem hk] at he
 rcases mem_append.1 he with he | he
 ·exact h e he
 simp at he; subst he; exact h1
theorem EdgesIn.at {n : Nat} {es : List Edge} (h : EdgesIn n es) {k : Nat} (hk : k < es.length) : (0 ≤ es[k].from_ ∧ es[k].from_ < n) ∧ (0 ≤ es[k].to_ ∧ es[k].to_ < n) := h _ (getElem_mem hk)
theorem vH {α : Type} {xs : List α} {k : Nat} (h : (xs.take k).Nodup) (hk : k < xs.length) (hn : xs[k] ∉ xs.take k) : (xs.take (k + 1)).Nodup := by
 rw [take_succ_eq_append_getElem hk, nodup_append]
 exact ⟨h, by simp, fun a ha b hb => by simp at hb; subst hb; exact fun e => hn (e ▸ ha)⟩
theorem qK {α : Type} {xs : List α} {k : Nat} (hk : k < xs.length) (hm : xs[k] ∈ xs.take k) : ¬ xs.Nodup := by
 intro h
 have h2 : (xs.take (k + 1)).Nodup := h.sublist (take_sublist _ _)
 rw [take_succ_eq_append_getElem hk, nodup_append] at h2
 exact h2.2.2 _ hm _ (by simp) rfl
theorem not_mem_take_step {α : Type} {xs : List α} {y : α} {k : Nat} (hk : k < xs.length) (h : y ∉ xs.take k) (hn : ¬ y = xs[k]) : y ∉ xs.take (k + 1) := by
 rw [take_succ_eq_append_getElem hk, mem_append]
 rintro (h1 | h1)
 ·exact h h1
 simp at h1; exact hn h1
theorem tH {α : Type} {xs : List α} {i k : Nat} (hi : i < xs.length) (h : i < k) : xs[i] ∈ xs.take k := by
 rw [mem_take_iff_getElem]
 exact ⟨i, by omega, rfl⟩
/-! ### The sets, as numbers -/
theorem relax_snoc (es : List Edge) (m : List Nat) (k : Nat) (hk : k < es.length) : fS (es.take (k + 1)) m = fT (fS (es.take k) m) es[k] := by
 unfold fS
 rw [take_succ_eq_append_getElem hk, foldl_append]; rfl
theorem relax1_bd {m : List Nat} {e : Edge} (h : ∀ x ∈ m, x < 4294967296) (he : 0 ≤ e.to_ ∧ e.to_ < 32) : ∀ x ∈ fT m e, x < 4294967296 := by
 intro x hx
 unfold fT at hx
 rcases mem_or_eq_of_mem_set hx with hx | rfl
 ·exact h x hx
 have hd : ∀ i, m.getD i 0 < 2 ^ 32 := by
  intro i
  rw [getD_eq_getElem?_getD]
  cases hi : m[i]? with
  | none => simp
  | some y => simpa using h y (mem_of_getElem? hi)
 have h1 : 1 <<< e.to_.toNat < 2 ^ 32 := by
  rw [Nat.one_shiftLeft]
  exact Nat.pow_lt_pow_right aC aC
 exact Nat.or_lt_two_pow (hd _) (Nat.or_lt_two_pow h1 (hd _))
theorem uU {n : Nat} (hn : n ≤ 32) : ∀ {es : List Edge} {m : List Nat}, EdgesIn n es → (∀ x ∈ m, x < 4294967296) → ∀ x ∈ fS es m, x < 4294967296
 | [], m, _, h => h
 | e :: es, m, hi, h => by
  refine uU hn (es := es) (m := fT m e) (fun x hx => hi x (by simp [hx])) (relax1_bd h ?_)
  have := hi e (by simp)
  omega
theorem xI {n : Nat} (hn : n ≤ 32) {es : List Edge} (hi : EdgesIn n es) (k : Nat) : ∀ x ∈ cW es (List.replicate n 0) k, x < 4294967296 := by
 induction k with
 | zero => intro x hx; simp [cW, mem_replicate] at hx; omega
 | succ k ih => exact uU hn hi ih
theorem castL_relax1 {m : List Nat} {e : Edge} (hf : 0 ≤ e.from_) (h1 : e.from_.toNat < (dE m).length) (h2 : e.to_.toNat < (dE m).length) :
  (dE m).set e.from_.toNat (orI ((dE m)[e.from_.toNat]'h1) (orI (yP e.to_) ((dE m)[e.to_.toNat]'h2))) = dE (fT m e) := by
 unfold fT
 rw [← castL_set]
 congr 1
 unfold orI yP
 rw [wA h1]
 simp only [Int.toNat_natCast]
 rw [wA h2]
theorem wT {n : Nat} {es : List Edge} (hi : EdgesIn n es) {t : Nat} (ht : t < n) (h : t < (dE (cW es (List.replicate n 0) n)).length) : andI (aC9 ((dE (cW es (List.replicate n 0) n))[t]'h) (t : Int)) 1 = 1 ↔ Rch es (t : Int) (t : Int) := by
 rw [andI_one, wA h]
 have hw := waits_iff hi (a := (t : Int)) (b := (t : Int)) aC aC
 unfold jZ at hw
 rw [← hw, Int.toNat_natCast]
 split <;> simp_all
def cV (l : List Int) : List Int := l.mergeSort (fun x y => decide (x ≤ y))
theorem lR (l : List Int) : (cV l).Perm l := mergeSort_perm l _
theorem sortI_le (l : List Int) : (cV l).Pairwise (fun x y => x ≤ y) := by
 have h := pairwise_mergeSort (le := fun x y : Int => decide (x ≤ y)) (fun a b c h1 h2 => by simp only [decide_eq_true_eq] at *; omega) (fun a b => by simp only [Bool.or_eq_true, decide_eq_true_eq]; omega) l
 exact h.imp (fun h => by simpa using h)
theorem rS (l : List Int) : (cV l).length = l.length := (lR l).length_eq
theorem sortI_eq {l l' : List Int} (hp : l.Perm l') (hs : l.Pairwise (fun x y => x ≤ y)) : l = cV l' :=
 List.Perm.eq_of_pairwise (le := fun x y => x ≤ y) (fun a b _ _ h1 h2 => by omega) hs (sortI_le l') (hp.trans (lR l').symm)
def eP (l : List Int) (n : Nat) : List Int := (List.range n).flatMap (fun t : Nat => l.filter (fun x => decide (x = (t : Int))))
theorem filter_or {α : Type} (p q r : α → Bool) (l : List α) (h : ∀ x, r x = (p x || q x)) (hd : ∀ x, p x = true → q x = true → False) : (l.filter p ++ l.filter q).Perm (l.filter r) := by
 induction l with
 | nil => simp
 | cons x l ih =>
  cases hp : p x with
  | true =>
   have hq : q x = false := by cases hq : q x with | true => exact (hd x hp hq).elim | false => rfl
   have hr : r x = true := by rw [h, hp]; rfl
   simp only [filter_cons, hp, hq, hr, if_true, Bool.false_eq_true, if_false, cons_append]
   exact List.Perm.cons _ ih
  | false =>
   cases hq : q x with
   | true =>
    have hr : r x = true := by rw [h, hp, hq]; rfl
    simp only [filter_cons, hp, hq, hr, if_true, Bool.false_eq_true, if_false]
    exact (perm_middle).trans (List.Perm.cons _ ih)
   | false =>
    have hr : r x = false := by rw [h, hp, hq]; rfl
    simp only [filter_cons, hp, hq, hr, Bool.false_eq_true, if_false]
    exact ih
theorem nL (l : List Int) : ∀ n : Nat, (eP l n).Perm (l.filter (fun x => decide (0 ≤ x) && decide (x < (n : Int))))
 | 0 => by
  have : l.filter (fun x => decide (0 ≤ x) && decide (x < ((0 : Nat) : Int))) = [] := by
   rw [filter_eq_nil_iff]
   intro x _; simp
  rw [this]
  exact List.Perm.refl _
 | n + 1 => by
  have ih := nL l n
  have hb : eP l (n + 1) = eP l n ++ l.filter (fun x => decide (x = (n : Int))) := by simp [eP, range_succ, flatMap_append]
  rw [hb]
  refine (ih.append_right _).trans (filter_or _ _ _ l (fun x => ?_) (fun x h1 h2 => ?_))
  ·rw [Bool.eq_iff_iff]; simp; omega
  simp at h1 h2; omega
theorem yK (l : List Int) : ∀ n : Nat, (eP l n).Pairwise (fun x y => x ≤ y) ∧ ∀ x ∈ eP l n, x < (n : Int)
 | 0 => by simp [eP]
 | n + 1 => by
  have ih := yK l n
  have hb : eP l (n + 1) = eP l n ++ l.filter (fun x => decide (x = (n : Int))) := by simp [eP, range_succ, flatMap_append]
  rw [hb]
  have hf : ∀ x ∈ l.filter (fun x => decide (x = (n : Int))), x = (n : Int) := fun x hx => by simpa using (mem_filter.1 hx).2
  refine ⟨?_, ?_⟩
  ·rw [pairwise_append]
   refine ⟨ih.1, ?_, ?_⟩
   ·rw [pairwise_iff_forall_sublist]
    intro a b hs
    have h1 := hf a (hs.subset (by simp))
    have h2 := hf b (hs.subset (by simp))
    omega
   intro a ha b hb
   have h1 := ih.2 a ha
   have h2 := hf b hb
   omega
  intro x hx
  rcases mem_append.1 hx with h | h
  ·have := ih.2 x h; omega
  have := hf x h; omega
theorem byTurn_eq {l : List Int} {n : Nat} (h : ∀ x ∈ l, 0 ≤ x ∧ x < (n : Int)) : eP l n = cV l := by
 refine sortI_eq ?_ (yK l n).1
 have hp := nL l n
 rwa [filter_eq_self.2 (fun x hx => by have := h x hx; simp; omega)] at hp
def cH (es : List Edge) (task : Int) : List Int := (es.filter (fun e => decide (e.to_ = task))).map (·.from_)
noncomputable def bH (p : Plan) (task : Int) : List Int := if cJ p = 0 then cV (cH p.edges task) else []
theorem sJ (es : List Edge) (task : Int) : (cH es task).length ≤ es.length := by
 unfold cH; rw [length_map]; exact length_filter_le _ _
theorem mG {es : List Edge} {task : Int} {k : Nat} (hk : k < es.length) (h : es[k].to_ = task) : cH (es.take (k + 1)) task = cH (es.take k) task ++ [es[k].from_] := by
 rw [take_succ_eq_append_getElem hk, cH, filter_append, map_append]; simp [cH, h]
theorem qX {es : List Edge} {task : Int} {k : Nat} (hk : k < es.length) (h : ¬ es[k].to_ = task) : cH (es.take (k + 1)) task = cH (es.take k) task := by
 rw [take_succ_eq_append_getElem hk, cH, filter_append, map_append]; simp [cH, h]
theorem xV {n : Nat} {es : List Edge} (hi : EdgesIn n es) (task : Int) : ∀ x ∈ cH es task, 0 ≤ x ∧ x < (n : Int) := by
 intro x hx
 simp only [cH, mem_map, mem_filter] at hx
 obtain ⟨e, ⟨he, _⟩, rfl⟩ := hx
 exact (hi e he).1
def lB (es : List Edge) (task : Int) (t : Int) : List Int := (cH es task).filter (fun x => decide (x = t))
theorem tK (l : List Int) (n : Nat) : eP l (n + 1) = eP l n ++ l.filter (fun x => decide (x = (n : Int))) := by simp [eP, range_succ, flatMap_append]
theorem byTurn_len_le (l : List Int) (n : Nat) : (eP l n).length ≤ l.length := by
 rw [(nL l n).length_eq]; exact length_filter_le _ _
theorem onesF_step_t {es : List Edge} {task t : Int} {k : Nat} (hk : k < es.length) (h : es[k].from_ = t ∧ es[k].to_ = task) : lB (es.take (k + 1)) task t = lB (es.take k) task t ++ [t] := by
 unfold lB; rw [mG hk h.2]; simp [filter_append, h.1]
theorem qJ {es : List Edge} {task t : Int} {k : Nat} (hk : k < es.length) (h : ¬ (es[k].from_ = t ∧ es[k].to_ = task)) : lB (es.take (k + 1)) task t = lB (es.take k) task t := by
 unfold lB
 by_cases h2 : es[k].to_ = task
 ·rw [mG hk h2]
  have : ¬ es[k].from_ = t := fun e => h ⟨e, h2⟩
  simp [filter_append, this]
 rw [qX hk h2]
theorem onesF_len (es : List Edge) (task t : Int) (k n : Nat) : (eP (cH es task) n ++ lB (es.take k) task (n : Int)).length ≤ es.length := by
 have h1 := byTurn_len_le (cH es task) (n + 1)
 rw [tK, length_append] at h1
 have h2 : (lB (es.take k) task (n : Int)).length ≤ (lB es task (n : Int)).length := by
  unfold lB cH
  exact List.Sublist.length_le (List.Sublist.filter _ (List.Sublist.map _ (List.Sublist.filter _ (take_sublist k es))))
 have h3 := sJ es task
 rw [length_append]
 unfold lB at h2 ⊢
 omega
theorem wD (p : Plan) (task : Int) : ∀ x ∈ bH p task, 0 ≤ x ∧ x < p.tasks := by
 intro x hx
 unfold bH at hx
 split at hx
 ·rename_i h
  obtain ⟨h1, h2, _⟩ := vD h
  have := xV h2 task x ((lR _).mem_iff.1 hx)
  unfold cO at h1
  omega
 cases hx
theorem mM (p : Plan) (task : Int) : (bH p task).length ≤ 30 := by
 unfold bH
 split
 ·rename_i h
  obtain ⟨h1, _⟩ := vD h
  rw [rS]
  have := sJ p.edges task
  unfold cO at h1
  omega
 simp
theorem I64_rng {a : Int} (h : 0 ≤ a ∧ a < 4294967296) : I64 a := by unfold I64; omega
theorem aI4 {out : List Bool} {i : Nat} (h : i < out.length) : out.getD i false = out[i] := by simp [List.getD, h]
section
variable {es : List Edge} {n : Nat} {t : Int} {q : List Int} {out : List Bool} {h i : Nat}
theorem BInv.skip1 (b : BInv es n t q out h i) (hin : EdgesIn n es) (hi : i < es.length) (hh : h < q.length) (hne : ¬ es[i].from_ = q[h]) : BInv es n t q out h (i + 1) :=
 b.skip hin (getElem?_eq_getElem hi) (getElem?_eq_getElem hh) (fun hc => hne hc.1)
theorem BInv.skip2 (b : BInv es n t q out h i) (hin : EdgesIn n es) (hi : i < es.length) (hh : h < q.length) (hl : es[i].to_.toNat < out.length) (ho : (!out[es[i].to_.toNat]) = false) : BInv es n t q out h (i + 1) :=
 b.skip hin (getElem?_eq_getElem hi) (getElem?_eq_getElem hh) (fun hc => by have := hc.2; rw [aI4 hl] at this; rw [this] at ho; cases ho)
theorem BInv.add1 (b : BInv es n t q out h i) (hin : EdgesIn n es) (hi : i < es.length) (hh : h < q.length) (hf : es[i].from_ = q[h]) (hl : es[i].to_.toNat < out.length) (ho : (!out[es[i].to_.toNat]) = true) : BInv es n t (q ++ [es[i].to_]) (out.set es[i].to_.toNat true) h (i + 1) :=
 b.add hin (getElem?_eq_getElem hi) (getElem?_eq_getElem hh) hf (by rw [aI4 hl]; simpa using ho)
end
theorem fromOf_len (es : List Edge) (n : Nat) (t : Int) : (mH es n t).length = n := by simp [mH]
theorem xW {es : List Edge} {n : Nat} {t : Int} {k : Nat} (h : k < (mH es n t).length) : (mH es n t)[k] = pB (Rch es t (k : Int)) := by simp [mH]
theorem pM {p : Plan} (h : ¬ cO p) : (1 ≤ p.tasks ∧ p.tasks ≤ 12) ∧ p.edges.length ≤ 30 := by unfold cO at h; omega

theorem IndexE {v : Value} {xs : List Edge} {fp : List Nat} (h : Sl w v xs fp) {ds : List Value} {y : Edge} {gp : List Nat} (hd : Shape.C w ds y gp) :
  Calls prog 405 #[v, .agg ds.toArray] w (rI_ (ixI (gW (fun x => eqB y x) xs)) w) := by
 have hcap := h.len_le
 refine bC func405 rfl ntmps405 aU (wp_seq (aA (sg (aH (cs := ds) rfl (St.start w) ?_)))); intro b1 W2 hb3 st4
 refine sg (aE (aB (wp_seq (wp_seq (aA (rn st4 3 Ag.nil.put.put.put.put [] [(7, I (xs.length : Int)), (8, I 0)] [ql h] aD fun f9 h9_ => (aB (wp_block (aQ (fun (m : Nat) (f : Nat → Value) (W : World) => ∃ (k : Nat), k ≤ xs.length ∧ (xs.take k).any (fun x => eqB y x) = false ∧ m = xs.length - k ∧ Ag [(0, v), (3, pt_ b1), (7, I (xs.length : Int)), (8, I (k : Int))] f ∧ St w W ([Res.bx b1 ds 239])) (xs.length - 0) ?_ ?_)))))))))
 ·exact ⟨0, Nat.zero_le _, rfl, rfl, (h9_.to aD), st4⟩
 intro m10 f11 W12 hJ13
 obtain ⟨k, hk, hany, rfl, hA15, st14⟩ := hJ13
 refine wp_seq (aA (sg (bA (hA15.at 8) (hA15.at 7) (aB (wp_seq (aK rfl (fun h18p => ?_) (fun h18p => ?_)))))))
 ·refine wp_skip (wp_seq (wp_block (wp_seq (aA (sg (aG (hA15.at 8) (sg (aF (v := I (k : Int)) rfl (aB (wp_seq ?_))))))))))
  have hi51fab : k < xs.length := aC
  obtain ⟨b22, o22, cs22, f22, hp22, hr22, hc22, hm22⟩ := idx h (i := k) hi51fab
  have hk23 := hc22
  obtain ⟨he23, rfl, hok23⟩ := hk23
  have he23 : _ = [I (xs[k]'hi51fab).from_, I (xs[k]'hi51fab).to_] := he23
  subst he23
  refine rk 5 st14 hA15.put.put.put [] [(11, .agg ds.toArray), (15, .agg #[I (xs[k]'hi51fab).from_, I (xs[k]'hi51fab).to_])] [qw 0 rfl (Shape.len hd), qx hp22, qr hr22 0] aD aD fun f24 W25 h24_ st26 hb27 => ?_
  have hk28 := hd
  obtain ⟨he28, rfl, hok28⟩ := hk28
  have he28 : _ = [I y.from_, I y.to_] := he28
  subst he28
  refine sg (uJ (aH0 y (xs[k]'hi51fab)) aI9 (h24_.at 11) (h24_.at 15) (aB (cF rfl (fun h29 => ?_) (fun h29 => ?_))))
  ·refine wp_seq (aA (sg (aG (h24_.at 5) (sg (aF (v := I (k : Int)) rfl (aB (wr (aM results405 rfl ?_))))))))
   exact ⟨(fI (by rw [lD aC hany h29]; try rfl)), st26.bare⟩
  refine wp_skip (aA (sg (bW (h24_.at 8) rfl eI (sg (aG (v := I ((k : Int) + 1)) rfl (aB ?_))))))
  exact ⟨_, xs.length - (k + 1), aC, rfl, k + 1, aC, (wH aC hany h29), rfl, (h24_.put.put.put.to aD), st26⟩
 refine wp_exit (wp_seq (aA (sg (aE (aB (wr (aM results405 rfl ?_)))))))
 obtain rfl : k = xs.length := by omega
 rw [take_length] at hany
 exact ⟨(fI (by rw [lE hany]; try rfl)), st14.bare⟩
theorem ContE {v : Value} {xs : List Edge} {fp : List Nat} (h : Sl w v xs fp) {ds : List Value} {y : Edge} {gp : List Nat} (hd : Shape.C w ds y gp) :
  Calls prog 377 #[v, .agg ds.toArray] w (rB_ (decide (y ∈ xs)) w) := by
 refine bC func377 rfl ntmps377 aU (wp_seq (aA (sg (aH (cs := ds) rfl (St.start w) ?_)))); intro b1 W2 hb3 st4
 refine sg (aE (aB (wp_seq (aA (rc st4 5 Ag.nil.put.put.put.put [4] [(4, .bool (decide (0 ≤ (ixI (gW (fun x => eqB y x) xs)))))] [qw 0 rfl (Shape.len hd), qc func405 rfl (fun W s b => IndexE W (h.below s.below) hd), .o] aD fun f9 W10 h9_ st11 hb12 => (aB (wr (aM results377 (h9_.at 4) ?_))))))))
 exact ⟨(fB (aN5 y xs)), st11.bare⟩
theorem WaitsI {p : Plan} (hc : Shape.C w cs p fp) (hn : 1 ≤ p.tasks ∧ p.tasks ≤ 12) (hl : p.edges.length ≤ 30) (hi : EdgesIn p.tasks.toNat p.edges) :
  Calls prog 378 #[.agg cs.toArray] w (rS_ (dE (cW p.edges (List.replicate p.tasks.toNat 0) p.tasks.toNat)) w) := by
 refine cC func378 rfl ntmps378 aU (wp_seq (aA (sg (aH (cs := cs) rfl (St.start w) ?_)))); intro b1 W2 hb3 st4
 refine sg (aF (v := .slice none 0 0) rfl (aB (wp_seq (aA ?_))))
 have hk9 := hc
 obtain ⟨v9_0, g9_0, rfl, hok9, h9_0, rfl⟩ := hk9
 refine sg (aL xZ rfl (sg (bI mB rfl rfl (st4.get 0 rfl) (i := 3) rfl rfl ?_)))
 have hNI : I p.tasks = I ((p.tasks.toNat : Nat) : Int) := congrArg I (Int.toNat_of_nonneg aC).symm
 refine sg (xA (α := Int) (N := p.tasks.toNat) (v := I 0) (z := 0) fG aD ((show _ = I p.tasks from rfl).trans hNI) ((show _ = I p.tasks from rfl).trans hNI) aC aC st4 (fun W => ⟨rfl, rfl, by unfold I64; omega⟩) ?_); intro b11 fp15 W12 hb13 st14
 refine sg (aF (v := (.slice (some ⟨b11, 0, none⟩) p.tasks.toNat p.tasks.toNat)) rfl (aB (wp_seq (wp_seq (aA (rn st14 3 (Ag.up (t := 7) (v := I (p.tasks.toNat : Int)) ((show _ = I p.tasks from rfl).trans hNI) Ag.nil.put.put.put.put.put.put.put) [] [(10, I p.tasks), (11, I 0)] [qb 1 rfl 3] aD fun f20 h20_ => (aB (wp_block (aQ (fun (m : Nat) (f : Nat → Value) (W : World) => ∃ (k : Nat) (fo21 : List Nat), k ≤ p.tasks.toNat ∧ m = p.tasks.toNat - k ∧ Ag [(1, pt_ b1), (3, (.slice (some ⟨b11, 0, none⟩) p.tasks.toNat p.tasks.toNat)), (10, I p.tasks), (11, I (k : Int))] f ∧ St w W ([Res.own (α := List Int) (.slice (some ⟨b11, 0, none⟩) p.tasks.toNat p.tasks.toNat) (dE (cW p.edges (List.replicate p.tasks.toNat 0) k)) fo21, Res.bx b1 [I p.prio, I p.most, I p.wait, I p.tasks, v9_0] 52])) (p.tasks.toNat - 0) ?_ ?_)))))))))
 ·exact ⟨0, fp15, (by first | omega | simp), rfl, (h20_.to aD), (by have hz := st14; rw [castL_rep] at hz; exact hz)⟩
 intro m22 f23 W24 hJ25
 obtain ⟨k, fo21, hcd27_0, rfl, hA27, st26⟩ := hJ25
 refine wp_seq (aA (sg (bA (hA27.at 11) (hA27.at 10) (aB (wp_seq (aK rfl (fun h30p => ?_) (fun h30p => ?_)))))))
 ·refine wp_skip (wp_seq (wp_block (wp_seq (aA (rn st26 4 hA27.put [] [(14, v9_0), (15, I (p.edges.length : Int)), (16, I 0)] [qb 1 rfl 4, ql h9_0] aD fun f32 h32_ => (aB (wp_block (aQ (fun (m : Nat) (f : Nat → Value) (W : World) => ∃ (i : Nat) (fo33 : List Nat), i ≤ p.edges.length ∧ m = p.edges.length - i ∧ Ag [(1, pt_ b1), (3, (.slice (some ⟨b11, 0, none⟩) p.tasks.toNat p.tasks.toNat)), (10, I p.tasks), (11, I (k : Int)), (14, v9_0), (15, I (p.edges.length : Int)), (16, I (i : Int))] f ∧ St w W ([Res.own (α := List Int) (.slice (some ⟨b11, 0, none⟩) p.tasks.toNat p.tasks.toNat) (dE (fS (p.edges.take i) (cW p.edges (List.replicate p.tasks.toNat 0) k))) fo33, Res.bx b1 [I p.prio, I p.most, I p.wait, I p.tasks, v9_0] 52])) (p.edges.length - 0) ?_ ?_))))))))
  ·exact ⟨0, fo21, (by first | omega | simp), rfl, (h32_.to aD), st26⟩
  intro m34 f35 W36 hJ37
  obtain ⟨i, fo33, hcd39_0, rfl, hA39, st38⟩ := hJ37
  refine wp_seq (aA (sg (bA (hA39.at 16) (hA39.at 15) (aB (wp_seq (aK rfl (fun h42p => ?_) (fun h42p => ?_)))))))
  ·refine wp_skip (wp_seq (wp_block (wp_seq (aA ?_))))
   have hi99fa3 : i < p.edges.length := aC
   obtain ⟨b43, o43, cs43, f43, hp43, hr43, hc43, hm43⟩ := idx h9_0 (i := i) hi99fa3
   refine sg (aY kX (hA39.at 14) hp43 (hA39.at 16) rfl (sg (dX gR rfl rfl hr43 st38.below (Shape.len hc43) (sg (aT lL st38 ?_))))); intro b46 W47 hb48 st49
   refine sgn (bR (cs := cs43) gR hc43 rfl rfl st49 rfl ?_); intro W51 st52
   refine aB ?_
   have hk53 := hc43
   obtain ⟨he53, rfl, hok53⟩ := hk53
   have he53 : _ = [I (p.edges[i]'hi99fa3).from_, I (p.edges[i]'hi99fa3).to_] := he53
   subst he53
   have hea := hi.at (k := i) aC
   have hxl : (dE (fS (p.edges.take i) (cW p.edges (List.replicate p.tasks.toNat 0) k))).length = p.tasks.toNat := by rw [yJ, rY, iA, length_replicate]
   have hbd := uU (n := p.tasks.toNat) aC (es := p.edges.take i) (fun e he => hi e (mem_of_mem_take he)) (xI aC hi k)
   have hi3a21e : ((p.edges[i]'hi99fa3).from_).toNat < (dE (fS (p.edges.take i) (cW p.edges (List.replicate p.tasks.toNat 0) k))).length := aC
   obtain ⟨b54, o54, cs54, f54, hp54, hr54, hc54, hm54⟩ := idx (aR (st52.get 1 rfl)) (i := ((p.edges[i]'hi99fa3).from_).toNat) hi3a21e
   have hk54 := hc54
   obtain ⟨rfl, rfl, hok54⟩ := hk54
   have hid0fd1 : ((p.edges[i]'hi99fa3).to_).toNat < (dE (fS (p.edges.take i) (cW p.edges (List.replicate p.tasks.toNat 0) k))).length := aC
   obtain ⟨b55, o55, cs55, f55, hp55, hr55, hc55, hm55⟩ := idx (aR (st52.get 1 rfl)) (i := ((p.edges[i]'hi99fa3).to_).toNat) hid0fd1
   have hk55 := hc55
   obtain ⟨rfl, rfl, hok55⟩ := hk55
   refine iH 14 [] [(true, .is ((.slice (some ⟨b11, 0, none⟩) p.tasks.toNat p.tasks.toNat))), (true, .is (.pointer (some ⟨b46, 0 + 0, none⟩))), (true, .is (I (p.edges[i]'hi99fa3).from_)), (true, .is (.pointer (some ⟨b54, o54, none⟩))), (true, .is (I ((dE (fS (p.edges.take i) (cW p.edges (List.replicate p.tasks.toNat 0) k)))[((p.edges[i]'hi99fa3).from_).toNat]'hi3a21e))), (true, .is (.pointer (some ⟨b46, 0 + 1, none⟩))), (true, .is (I (p.edges[i]'hi99fa3).to_)), (true, .is (I (yP (p.edges[i]'hi99fa3).to_))), (true, .is ((.slice (some ⟨b11, 0, none⟩) p.tasks.toNat p.tasks.toNat))), (true, .is (.pointer (some ⟨b46, 0 + 1, none⟩))), (true, .is (I (p.edges[i]'hi99fa3).to_)), (true, .is (.pointer (some ⟨b55, o55, none⟩))), (true, .is (I ((dE (fS (p.edges.take i) (cW p.edges (List.replicate p.tasks.toNat 0) k)))[((p.edges[i]'hi99fa3).to_).toNat]'hid0fd1))), (true, .is (I (orI (yP (p.edges[i]'hi99fa3).to_) ((dE (fS (p.edges.take i) (cW p.edges (List.replicate p.tasks.toNat 0) k)))[((p.edges[i]'hi99fa3).to_).toNat]'hid0fd1))))] mix aD aD aD aD (rs0 := []) rfl st52 (Below.refl _ _) ⟨(mq_ (hA39.at 3)), (fq_ yA (show _ = (pt_ b46 : Value) from rfl)), (fun f W hst hbl hd hf => bI mB rfl (hd 1 21 rfl rfl) (hst.get 0 rfl) (i := 0) rfl rfl brq), (fun f W hst hbl hd hf => aY jC (hd 0 20 rfl rfl) hp54 (hd 2 22 rfl rfl) aC brq), (fun f W hst hbl hd hf => kI mB rfl (hd 3 23 rfl rfl) hr54 hbl (i := 0) rfl rfl brq), (fq_ sM (show _ = (pt_ b46 : Value) from rfl)), (fun f W hst hbl hd hf => bI mB rfl (hd 5 25 rfl rfl) (hst.get 0 rfl) (i := 1) rfl rfl brq), (fun f W hst hbl hd hf => stp_shlI rfl (hd 6 26 rfl rfl) aC brq), (mq_ (hA39.at 3)), (fq_ sM (show _ = (pt_ b46 : Value) from rfl)), (fun f W hst hbl hd hf => bI mB rfl (hd 9 29 rfl rfl) (hst.get 0 rfl) (i := 1) rfl rfl brq), (fun f W hst hbl hd hf => aY jC (hd 8 28 rfl rfl) hp55 (hd 10 30 rfl rfl) aC brq), (fun f W hst hbl hd hf => kI mB rfl (hd 11 31 rfl rfl) hr55 hbl (i := 0) rfl rfl brq), (fun f W hst hbl hd hf => aG5 (hd 7 27 rfl rfl) (hd 12 32 rfl rfl) (uM aC) (iD hbd _ _) brq), trivial⟩ ?_
   intro f56 W57 rs_ hAL_ st60 hbl61 hv58 hf59
   have hn_ : rs_ = [] := hAL_
   subst hn_
   try simp only [iU, iS] at st60
   refine sg (aG5 (hv58 4 24 aU rfl) (hv58 13 33 aU rfl) (iD hbd _ _) (yU (uM aC) (iD hbd _ _)) ?_)
   have hi3a21e : ((p.edges[i]'hi99fa3).from_).toNat < (dE (fS (p.edges.take i) (cW p.edges (List.replicate p.tasks.toNat 0) k))).length := aC
   obtain ⟨b63, o63, cs63, f63, hp63, hr63, hc63, hm63⟩ := idx (aR (st60.get 1 rfl)) (i := ((p.edges[i]'hi99fa3).from_).toNat) hi3a21e
   have hk63 := hc63
   obtain ⟨rfl, rfl, hok63⟩ := hk63
   refine sg (aY jC (hv58 0 20 aU rfl) hp63 (hv58 2 22 aU rfl) aC ?_)
   have st66 := st60.f1
   refine sgn (rP (α := Int) (z := orI ((dE (fS (p.edges.take i) (cW p.edges (List.replicate p.tasks.toNat 0) k)))[((p.edges[i]'hi99fa3).from_).toNat]'hi3a21e) (orI (yP (p.edges[i]'hi99fa3).to_) ((dE (fS (p.edges.take i) (cW p.edges (List.replicate p.tasks.toNat 0) k)))[((p.edges[i]'hi99fa3).to_).toNat]'hid0fd1))) rfl aD rfl hp63 hi3a21e rfl rfl rfl st66 (fun W => ⟨rfl, rfl, (I64_rng (yU (iD hbd _ _) (yU (uM aC) (iD hbd _ _))))⟩) ?_); intro fp67 W68 st69
   refine aB (aA (sg (bW ((hf59 16 rfl).trans (hA39.at 16)) rfl eI (sg (aG (v := I ((i : Int) + 1)) rfl (aB ?_))))))
   exact ⟨_, p.edges.length - (i + 1), aC, rfl, i + 1, fp67, aC, rfl, (Ag.cons ((hf59 1 rfl).trans (hA39.at 1)) (Ag.cons ((hf59 3 rfl).trans (hA39.at 3)) (Ag.cons ((hf59 10 rfl).trans (hA39.at 10)) (Ag.cons ((hf59 11 rfl).trans (hA39.at 11)) (Ag.cons ((hf59 14 rfl).trans (hA39.at 14)) (Ag.cons ((hf59 15 rfl).trans (hA39.at 15)) (Ag.cons rfl Ag.nil))))))), (by rw [relax_snoc _ _ _ aC, ← castL_relax1 (m := (fS (p.edges.take i) (cW p.edges (List.replicate p.tasks.toNat 0) k))) (e := p.edges[i]) aC aC aC]; exact st69.f2.f1.d2)⟩
  refine wp_exit (aA (sg (bW (hA39.at 11) rfl eI (sg (aG (v := I ((k : Int) + 1)) rfl (aB ?_))))))
  exact ⟨_, p.tasks.toNat - (k + 1), aC, rfl, k + 1, fo33, aC, rfl, (hA39.put.put.put.to aD), (by rw [show cW p.edges (List.replicate p.tasks.toNat 0) (k + 1) = fS (p.edges.take i) (cW p.edges (List.replicate p.tasks.toNat 0) k) from by rw [show i = p.edges.length by omega, take_length]; rfl]; exact st38)⟩
 refine wp_exit (wp_seq (aA (sg (aG (hA27.at 3) (sg (aF (v := (.slice (some ⟨b11, 0, none⟩) p.tasks.toNat p.tasks.toNat)) rfl (aB (wr (aM results378 rfl ?_)))))))))
 obtain rfl : k = p.tasks.toNat := by omega
 exact ⟨_, _, rfl, st26.only 0 rfl⟩
theorem FromS {p : Plan} (hc : Shape.C w cs p fp) (t : Int) (hn : 1 ≤ p.tasks ∧ p.tasks ≤ 12) (hl : p.edges.length ≤ 30) (hi : EdgesIn p.tasks.toNat p.edges) (ht : 0 ≤ t ∧ t < p.tasks) :
  Calls prog 385 #[.agg cs.toArray, I t] w (rS_ (mH p.edges p.tasks.toNat t) w) := by
 refine bC func385 rfl ntmps385 aU (wp_seq (aA (sg (aH (cs := cs) rfl (St.start w) ?_)))); intro b1 W2 hb3 st4
 refine sg (aF (v := .slice none 0 0) rfl (aB (wp_seq (aA ?_))))
 have hk9 := hc
 obtain ⟨v9_0, g9_0, rfl, hok9, h9_0, rfl⟩ := hk9
 refine sg (aL xZ rfl (sg (bI mB rfl rfl (st4.get 0 rfl) (i := 3) rfl rfl ?_)))
 have hNI : I p.tasks = I ((p.tasks.toNat : Nat) : Int) := congrArg I (Int.toNat_of_nonneg aC).symm
 refine sg (xA (α := Bool) (N := p.tasks.toNat) (v := .bool false) (z := false) ap_boolS aD ((show _ = I p.tasks from rfl).trans hNI) ((show _ = I p.tasks from rfl).trans hNI) aC aC st4 (fun W => ⟨rfl, rfl, trivial⟩) ?_); intro b11 fp15 W12 hb13 st14
 refine sg (aF (v := (.slice (some ⟨b11, 0, none⟩) p.tasks.toNat p.tasks.toNat)) rfl (aB (wp_seq (aA (sg (aG (v := I t) rfl (sg (aZ (cs := [I t]) (e := 3) (eS (v := I t) rfl jD) (bT fG _ _ rfl rfl aU) st14 ?_)))))))); intro b21 W22 hb23 st24
 refine sg (aF (v := .slice (some ⟨b21, 0, none⟩) 1 1) rfl (aB (wp_seq (wp_seq (aA (sg (aE (aB (wp_block ?_)))))))))
 have st30 := St.row_lit (α := Int) (ys := [t]) st24 rfl bX (Elems.ic eI Elems.i0)
 refine aQ (fun (m : Nat) (f : Nat → Value) (W : World) => ∃ (q : List Int) (out : List Bool) (h : Nat) (v31 : Value) (fo32 : List Nat), BInv p.edges p.tasks.toNat t q out h 0 ∧ h ≤ q.length ∧ m = p.tasks.toNat + 2 - h ∧ Ag [(2, pt_ b1), (5, (.slice (some ⟨b11, 0, none⟩) p.tasks.toNat p.tasks.toNat)), (6, v31), (7, I (h : Int))] f ∧ St w W ([Res.row (α := Int) 3 v31 q [], Res.own (α := List Bool) (.slice (some ⟨b11, 0, none⟩) p.tasks.toNat p.tasks.toNat) out fo32, Res.bx b1 [I p.prio, I p.most, I p.wait, I p.tasks, v9_0] 52])) (p.tasks.toNat + 2 - 0) ?_ ?_
 ·exact ⟨[t], (List.replicate p.tasks.toNat false), 0, (.slice (some ⟨b21, 0, none⟩) 1 1), fp15, BInv.start, (by simp), rfl, ((Ag.up (t := 11) (v := I (p.tasks.toNat : Int)) ((show _ = I p.tasks from rfl).trans hNI) Ag.nil.put.put.put.put.put.put.put.put.put.put.put.put).to aD), st30⟩
 intro m33 f34 W35 hJ36
 obtain ⟨q, out, h, v31, fo32, hB, hh, rfl, hA38, st37⟩ := hJ36
 have hBl := hB.len_le
 refine wp_seq (wp_seq (aA (rn st37 4 hA38 [] [(18, .bool (decide ((h : Int) < (q.length : Int))))] [ql (cN (st37.get 0 rfl)), .o] aD fun f40 h40_ => (aB (aK (h40_.at 18) (fun h41p => ?_) (fun h41p => ?_))))))
 ·refine wp_skip (wp_seq (wp_block (wp_seq (aA (sg (aE (aB (wp_block (aQ (fun (m : Nat) (f : Nat → Value) (W : World) => ∃ (q2 : List Int) (out2 : List Bool) (i : Nat) (v44 : Value) (fo45 : List Nat), BInv p.edges p.tasks.toNat t q2 out2 h i ∧ h < q2.length ∧ i ≤ p.edges.length ∧ m = p.edges.length - i ∧ Ag [(2, pt_ b1), (5, (.slice (some ⟨b11, 0, none⟩) p.tasks.toNat p.tasks.toNat)), (6, v44), (7, I (h : Int)), (8, I (i : Int))] f ∧ St w W ([Res.row (α := Int) 3 v44 q2 [], Res.own (α := List Bool) (.slice (some ⟨b11, 0, none⟩) p.tasks.toNat p.tasks.toNat) out2 fo45, Res.bx b1 [I p.prio, I p.most, I p.wait, I p.tasks, v9_0] 52])) (p.edges.length - 0) ?_ ?_)))))))))
  ·exact ⟨q, out, 0, v31, fo32, hB, aC, aC, rfl, (h40_.put.to aD), st37⟩
  intro m46 f47 W48 hJ49
  obtain ⟨q2, out2, i, v44, fo45, hB2, hh2, hi2, rfl, hA51, st50⟩ := hJ49
  have hBl2 := hB2.len_le
  have hol2 := hB2.len
  refine wp_seq (wp_seq (aA (rn st50 5 hA51 [] [(25, .bool (decide ((i : Int) < (p.edges.length : Int))))] [qb 2 rfl 4, ql h9_0, .o] aD fun f53 h53_ => (aB (aK (h53_.at 25) (fun h54p => ?_) (fun h54p => ?_))))))
  ·refine wp_skip (wp_seq (wp_block (wp_seq (aA ?_))))
   have hi99fa3 : i < p.edges.length := aC
   obtain ⟨b56, o56, cs56, f56, hp56, hr56, hc56, hm56⟩ := idx h9_0 (i := i) hi99fa3
   refine rn st50 5 h53_ [] [(32, .agg cs56.toArray)] [qb 2 rfl 4, qx hp56, qrw hr56 (Shape.len hc56)] aD fun f57 h57_ => (sg (aT lL st50 ?_)); intro b58 W59 hb60 st61
   refine sgn (bR (cs := cs56) gR hc56 rfl (h57_.at 32) st61 rfl ?_); intro W63 st64
   refine aB (wp_seq ?_)
   have hi8f4b8 : h < q2.length := aC
   rcases nem ((p.edges[i]'hi99fa3).from_ = (q2[h]'hi8f4b8)) with h68p | h68p
   ·have h68 := decide_eq_false h68p
    have hea := hi.at (k := i) aC
    have hk70 := hc56
    obtain ⟨he70, rfl, hok70⟩ := hk70
    have he70 : _ = [I (p.edges[i]'hi99fa3).from_, I (p.edges[i]'hi99fa3).to_] := he70
    subst he70
    have hi8f4b8 : h < q2.length := aC
    obtain ⟨b71, o71, cs71, f71, hp71, hr71, hc71, hm71⟩ := idx (cN (st64.get 1 rfl)) (i := h) hi8f4b8
    have hk71 := hc71
    obtain ⟨rfl, rfl, hok71⟩ := hk71
    refine rd st64 h57_.put [] [(47, .bool false)] [qb 0 rfl 0, qx hp71, qn hr71 0, qk h68] aD aD fun f72 W73 h72_ st74 hb75 => (lP (h72_.at 47) rfl (wp_skip (aA (rn st74 3 h72_ [8] [(8, I ((i : Int) + 1))] [qad (i : Int) 1] aD fun f77 h77_ => (aB ?_)))))
    exact ⟨_, p.edges.length - (i + 1), aC, rfl, q2, out2, i + 1, v44, fo45, (hB2.skip1 hi aC aC h68p), aC, aC, rfl, (h77_.to aD), st74.f3.f3.f3.d3⟩
   have h68 := decide_eq_true h68p
   have hea := hi.at (k := i) aC
   have hk83 := hc56
   obtain ⟨he83, rfl, hok83⟩ := hk83
   have he83 : _ = [I (p.edges[i]'hi99fa3).from_, I (p.edges[i]'hi99fa3).to_] := he83
   subst he83
   have hi8f4b8 : h < q2.length := aC
   obtain ⟨b84, o84, cs84, f84, hp84, hr84, hc84, hm84⟩ := idx (cN (st64.get 1 rfl)) (i := h) hi8f4b8
   have hk84 := hc84
   obtain ⟨rfl, rfl, hok84⟩ := hk84
   have hi76505 : ((p.edges[i]'hi99fa3).to_).toNat < out2.length := aC
   obtain ⟨b85, o85, cs85, f85, hp85, hr85, hc85, hm85⟩ := idx (aR (st64.get 2 rfl)) (i := ((p.edges[i]'hi99fa3).to_).toNat) hi76505
   have hk85 := hc85
   obtain ⟨rfl, rfl, hok85⟩ := hk85
   refine rd st64 h57_.put [] [(47, .bool (!(out2[((p.edges[i]'hi99fa3).to_).toNat]'hi76505)))] [qb 0 rfl 0, qx hp84, qn hr84 0, qk h68, qb 0 rfl 1, qxe hp85 (e := (p.edges[i]'hi99fa3).to_) aC, qn hr85 0, .o] aD aD fun f86 W87 h86_ st88 hb89 => (cF (h86_.at 47) (fun h90 => ?_) (fun h90 => ?_))
   ·refine wp_seq (aA ?_)
    have hi76505 : ((p.edges[i]'hi99fa3).to_).toNat < out2.length := aC
    obtain ⟨b92, o92, cs92, f92, hp92, hr92, hc92, hm92⟩ := idx (aR (st88.get 2 rfl)) (i := ((p.edges[i]'hi99fa3).to_).toNat) hi76505
    have hk92 := hc92
    obtain ⟨rfl, rfl, hok92⟩ := hk92
    refine rn st88 4 h86_ [] [(51, .pointer (some ⟨b92, o92, none⟩))] [qb 0 rfl 1, qxe hp92 (e := (p.edges[i]'hi99fa3).to_) aC] aD fun f93 h93_ => (sgn (rP (α := Bool) (z := true) rfl aD (h93_.at 51) hp92 hi76505 rfl rfl rfl st88.f2 (fun W => ⟨rfl, rfl, trivial⟩) ?_)); intro fp95 W96 st97
    refine aB (aA (rn st97 3 h93_ [] [(52, v44), (54, I (p.edges[i]'hi99fa3).to_)] [qb 1 rfl 1] aD fun f99 h99_ => (sg (aZ (cs := [I (p.edges[i]'hi99fa3).to_]) (e := 3) (eS (h99_.at 54) jD) (bT fG _ _ rfl rfl aU) st97 ?_)))); intro b100 W101 hb102 st103
    have hxx := hB2.add1 hi aC aC (by assumption) aC (by assumption)
    have hxl := hxx.len_le
    rw [length_append] at hxl
    refine sg (dR (ys := [(p.edges[i]'hi99fa3).to_]) fG (h99_.at 52) rfl rfl st103.f3 (Elems.ic (by simp only [I64]; omega) Elems.i0) (by unfold maxLen; omega) aC ?_); intro v106 W107 st108
    refine sg (aF (v := v106) rfl (aB (aA (rn st108 3 h99_.put.put.put [8] [(8, I ((i : Int) + 1))] [qad (i : Int) 1] aD fun f112 h112_ => (aB ?_)))))
    exact ⟨_, p.edges.length - (i + 1), aC, rfl, q2 ++ [(p.edges[i]'hi99fa3).to_], (out2).set ((p.edges[i]'hi99fa3).to_).toNat true, i + 1, v106, fp95, (hB2.add1 hi aC aC h68p aC h90), (by rw [length_append]; omega), aC, rfl, (h112_.to aD), st108.f3.f2.f2.d3⟩
   refine wp_skip (aA (rn st88 3 h86_ [8] [(8, I ((i : Int) + 1))] [qad (i : Int) 1] aD fun f118 h118_ => (aB ?_)))
   exact ⟨_, p.edges.length - (i + 1), aC, rfl, q2, out2, i + 1, v44, fo45, (hB2.skip2 hi aC aC aC h90), aC, aC, rfl, (h118_.to aD), st88.f3.f3.f3.d3⟩
  refine wp_exit (aA (rn st50 3 h53_ [7] [(7, I ((h : Int) + 1))] [qad (h : Int) 1] aD fun f124 h124_ => (aB ?_)))
  exact ⟨_, p.tasks.toNat + 2 - (h + 1), aC, rfl, q2, out2, h + 1, v44, fo45, (hB2.next aC), aC, rfl, (h124_.to aD), st50⟩
 refine wp_exit (wp_seq (aA (sg (aG (h40_.at 5) (sg (aF (v := (.slice (some ⟨b11, 0, none⟩) p.tasks.toNat p.tasks.toNat)) rfl (aB (wr (aM results385 rfl ?_)))))))))
 have st127 := st37.f1
 have hall := hB.all aC
 rw [hall] at st127
 exact ⟨_, _, rfl, st127.only 0 rfl⟩
theorem ManyS {p : Plan} (hc : Shape.C w cs p fp) :
  Calls prog 384 #[.agg cs.toArray] w (rB_ (pB (cO p)) w) := by
 refine cC func384 rfl ntmps384 aU (wp_seq (aA (sg (aH (cs := cs) rfl (St.start w) ?_)))); intro b1 W2 hb3 st4
 refine sg (aE (aB (wp_seq (aA ?_))))
 have hk9 := hc
 obtain ⟨v9_0, g9_0, rfl, hok9, h9_0, rfl⟩ := hk9
 rcases bd (!(inB p.tasks 1 12)) with h10 | h10
 ·have h10p := inB_iff'.1 (bY h10)
  rcases nem (30 < (p.edges.length : Int)) with h11p | h11p
  ·have h11 := decide_eq_false h11p
   rcases bd (!(inB p.prio 0 9)) with h12 | h12
   ·have h12p := inB_iff'.1 (bY h12)
    rcases bd (!(inB p.most 1 5)) with h13 | h13
    ·have h13p := inB_iff'.1 (bY h13)
     refine rc st4 29 Ag.nil.put.put.put [2] [(2, .bool (!(inB p.wait 1 20)))] [qb 0 rfl 3, qc func138 rfl (fun W s b => cK W p.tasks 1 12), qk h10, qb 0 rfl 4, ql h9_0, qk h11, qb 0 rfl 0, qc func138 rfl (fun W s b => cK W p.prio 0 9), qk h12, qb 0 rfl 1, qc func138 rfl (fun W s b => cK W p.most 1 5), qk h13, qb 0 rfl 2, qc func138 rfl (fun W s b => cK W p.wait 1 20), .o] aD fun f14 W15 h14_ st16 hb17 => (aB ?_)
     rcases bd (!(inB p.wait 1 20)) with h18 | h18
     ·have h18p := inB_iff'.1 (bY h18)
      refine wr (aM results384 ((h14_.at 2).trans (congrArg Value.bool h18)) ?_)
      exact ⟨(fB (by rw [dV (by unfold cO; omega)])), st16.bare⟩
     have h18p := eA (aO h18)
     refine wr (aM results384 ((h14_.at 2).trans (congrArg Value.bool h18)) ?_)
     exact ⟨(fB (by rw [lX (by unfold cO; omega)])), st16.bare⟩
    have h13p := eA (aO h13)
    refine rc st4 29 Ag.nil.put.put.put [2] [(2, .bool true)] [qb 0 rfl 3, qc func138 rfl (fun W s b => cK W p.tasks 1 12), qk h10, qb 0 rfl 4, ql h9_0, qk h11, qb 0 rfl 0, qc func138 rfl (fun W s b => cK W p.prio 0 9), qk h12, qb 0 rfl 1, qc func138 rfl (fun W s b => cK W p.most 1 5), qk h13] aD fun f19 W20 h19_ st21 hb22 => (aB (wr (aM results384 (h19_.at 2) ?_)))
    exact ⟨(fB (by rw [lX (by unfold cO; omega)])), st21.bare⟩
   have h12p := eA (aO h12)
   refine rc st4 29 Ag.nil.put.put.put [2] [(2, .bool true)] [qb 0 rfl 3, qc func138 rfl (fun W s b => cK W p.tasks 1 12), qk h10, qb 0 rfl 4, ql h9_0, qk h11, qb 0 rfl 0, qc func138 rfl (fun W s b => cK W p.prio 0 9), qk h12] aD fun f23 W24 h23_ st25 hb26 => (aB (wr (aM results384 (h23_.at 2) ?_)))
   exact ⟨(fB (by rw [lX (by unfold cO; omega)])), st25.bare⟩
  have h11 := decide_eq_true h11p
  refine rc st4 29 Ag.nil.put.put.put [2] [(2, .bool true)] [qb 0 rfl 3, qc func138 rfl (fun W s b => cK W p.tasks 1 12), qk h10, qb 0 rfl 4, ql h9_0, qk h11] aD fun f27 W28 h27_ st29 hb30 => (aB (wr (aM results384 (h27_.at 2) ?_)))
  exact ⟨(fB (by rw [lX (by unfold cO; omega)])), st29.bare⟩
 have h10p := eA (aO h10)
 refine rc st4 29 Ag.nil.put.put.put [2] [(2, .bool true)] [qb 0 rfl 3, qc func138 rfl (fun W s b => cK W p.tasks 1 12), qk h10] aD fun f31 W32 h31_ st33 hb34 => (aB (wr (aM results384 (h31_.at 2) ?_)))
 exact ⟨(fB (by rw [lX (by unfold cO; omega)])), st33.bare⟩
theorem wK {p : Plan} (hc : Shape.C w cs p fp) :
  Calls prog 302 #[.agg cs.toArray] w (rI_ (cJ p) w) := by
 refine cC func302 rfl ntmps302 aU (wp_seq (aA (sg (aH (cs := cs) rfl (St.start w) ?_)))); intro b1 W2 hb3 st4
 refine sg (aE (aB (wp_seq (wp_seq (aA ?_)))))
 have hk9 := hc
 obtain ⟨v9_0, g9_0, rfl, hok9, h9_0, rfl⟩ := hk9
 refine rg st4 28 Ag.nil.put.put.put [] [(36, .bool (((((!(inB p.tasks 1 12)) || (decide (30 < (p.edges.length : Int)))) || (!(inB p.prio 0 9))) || (!(inB p.most 1 5))) || (!(inB p.wait 1 20))))] [qb 0 rfl 3, qc func92 rfl (fun W s b => dH W p.tasks 1 12), .o, qb 0 rfl 4, ql h9_0, .o, qb 0 rfl 0, qc func92 rfl (fun W s b => dH W p.prio 0 9), .o, qb 0 rfl 1, qc func92 rfl (fun W s b => dH W p.most 1 5), .o, qb 0 rfl 2, qc func92 rfl (fun W s b => dH W p.wait 1 20), .o] aD fun f10 W11 h10_ st12 hb13 => (aB (cF (h10_.at 36) (fun h14 => ?_) (fun h14 => ?_)))
 ·have h14p := h14
  simp [inB] at h14p
  refine wp_seq (aA (sg (aE (aB (wr (aM results302 rfl ?_))))))
  exact ⟨(fI (by rw [pf1 (by unfold cO; omega)])), st12.bare⟩
 have h14p := h14
 simp [inB] at h14p
 refine wp_skip (wp_seq (wp_seq (aA ?_)))
 have hM : ¬ cO p := by unfold cO; omega
 have hMb := pM hM
 refine rn st12 4 h10_ [] [(38, v9_0), (39, I (p.edges.length : Int)), (40, I 0)] [qb 0 rfl 4, ql h9_0] aD fun f18 h18_ => (aB (wp_block (aQ (fun (m : Nat) (f : Nat → Value) (W : World) => ∃ (k : Nat), k ≤ p.edges.length ∧ EdgesIn p.tasks.toNat (p.edges.take k) ∧ m = p.edges.length - k ∧ Ag [(1, pt_ b1), (38, v9_0), (39, I (p.edges.length : Int)), (40, I (k : Int))] f ∧ St w W ([Res.bx b1 [I p.prio, I p.most, I p.wait, I p.tasks, v9_0] 52])) (p.edges.length - 0) ?_ ?_)))
 ·exact ⟨0, aC, EdgesIn.nil, rfl, (h18_.to aD), st12⟩
 intro m19 f20 W21 hJ22
 obtain ⟨k, hk, hEk, rfl, hA24, st23⟩ := hJ22
 refine wp_seq (aA (sg (bA (hA24.at 40) (hA24.at 39) (aB (wp_seq (aK rfl (fun h27p => ?_) (fun h27p => ?_)))))))
 ·refine wp_skip (wp_seq (wp_block (wp_seq (aA ?_))))
  have hiab516 : k < p.edges.length := aC
  obtain ⟨b28, o28, cs28, f28, hp28, hr28, hc28, hm28⟩ := idx h9_0 (i := k) hiab516
  refine sg (aY kX (hA24.at 38) hp28 (hA24.at 40) rfl (sg (dX gR rfl rfl hr28 st23.below (Shape.len hc28) (sg (aT lL st23 ?_))))); intro b31 W32 hb33 st34
  refine sgn (bR (cs := cs28) gR hc28 rfl rfl st34 rfl ?_); intro W36 st37
  refine aB (wp_seq (aA ?_))
  have hk39 := hc28
  obtain ⟨he39, rfl, hok39⟩ := hk39
  have he39 : _ = [I (p.edges[k]'hiab516).from_, I (p.edges[k]'hiab516).to_] := he39
  subst he39
  refine rg st37 16 hA24.put.put.put.put [] [(59, .bool ((!(inB (p.edges[k]'hiab516).from_ 0 (p.tasks - 1))) || (!(inB (p.edges[k]'hiab516).to_ 0 (p.tasks - 1)))))] [qb 0 rfl 0, qb 1 rfl 3, qsb p.tasks 1, qc (args := [I (p.edges[k]'hiab516).from_, I 0, I (p.tasks - 1)]) (v := .bool (inB (p.edges[k]'hiab516).from_ 0 (p.tasks - 1))) func92 rfl (fun W s b => dH W (p.edges[k]'hiab516).from_ 0 (p.tasks - 1)), .o, qb 0 rfl 1, qb 1 rfl 3, qsb p.tasks 1, qc (args := [I (p.edges[k]'hiab516).to_, I 0, I (p.tasks - 1)]) (v := .bool (inB (p.edges[k]'hiab516).to_ 0 (p.tasks - 1))) func92 rfl (fun W s b => dH W (p.edges[k]'hiab516).to_ 0 (p.tasks - 1)), .o] aD fun f40 W41 h40_ st42 hb43 => (aB (cF (h40_.at 59) (fun h44 => ?_) (fun h44 => ?_)))
  ·have h44p := h44
   simp [inB] at h44p
   refine wp_seq (aA (sg (aE (aB (wr (aM results302 rfl ?_))))))
   have hnE : ¬ EdgesIn p.tasks.toNat p.edges := fun hE => by have hea := hE.at (k := k) aC; omega
   exact ⟨(fI (by rw [pf2 hM hnE])), st42.bare⟩
  have h44p := h44
  simp [inB] at h44p
  refine wp_skip (aA (sg (bW (h40_.at 40) rfl eI (sg (aG (v := I ((k : Int) + 1)) rfl (aB ?_))))))
  exact ⟨_, p.edges.length - (k + 1), aC, rfl, k + 1, aC, (hEk.step aC aC), rfl, (h40_.put.put.to aD), st42.f1.d1⟩
 refine wp_exit (wp_seq (wp_seq (aA ?_)))
 have hE : EdgesIn p.tasks.toNat p.edges := by rw [show k = p.edges.length by omega, take_length] at hEk; exact hEk
 refine rn st23 4 hA24.put [] [(62, v9_0), (63, I (p.edges.length : Int)), (64, I 0)] [qb 0 rfl 4, ql h9_0] aD fun f52 h52_ => (aB (wp_block (aQ (fun (m : Nat) (f : Nat → Value) (W : World) => ∃ (k2 : Nat), k2 ≤ p.edges.length ∧ (p.edges.take k2).Nodup ∧ m = p.edges.length - k2 ∧ Ag [(1, pt_ b1), (62, v9_0), (63, I (p.edges.length : Int)), (64, I (k2 : Int))] f ∧ St w W ([Res.bx b1 [I p.prio, I p.most, I p.wait, I p.tasks, v9_0] 52])) (p.edges.length - 0) ?_ ?_)))
 ·exact ⟨0, aC, nodup_nil, rfl, (h52_.to aD), st23⟩
 intro m53 f54 W55 hJ56
 obtain ⟨k2, hk2, hNk, rfl, hA58, st57⟩ := hJ56
 refine wp_seq (aA (sg (bA (hA58.at 64) (hA58.at 63) (aB (wp_seq (aK rfl (fun h61p => ?_) (fun h61p => ?_)))))))
 ·refine wp_skip (wp_seq (wp_block (wp_seq (aA ?_))))
  have hi9adb2 : k2 < p.edges.length := aC
  obtain ⟨b63, o63, cs63, f63, hp63, hr63, hc63, hm63⟩ := idx h9_0 (i := k2) hi9adb2
  refine rn st57 3 hA58.put [] [(66, I (k2 : Int)), (68, .agg cs63.toArray)] [qx hp63, qrw hr63 (Shape.len hc63)] aD fun f64 h64_ => (sg (aT lL st57 ?_)); intro b65 W66 hb67 st68
  refine sg (aF (h64_.at 66) (sgn (bR (cs := cs63) gR hc63 rfl (h64_.at 68) st68 rfl ?_))); intro W72 st73
  refine aB (wp_seq ?_)
  have hq_ := slq_h h9_0 (h := k2) aC
  obtain ⟨u74, gz75, hs76, hm77, hq78⟩ := hq_
  refine iH 5 [] [(true, .is (.pointer (some ⟨b1, 0 + 4, none⟩))), (true, .is (v9_0)), (true, .is (I (k2 : Int))), (true, .is u74), (true, .is (.agg cs63.toArray))] mix aD aD aD aD (rs0 := []) rfl st73 (Below.refl _ _) ⟨(fq_ jK (h64_.at 1)), (fun f W hst hbl hd hf => bI vN rfl (hd 0 69 rfl rfl) (hst.get 1 rfl) (i := 4) rfl rfl brq), (mq_ (show _ = I (k2 : Int) from rfl)), (fun f W hst hbl hd hf => hq78 kX (hd 1 70 rfl rfl) (hd 2 71 rfl rfl) rfl brq), (fun f W hst hbl hd hf => dB gR rfl ((hf 6 rfl).trans (show _ = (pt_ b65 : Value) from rfl)) (hst.get 0 rfl) (Shape.len hc63) brq), trivial⟩ ?_
  intro f79 W80 rs_ hAL_ st83 hbl84 hv81 hf82
  have hn_ : rs_ = [] := hAL_
  subst hn_
  try simp only [iU, iS] at st83
  refine rc st83 1 (Ag.cons (show f79 1 = pt_ b1 from ((hf82 1 rfl).trans (h64_.at 1))) (Ag.cons (show f79 62 = v9_0 from ((hf82 62 rfl).trans (h64_.at 62))) (Ag.cons (show f79 63 = I (p.edges.length : Int) from ((hf82 63 rfl).trans (h64_.at 63))) (Ag.cons (show f79 64 = I (k2 : Int) from ((hf82 64 rfl).trans (h64_.at 64))) (Ag.cons (show f79 72 = u74 from (hv81 3 72 aU rfl)) (Ag.cons (show f79 73 = .agg cs63.toArray from (hv81 4 73 aU rfl)) Ag.nil)))))) [] [(74, .bool (decide ((p.edges[k2]'hi9adb2) ∈ (p.edges.take k2))))] [qc (args := [u74, .agg cs63.toArray]) (v := .bool (decide ((p.edges[k2]'hi9adb2) ∈ (p.edges.take k2)))) func377 rfl (fun W s b => ContE W (hs76.below s.below) hc63)] aD fun f87 W88 h87_ st89 hb90 => (aB (aK (h87_.at 74) (fun h91p => ?_) (fun h91p => ?_)))
  ·refine wp_seq (aA (sg (aE (aB (wr (aM results302 rfl ?_))))))
   have hnN : ¬ p.edges.Nodup := qK (k := k2) aC (by assumption)
   exact ⟨(fI (by rw [pf3 hM hE hnN])), st89.bare⟩
  refine wp_skip (aA (sg (bW (h87_.at 64) rfl eI (sg (aG (v := I ((k2 : Int) + 1)) rfl (aB ?_))))))
  exact ⟨_, p.edges.length - (k2 + 1), aC, rfl, k2 + 1, aC, (vH hNk aC (by assumption)), rfl, (h87_.put.put.to aD), st89.f1.d1⟩
 refine wp_exit (wp_seq (wp_seq (aA ?_)))
 have hN : p.edges.Nodup := by rw [show k2 = p.edges.length by omega, take_length] at hNk; exact hNk
 refine sg (aV (cs := [I p.prio, I p.most, I p.wait, I p.tasks, v9_0]) iM rfl (hA58.at 1) (st57.get 0 rfl) rfl rfl (sg (bO func378 rfl rfl ((WaitsI W55 (bG hc st57.below) aC aC hE).mono ?_)))); rintro _ W102 ⟨v100, fp100, rfl, hk103⟩; refine ⟨_, rfl, ?_⟩
 have st104 := St.call st57 hk103
 have hwl : (dE (cW p.edges (List.replicate p.tasks.toNat 0) p.tasks.toNat)).length = p.tasks.toNat := by rw [yJ, iA, length_replicate]
 have hbd := xI (n := p.tasks.toNat) aC hE p.tasks.toNat
 refine sg (fP jC rfl (aR (st104.get 0 rfl)) (sg (aG (v := I 0) rfl (aB (wp_block (aQ (fun (m : Nat) (f : Nat → Value) (W : World) => ∃ (k3 : Nat), k3 ≤ p.tasks.toNat ∧ (∀ t : Nat, t < k3 → ¬ Rch p.edges (t : Int) (t : Int)) ∧ m = p.tasks.toNat - k3 ∧ Ag [(77, v100), (78, I ((dE (cW p.edges (List.replicate p.tasks.toNat 0) p.tasks.toNat)).length : Int)), (79, I (k3 : Int))] f ∧ St w W ([Res.own (α := List Int) v100 (dE (cW p.edges (List.replicate p.tasks.toNat 0) p.tasks.toNat)) fp100, Res.bx b1 [I p.prio, I p.most, I p.wait, I p.tasks, v9_0] 52])) (p.tasks.toNat - 0) ?_ ?_))))))
 ·exact ⟨0, aC, (fun t ht => absurd ht (Nat.not_lt_zero t)), rfl, (hA58.put.put.put.put.put.to aD), st104⟩
 intro m108 f109 W110 hJ111
 obtain ⟨k3, hk3, hW, rfl, hA113, st112⟩ := hJ111
 refine wp_seq (aA (sg (bA (hA113.at 79) (hA113.at 78) (aB (wp_seq (aK rfl (fun h116p => ?_) (fun h116p => ?_)))))))
 ·refine wp_skip (wp_seq (wp_block (wp_seq (aA ?_))))
  have hie76f8 : k3 < (dE (cW p.edges (List.replicate p.tasks.toNat 0) p.tasks.toNat)).length := aC
  obtain ⟨b118, o118, cs118, f118, hp118, hr118, hc118, hm118⟩ := idx (aR (st112.get 0 rfl)) (i := k3) hie76f8
  have hk118 := hc118
  obtain ⟨rfl, rfl, hok118⟩ := hk118
  refine rn st112 5 hA113.put [] [(7, I (k3 : Int)), (8, I ((dE (cW p.edges (List.replicate p.tasks.toNat 0) p.tasks.toNat))[k3]'hie76f8))] [qx hp118, qn hr118 0] aD fun f119 h119_ => (aB (wp_seq (aA (sg (aG (h119_.at 8) (sg (aG (h119_.at 7) (sg (stp_shrI rfl rfl (iD hbd _ _).1 aC (sg (stp_andI rfl rfl (shrI_rng (iD hbd _ _)) aC (sg (gC rfl rfl (aB (aK rfl (fun h124p => ?_) (fun h124p => ?_))))))))))))))))
  ·refine wp_seq (aA (sg (aE (aB (wr (aM results302 rfl ?_))))))
   have hC : jE p := ⟨k3, aC, (wT hE aC _).1 (by assumption)⟩
   exact ⟨(fI (by rw [pf4 hM hE hN hC])), st112.bare⟩
  refine wp_skip (aA (sg (bW (h119_.at 79) rfl eI (sg (aG (v := I ((k3 : Int) + 1)) rfl (aB ?_))))))
  exact ⟨_, p.tasks.toNat - (k3 + 1), aC, rfl, k3 + 1, aC, (fun t ht => by rcases Nat.lt_succ_iff_lt_or_eq.1 ht with h1 | rfl; exact hW t h1; exact fun hr => absurd ((wT hE aC _).2 hr) h124p), rfl, (h119_.put.put.put.put.put.put.put.to aD), st112⟩
 refine wp_exit (wp_seq (aA (sg (aE (aB (wr (aM results302 rfl ?_)))))))
 have hC : ¬ jE p := by rintro ⟨t, ht, hr⟩; exact hW t aC hr
 exact ⟨(fI (by rw [pf0 hM hE hN hC])), st112.bare⟩
theorem wJ {p : Plan} (hc : Shape.C w cs p fp) :
  Calls prog 325 #[.agg cs.toArray] w (rI_ (cJ p) w) := by
 refine cC func325 rfl ntmps325 aU (wp_seq (aA (sg (aH (cs := cs) rfl (St.start w) ?_)))); intro b1 W2 hb3 st4
 refine sg (aE (aB (wp_seq (wp_seq (aA (rc st4 2 Ag.nil.put.put.put [] [(8, .bool (pB (cO p)))] [qw 0 rfl (Shape.len hc), qc func384 rfl (fun W s b => ManyS W (bG hc s.below))] aD fun f9 W10 h9_ st11 hb12 => (aB (cF (h9_.at 8) (fun h13 => ?_) (fun h13 => ?_)))))))))
 ·refine wp_seq (aA (sg (aE (aB (wr (aM results325 rfl ?_))))))
  exact ⟨(fI (by rw [pf1 (pB_iff.1 (by assumption))])), st11.bare⟩
 refine wp_skip (wp_seq (wp_seq (aA ?_)))
 have hM : ¬ cO p := fun hm => by rw [lX hm] at h13; cases h13
 have hMb := pM hM
 refine sg (aE (aB (wp_block (aQ (fun (m : Nat) (f : Nat → Value) (W : World) => ∃ (k : Nat), k ≤ p.edges.length ∧ EdgesIn p.tasks.toNat (p.edges.take k) ∧ m = p.edges.length - k ∧ Ag [(1, pt_ b1), (3, I (k : Int))] f ∧ St w W ([Res.bx b1 cs 52])) (p.edges.length - 0) ?_ ?_))))
 ·exact ⟨0, aC, EdgesIn.nil, rfl, (h9_.put.to aD), st11⟩
 intro m18 f19 W20 hJ21
 obtain ⟨k, hk, hEk, rfl, hA23, st22⟩ := hJ21
 refine wp_seq (wp_seq (aA ?_))
 have hk25 := hc
 obtain ⟨v25_0, g25_0, rfl, hok25, h25_0, rfl⟩ := hk25
 refine rn st22 5 hA23 [] [(13, .bool (decide ((k : Int) < (p.edges.length : Int))))] [qb 0 rfl 4, ql h25_0, .o] aD fun f26 h26_ => (aB (aK (h26_.at 13) (fun h27p => ?_) (fun h27p => ?_)))
 ·refine wp_skip (wp_seq (wp_block (wp_seq ?_)))
  have hiab516 : k < p.edges.length := aC
  rcases bd (!(inB (p.edges[k]'hiab516).from_ 0 (p.tasks - 1))) with h31 | h31
  ·have h31p := inB_iff'.1 (bY h31)
   have hiab516 : k < p.edges.length := aC
   obtain ⟨b33, o33, cs33, f33, hp33, hr33, hc33, hm33⟩ := idx h25_0 (i := k) hiab516
   have hk34 := hc33
   obtain ⟨he34, rfl, hok34⟩ := hk34
   have he34 : _ = [I (p.edges[k]'hiab516).from_, I (p.edges[k]'hiab516).to_] := he34
   subst he34
   refine rd st22 h26_ [] [(39, .bool (!(inB (p.edges[k]'hiab516).to_ 0 (p.tasks - 1))))] [qb 0 rfl 4, qx hp33, qr hr33 0, qb 0 rfl 3, qsb p.tasks 1, qc (args := [I (p.edges[k]'hiab516).from_, I 0, I (p.tasks - 1)]) (v := .bool (inB (p.edges[k]'hiab516).from_ 0 (p.tasks - 1))) func138 rfl (fun W s b => cK W (p.edges[k]'hiab516).from_ 0 (p.tasks - 1)), qk h31, qb 0 rfl 4, qx hp33, qr hr33 1, qb 0 rfl 3, qsb p.tasks 1, qc (args := [I (p.edges[k]'hiab516).to_, I 0, I (p.tasks - 1)]) (v := .bool (inB (p.edges[k]'hiab516).to_ 0 (p.tasks - 1))) func138 rfl (fun W s b => cK W (p.edges[k]'hiab516).to_ 0 (p.tasks - 1)), .o] aD aD fun f35 W36 h35_ st37 hb38 => (cF (h35_.at 39) (fun h39 => ?_) (fun h39 => ?_))
   ·have h39p := eA (aO h39)
    refine wp_seq (aA (sg (aE (aB (wr (aM results325 rfl ?_))))))
    have hnE : ¬ EdgesIn p.tasks.toNat p.edges := fun hE => by have hea := hE.at (k := k) aC; omega
    exact ⟨(fI (by rw [pf2 hM hnE])), st37.bare⟩
   have h39p := inB_iff'.1 (bY h39)
   refine wp_skip (aA (sg (aG (h35_.at 3) (sg (bW rfl rfl eI (sg (aF (v := I ((k : Int) + 1)) rfl (aB ?_))))))))
   exact ⟨_, p.edges.length - (k + 1), aC, rfl, k + 1, aC, (hEk.step aC aC), rfl, (h35_.put.put.put.to aD), st37⟩
  have h31p := eA (aO h31)
  have hiab516 : k < p.edges.length := aC
  obtain ⟨b47, o47, cs47, f47, hp47, hr47, hc47, hm47⟩ := idx h25_0 (i := k) hiab516
  have hk48 := hc47
  obtain ⟨he48, rfl, hok48⟩ := hk48
  have he48 : _ = [I (p.edges[k]'hiab516).from_, I (p.edges[k]'hiab516).to_] := he48
  subst he48
  refine rd st22 h26_ [] [(39, .bool true)] [qb 0 rfl 4, qx hp47, qr hr47 0, qb 0 rfl 3, qsb p.tasks 1, qc (args := [I (p.edges[k]'hiab516).from_, I 0, I (p.tasks - 1)]) (v := .bool (inB (p.edges[k]'hiab516).from_ 0 (p.tasks - 1))) func138 rfl (fun W s b => cK W (p.edges[k]'hiab516).from_ 0 (p.tasks - 1)), qk h31] aD aD fun f49 W50 h49_ st51 hb52 => (mV (h49_.at 39) rfl (wp_seq (aA (sg (aE (aB (wr (aM results325 rfl ?_))))))))
  have hnE : ¬ EdgesIn p.tasks.toNat p.edges := fun hE => by have hea := hE.at (k := k) aC; omega
  exact ⟨(fI (by rw [pf2 hM hnE])), st51.bare⟩
 refine wp_exit (wp_seq (wp_seq (aA ?_)))
 have hE : EdgesIn p.tasks.toNat p.edges := by rw [show k = p.edges.length by omega, take_length] at hEk; exact hEk
 refine sg (aE (aB (wp_block (aQ (fun (m : Nat) (f : Nat → Value) (W : World) => ∃ (k2 : Nat), k2 ≤ p.edges.length ∧ (p.edges.take k2).Nodup ∧ m = p.edges.length - k2 ∧ Ag [(1, pt_ b1), (4, I (k2 : Int))] f ∧ St w W ([Res.bx b1 [I p.prio, I p.most, I p.wait, I p.tasks, v25_0] 52])) (p.edges.length - 0) ?_ ?_))))
 ·exact ⟨0, aC, nodup_nil, rfl, (h26_.put.to aD), st22⟩
 intro m57 f58 W59 hJ60
 obtain ⟨k2, hk2, hNk, rfl, hA62, st61⟩ := hJ60
 refine wp_seq (wp_seq (aA (rn st61 5 hA62 [] [(44, .bool (decide ((k2 : Int) < (p.edges.length : Int))))] [qb 0 rfl 4, ql h25_0, .o] aD fun f64 h64_ => (aB (aK (h64_.at 44) (fun h65p => ?_) (fun h65p => ?_))))))
 ·refine wp_skip (wp_seq (wp_block (wp_seq (aA (sg (aE (aB (wp_block (aQ (fun (m : Nat) (f : Nat → Value) (W : World) => ∃ (j : Nat), j ≤ k2 ∧ (p.edges[k2]'(by omega)) ∉ p.edges.take j ∧ m = k2 - j ∧ Ag [(1, pt_ b1), (4, I (k2 : Int)), (5, I (j : Int))] f ∧ St w W ([Res.bx b1 [I p.prio, I p.most, I p.wait, I p.tasks, v25_0] 52])) (k2 - 0) ?_ ?_)))))))))
  ·exact ⟨0, aC, (by simp), rfl, (h64_.put.to aD), st61⟩
  intro m68 f69 W70 hJ71
  obtain ⟨j, hj, hj2, rfl, hA73, st72⟩ := hJ71
  refine wp_seq (wp_seq (aA (rn st72 3 hA73 [] [(49, .bool (decide ((j : Int) < (k2 : Int))))] [.o] aD fun f75 h75_ => (aB (aK (h75_.at 49) (fun h76p => ?_) (fun h76p => ?_))))))
  ·refine wp_skip (wp_seq (wp_block (wp_seq ?_)))
   have hi9adb2 : k2 < p.edges.length := aC
   obtain ⟨b78, o78, cs78, f78, hp78, hr78, hc78, hm78⟩ := idx h25_0 (i := k2) hi9adb2
   have hk79 := hc78
   obtain ⟨he79, rfl, hok79⟩ := hk79
   have he79 : _ = [I (p.edges[k2]'hi9adb2).from_, I (p.edges[k2]'hi9adb2).to_] := he79
   subst he79
   have hif5231 : j < p.edges.length := aC
   obtain ⟨b80, o80, cs80, f80, hp80, hr80, hc80, hm80⟩ := idx h25_0 (i := j) hif5231
   have hk81 := hc80
   obtain ⟨he81, rfl, hok81⟩ := hk81
   have he81 : _ = [I (p.edges[j]'hif5231).from_, I (p.edges[j]'hif5231).to_] := he81
   subst he81
   refine rk 10 st72 h75_ [] [(56, .agg #[I (p.edges[k2]'hi9adb2).from_, I (p.edges[k2]'hi9adb2).to_]), (61, .agg #[I (p.edges[j]'hif5231).from_, I (p.edges[j]'hif5231).to_])] [qb 0 rfl 4, qx hp78, qr hr78 0, qb 0 rfl 4, qx hp80, qr hr80 0] aD aD fun f82 W83 h82_ st84 hb85 => (sg (uJ (aH0 (p.edges[k2]'hi9adb2) (p.edges[j]'hif5231)) aI9 (h82_.at 56) (h82_.at 61) (aB (cF rfl (fun h86 => ?_) (fun h86 => ?_)))))
   ·refine wp_seq (aA (sg (aE (aB (wr (aM results325 rfl ?_))))))
    have hnN : ¬ p.edges.Nodup := qK (k := k2) aC (by rw [eqB_iff.1 h86]; exact tH aC aC)
    exact ⟨(fI (by rw [pf3 hM hE hnN])), st84.bare⟩
   refine wp_skip (aA (rn st84 3 h82_.put [5] [(5, I ((j : Int) + 1))] [qad (j : Int) 1] aD fun f90 h90_ => (aB ?_)))
   exact ⟨_, k2 - (j + 1), aC, rfl, j + 1, aC, (not_mem_take_step aC hj2 (fun e => by rw [bZ e] at h86; cases h86)), rfl, (h90_.to aD), st84⟩
  refine wp_exit (aA (sg (aG (h75_.at 4) (sg (bW rfl rfl eI (sg (aF (v := I ((k2 : Int) + 1)) rfl (aB ?_))))))))
  exact ⟨_, p.edges.length - (k2 + 1), aC, rfl, k2 + 1, aC, (vH hNk aC (by rw [show j = k2 by omega] at hj2; exact hj2)), rfl, (h75_.put.put.put.to aD), st72⟩
 refine wp_exit (wp_seq (wp_seq (aA ?_)))
 have hN : p.edges.Nodup := by rw [show k2 = p.edges.length by omega, take_length] at hNk; exact hNk
 refine sg (aE (aB (wp_block (aQ (fun (m : Nat) (f : Nat → Value) (W : World) => ∃ (k3 : Nat), k3 ≤ p.tasks.toNat ∧ (∀ t : Nat, t < k3 → ¬ Rch p.edges (t : Int) (t : Int)) ∧ m = p.tasks.toNat - k3 ∧ Ag [(1, pt_ b1), (6, I (k3 : Int))] f ∧ St w W ([Res.bx b1 [I p.prio, I p.most, I p.wait, I p.tasks, v25_0] 52])) (p.tasks.toNat - 0) ?_ ?_))))
 ·exact ⟨0, aC, (fun t ht => absurd ht (Nat.not_lt_zero t)), rfl, (h64_.put.to aD), st61⟩
 intro m97 f98 W99 hJ100
 obtain ⟨k3, hk3, hW, rfl, hA102, st101⟩ := hJ100
 refine wp_seq (wp_seq (aA (rn st101 4 hA102 [] [(66, .bool (decide ((k3 : Int) < p.tasks)))] [qb 0 rfl 3, .o] aD fun f104 h104_ => (aB (aK (h104_.at 66) (fun h105p => ?_) (fun h105p => ?_))))))
 ·refine wp_skip (wp_seq (wp_block (wp_seq (aA (sg (aV (cs := [I p.prio, I p.most, I p.wait, I p.tasks, v25_0]) iM rfl (h104_.at 1) (st101.get 0 rfl) rfl rfl (sg (aG (h104_.at 6) (sg (bK func385 rfl rfl rfl ((FromS W99 (bG hc st101.below) (k3 : Int) aC aC hE aC).mono ?_))))))))))); rintro _ W110 ⟨v108, fp108, rfl, hk111⟩; refine ⟨_, rfl, ?_⟩
  have st112 := St.call st101 hk111
  refine sg (aG (h104_.at 6) ?_)
  have hfl := fromOf_len p.edges p.tasks.toNat (k3 : Int)
  have hi60dda : k3 < (mH p.edges p.tasks.toNat (k3 : Int)).length := aC
  obtain ⟨b116, o116, cs116, f116, hp116, hr116, hc116, hm116⟩ := idx (aR (st112.get 0 rfl)) (i := k3) hi60dda
  have hk116 := hc116
  obtain ⟨rfl, rfl, hok116⟩ := hk116
  refine sg (aY sl_boolS rfl hp116 rfl rfl (sg (kI ld_bool rfl rfl hr116 (Below.refl _ _) (i := 0) rfl rfl (aB (cF rfl (fun h119 => ?_) (fun h119 => ?_))))))
  ·refine wp_seq (aA (sg (aE (aB (wr (aM results325 rfl ?_))))))
   have hC : jE p := ⟨k3, aC, pB_iff.1 ((xW _).symm.trans h119)⟩
   exact ⟨(fI (by rw [pf4 hM hE hN hC])), st112.bare⟩
  refine wp_skip (aA (sg (aG (h104_.at 6) (sg (bW rfl rfl eI (sg (aF (v := I ((k3 : Int) + 1)) rfl (aB ?_))))))))
  exact ⟨_, p.tasks.toNat - (k3 + 1), aC, rfl, k3 + 1, aC, (fun t ht => by rcases Nat.lt_succ_iff_lt_or_eq.1 ht with h1 | rfl; exact hW t h1; exact fun hr => absurd ((xW _).symm.trans h119) (by rw [lX hr]; decide)), rfl, (h104_.put.put.put.put.put.put.put.put.put.to aD), st112.f1.d1⟩
 refine wp_exit (wp_seq (aA (sg (aE (aB (wr (aM results325 rfl ?_)))))))
 have hC : ¬ jE p := by rintro ⟨t, ht, hr⟩; exact hW t aC hr
 exact ⟨(fI (by rw [pf0 hM hE hN hC])), st101.bare⟩
end Go.Proofs.YtanpcpoogkdlaaaGreat
namespace Go.Proofs.YtanpcpoogkdlaaaGreat
set_option linter.unusedSimpArgs false
set_option linter.unusedVariables false
set_option maxRecDepth 100000
set_option maxHeartbeats 2000000
open Go.RowKit Go.Proofs.Tryz List Go.Sort
theorem Elems.ints_inv {W : World} : ∀ {xs : List Int} {cells : List Value} {fp : List Nat}, Elems W cells xs fp → cells = xs.map I ∧ fp = [] ∧ ∀ x ∈ xs, I64 x
 | [], _, _, ⟨h1, h2⟩ => ⟨h1, h2, by simp⟩
 | x :: xs, _, _, ⟨cs, rest, f1, f2, h1, h2, h3, h4⟩ => by
  obtain ⟨rfl, rfl, hx⟩ := h2
  obtain ⟨rfl, rfl, hxs⟩ := Elems.ints_inv h3
  subst h1 h4
  exact ⟨rfl, rfl, fun y hy => by rcases mem_cons.1 hy with rfl | hy; exact hx; exact hxs y hy⟩
theorem St.sorted {w0 W : World} {rs : List Res} {b off cap : Nat} {xs ys : List Int} {fp : List Nat} (h : St w0 W (Res.own (.slice (some ⟨b, off, none⟩) xs.length cap) xs fp :: rs)) (hne : xs ≠ []) (hl : ys.length = xs.length) (hm : ∀ y ∈ ys, y ∈ xs) (n : Nat) (os : Array Obj) :
  ∃ fp', St w0 (grow (putRow (Value.int .i64) (Sort.ahead W n) b off ys.toArray) os) (Res.own (.slice (some ⟨b, off, none⟩) xs.length cap) ys fp' :: rs) := by
 have hown := h.get 0 rfl
 have hwr := hown.2
 obtain ⟨ao, cap', e, h1, h2, h3⟩ := aR hown
 injection e with e1 e2 e3
 subst e1 e3
 rcases h3 with ⟨h0, _⟩ | ⟨b', off', f, _, e4, rfl, hb, h3⟩
 ·exact absurd h0 hne
 injection e4 with e4
 injection e4 with e5 e6
 subst e5 e6
 obtain ⟨cells, he, hr⟩ := Elems.of_at off h3
 obtain ⟨rfl, rfl, h64⟩ := he.ints_inv
 obtain ⟨C, e, hC⟩ := hwr b (by simp)
 have hdr : Holds (Value.int .i64) W b off xs.toArray := by
  intro j hj
  have hj' : j < xs.length := by simpa using hj
  refine ⟨?_, by simp [World.frozen?, hC]⟩
  rw [hr j (I xs[j]) (by simp [hj'])]
  simp [hj']
 have hC' : (grow (putRow (Value.int .i64) (Sort.ahead W n) b off ys.toArray) os).heap[b]? = some (.cells (putCells (Value.int .i64) off ys.toArray C) e (0, 0)) := by
  rw [heap_grow_old _ _ (by simpa using hb)]
  simp [putRow, mapBlock, Sort.ahead, Array.getElem?_modify, hC, onCells]
 refine ⟨[b], h.turn (r' := Res.own _ ys [b]) rfl rfl rfl (by simp [grow]) ?_ ?_ (by simp [Res.own]) (fun c hc => .inl hc)⟩
 ·intro k hk hkn
  have hkb : b ≠ k := fun e => hkn (by simp [Res.own, e])
  rw [heap_grow_old _ _ (by simpa using hk)]
  simp [putRow, mapBlock, Sort.ahead, Array.getElem?_modify, hkb]
 refine ⟨Sl.v ⟨some ⟨b, off, none⟩, cap, by rw [hl], by rw [hl]; exact h1, h2, .inr ⟨b, off, [], ?_, rfl, rfl, ?_, ?_⟩⟩, ?_⟩
 ·intro e0; rw [e0] at hl; exact hne (eq_nil_of_length_eq_zero hl.symm)
 ·exact (Array.getElem?_eq_some_iff.1 hC').1
 ·refine (Elems.ints ys (fun y hy => h64 y (hm y hy))).at off ?_
  intro j u hj
  have hjl : j < ys.length := by have := (gsi_.1 hj).1; simpa using this
  have hu : u = I ys[j] := by simpa [hjl] using hj.symm
  have hc := cell?_putRow (Value.int .i64) (Sort.ahead W n) b off xs.toArray ys.toArray (holds_ahead _ _ _ _ _ _ hdr) (by simp [hl]) j (by simpa using hjl)
  rw [cell?_grow _ _ _ (by simpa using hb)]
  rw [hc, hu]
  simp [hjl]
 intro c hc
 simp at hc; subst hc
 exact ⟨_, _, hC'⟩
end Go.Proofs.YtanpcpoogkdlaaaGreat
namespace Go.Proofs.YtanpcpoogkdlaaaGreat
set_option linter.unusedSimpArgs false
set_option linter.unusedVariables false
set_option maxRecDepth 100000
set_option maxHeartbeats 2000000
open Go.RowKit Go.Proofs.Tryz List
open Go.Sort
def lays189_ren : Go.Shelf.Ren := ⟨fun | 189 => 406 | 125 => 411 | 257 => 410 | 128 => 422 | 129 => 423 | 294 => 413 | 295 => 414 | 296 => 415 | 297 => 416 | 298 => 417 | 299 => 418 | 216 => 419 | 300 => 420 | 301 => 421 | 328 => 425 | 329 => 426 | 330 => 427 | 331 => 428 | 332 => 429 | 215 => 430 | 343 => 431 | n => n, fun | 28 => 34 | 3 => 3 | 46 => 298 | 0 => 0 | 51 => 384 | 53 => 386 | 4 => 4 | 183 => 377 | 182 => 376 | 131 => 226 | 5 => 5 | 9 => 9 | 218 => 388 | 222 => 392 | 228 => 394 | 229 => 351 | n => n, fun | n => n⟩
theorem aI0 : Go.Proofs.Lays.n189 prog lays189_ren where
 mixed := by kernel_rfl
 f125 := func411.trans (congrArg some aD)
 f128 := func422.trans (congrArg some aD)
 f129 := func423.trans (congrArg some aD)
 f189 := func406.trans (congrArg some aD)
 f215 := func430.trans (congrArg some aD)
 f216 := func419.trans (congrArg some aD)
 f257 := func410.trans (congrArg some aD)
 f294 := func413.trans (congrArg some aD)
 f295 := func414.trans (congrArg some aD)
 f296 := func415.trans (congrArg some aD)
 f297 := func416.trans (congrArg some aD)
 f298 := func417.trans (congrArg some aD)
 f299 := func418.trans (congrArg some aD)
 f300 := func420.trans (congrArg some aD)
 f301 := func421.trans (congrArg some aD)
 f328 := func425.trans (congrArg some aD)
 f329 := func426.trans (congrArg some aD)
 f330 := func427.trans (congrArg some aD)
 f331 := func428.trans (congrArg some aD)
 f332 := func429.trans (congrArg some aD)
 f343 := func431.trans (congrArg some aD)
 t0 := underlying0
 a0 := Tryz.isAgg0
 z0 := Tryz.sizeOf0
 v0 := Tryz.zeroValue0
 t3 := underlying3
 a3 := Tryz.isAgg3
 z3 := Tryz.sizeOf3
 v3 := Tryz.zeroValue3
 t4 := underlying4
 a4 := Tryz.isAgg4
 z4 := Tryz.sizeOf4
 v4 := Tryz.zeroValue4
 t5 := underlying5
 a5 := Tryz.isAgg5
 z5 := Tryz.sizeOf5
 v5 := Tryz.zeroValue5
 t9 := underlying9
 a9 := Tryz.isAgg9
 z9 := Tryz.sizeOf9
 v9 := Tryz.zeroValue9
 t28 := underlying34
 a28 := Tryz.isAgg34
 z28 := Tryz.sizeOf34
 v28 := Tryz.zeroValue34
 t46 := underlying298
 a46 := Tryz.isAgg298
 z46 := Tryz.sizeOf298
 v46 := Tryz.zeroValue298
 t51 := underlying384
 a51 := Tryz.isAgg384
 z51 := Tryz.sizeOf384
 v51 := Tryz.zeroValue384
 t53 := underlying386
 a53 := Tryz.isAgg386
 z53 := Tryz.sizeOf386
 v53 := Tryz.zeroValue386
 t131 := underlying226
 a131 := Tryz.isAgg226
 z131 := Tryz.sizeOf226
 v131 := Tryz.zeroValue226
 t182 := underlying376
 a182 := Tryz.isAgg376
 z182 := Tryz.sizeOf376
 v182 := Tryz.zeroValue376
 t183 := underlying377
 a183 := Tryz.isAgg377
 z183 := Tryz.sizeOf377
 v183 := Tryz.zeroValue377
 t218 := underlying388
 a218 := Tryz.isAgg388
 z218 := Tryz.sizeOf388
 v218 := Tryz.zeroValue388
 t222 := underlying392
 a222 := Tryz.isAgg392
 z222 := Tryz.sizeOf392
 v222 := Tryz.zeroValue392
 t228 := underlying394
 a228 := Tryz.isAgg394
 z228 := Tryz.sizeOf394
 v228 := Tryz.zeroValue394
 t229 := underlying351
 a229 := Tryz.isAgg351
 z229 := Tryz.sizeOf351
 v229 := Tryz.zeroValue351


theorem SortOwn {w0 W : World} {rs : List Res} {v : Value} {xs : List Int} {fp : List Nat} (h : St w0 W (Res.own v xs fp :: rs)) (hn : xs.length ≤ 1000000) :
  Calls prog 406 #[v] W fun e w' => e = .returned (.tuple #[]) ∧ ∃ fp', St w0 w' (Res.own v (cV xs) fp' :: rs) := by
 have hsl := aR (h.get 0 rfl)
 have hwr := (h.get 0 rfl).2
 obtain ⟨ao, cap, rfl, h1, h2, h3⟩ := hsl
 rcases h3 with ⟨rfl, rfl⟩ | ⟨b, off, f, hne, rfl, rfl, hb, h3⟩
 ·refine (Any.slices_Sort_int_none aI0 ao cap W).mono ?_
  rintro e w' ⟨he, rfl⟩
  refine ⟨he, [], ?_⟩
  rw [show cV [] = [] from eq_nil_of_length_eq_zero (rS [])]
  exact h
 obtain ⟨cells, he, hr⟩ := Elems.of_at off h3
 obtain ⟨rfl, rfl, h64⟩ := he.ints_inv
 obtain ⟨C, e, hC⟩ := hwr b (by simp)
 have hdr : Holds (Value.int .i64) W b off xs.toArray := by
  intro j hj
  have hj' : j < xs.length := by simpa using hj
  refine ⟨?_, by simp [World.frozen?, hC]⟩
  rw [hr j (I xs[j]) (by simp [hj'])]
  simp [hj']
 refine (Any.slices_Sort_int aI0 b off cap xs W hdr hb aC).mono ?_
 rintro e' w' ⟨he', n, os, rfl⟩
 obtain ⟨fp', hst⟩ := h.sorted hne (rS xs) (fun y hy => (lR xs).mem_iff.1 hy) n os
 exact ⟨he', fp', hst⟩

end Go.Proofs.YtanpcpoogkdlaaaGreat
namespace Go.Proofs.YtanpcpoogkdlaaaGreat
set_option linter.unusedSimpArgs false
set_option linter.unusedVariables false
set_option maxRecDepth 100000
set_option maxHeartbeats 2000000
open Go.RowKit Go.Proofs.Tryz List
variable (w : World) {cs ds : List Value} {fp gp : List Nat}
theorem BeforeE {p : Plan} (hc : Shape.C w cs p fp) (task : Int) (hn : 1 ≤ p.tasks ∧ p.tasks ≤ 12) (hl : p.edges.length ≤ 30) (hE : EdgesIn p.tasks.toNat p.edges) :
  Calls prog 386 #[.agg cs.toArray, I task] w (rS_ (cV (cH p.edges task)) w) := by
 refine bC func386 rfl ntmps386 aU (wp_seq (aA (sg (aH (cs := cs) rfl (St.start w) ?_)))); intro b1 W2 hb3 st4
 refine sg (aF (v := .slice none 0 0) rfl (aB (wp_seq (aA (sg (aZ (cs := []) (e := 3) jD (dU fG _) st4 ?_)))))); intro b8 W9 hb10 st11
 have st11 := st11.row_empty (α := Int)
 refine sg (aF (v := (.slice (some ⟨b8, 0, none⟩) 0 0)) rfl (aB (wp_seq (wp_seq (aA (sg (aE (aB (wp_block (aQ (fun (m : Nat) (f : Nat → Value) (W : World) => ∃ (k : Nat) (v17 : Value), k ≤ p.tasks.toNat ∧ m = p.tasks.toNat - k ∧ Ag [(1, I task), (2, pt_ b1), (5, v17), (6, I (k : Int))] f ∧ St w W ([Res.row (α := Int) 3 v17 (eP (cH p.edges task) k) [], Res.bx b1 cs 52])) (p.tasks.toNat - 0) ?_ ?_))))))))))
 ·exact ⟨0, (.slice (some ⟨b8, 0, none⟩) 0 0), (by first | omega | simp), rfl, (Ag.nil.put.put.put.put.put.put.put.to aD), st11⟩
 intro m18 f19 W20 hJ21
 obtain ⟨k, v17, hcd23_0, rfl, hA23, st22⟩ := hJ21
 refine wp_seq (wp_seq (aA ?_))
 have hk25 := hc
 obtain ⟨v25_0, g25_0, rfl, hok25, h25_0, rfl⟩ := hk25
 refine rn st22 4 hA23 [] [(12, .bool (decide ((k : Int) < p.tasks)))] [qb 1 rfl 3, .o] aD fun f26 h26_ => (aB (aK (h26_.at 12) (fun h27p => ?_) (fun h27p => ?_)))
 ·refine wp_skip (wp_seq (wp_block (wp_seq (aA (sg (aE (aB (wp_block (aQ (fun (m : Nat) (f : Nat → Value) (W : World) => ∃ (i : Nat) (v30 : Value), i ≤ p.edges.length ∧ m = p.edges.length - i ∧ Ag [(1, I task), (2, pt_ b1), (5, v30), (6, I (k : Int)), (7, I (i : Int))] f ∧ St w W ([Res.row (α := Int) 3 v30 (eP (cH p.edges task) k ++ lB (p.edges.take i) task (k : Int)) [], Res.bx b1 [I p.prio, I p.most, I p.wait, I p.tasks, v25_0] 52])) (p.edges.length - 0) ?_ ?_)))))))))
  ·exact ⟨0, v17, (by first | omega | simp), rfl, (h26_.put.to aD), (by have hz := st22; rw [show eP (cH p.edges task) k = eP (cH p.edges task) k ++ lB (p.edges.take 0) task (k : Int) from (append_nil _).symm] at hz; exact hz)⟩
  intro m31 f32 W33 hJ34
  obtain ⟨i, v30, hcd36_0, rfl, hA36, st35⟩ := hJ34
  have hol := onesF_len p.edges task (k : Int) i k
  refine wp_seq (wp_seq (aA (rn st35 5 hA36 [] [(19, .bool (decide ((i : Int) < (p.edges.length : Int))))] [qb 1 rfl 4, ql h25_0, .o] aD fun f38 h38_ => (aB (aK (h38_.at 19) (fun h39p => ?_) (fun h39p => ?_))))))
  ·refine wp_skip (wp_seq (wp_block (wp_seq (aA ?_))))
   have hi99fa3 : i < p.edges.length := aC
   obtain ⟨b41, o41, cs41, f41, hp41, hr41, hc41, hm41⟩ := idx h25_0 (i := i) hi99fa3
   have hk42 := hc41
   obtain ⟨he42, rfl, hok42⟩ := hk42
   have he42 : _ = [I (p.edges[i]'hi99fa3).from_, I (p.edges[i]'hi99fa3).to_] := he42
   subst he42
   rcases nem ((p.edges[i]'hi99fa3).from_ = (k : Int)) with h43p | h43p
   ·have h43 := decide_eq_false h43p
    refine rn st35 18 h38_ [] [(39, .bool false)] [qb 1 rfl 4, qx hp41, qr hr41 0, qk h43] aD fun f44 h44_ => (aB (lP (h44_.at 39) rfl (wp_skip (aA (rn st35 3 h44_ [7] [(7, I ((i : Int) + 1))] [qad (i : Int) 1] aD fun f46 h46_ => (aB ?_))))))
    exact ⟨_, p.edges.length - (i + 1), aC, rfl, i + 1, v30, aC, rfl, (h46_.to aD), (by rw [qJ aC (by intro hh_; exact absurd hh_.1 h43p)]; exact st35)⟩
   have h43 := decide_eq_true h43p
   refine rn st35 18 h38_ [] [(39, .bool (decide ((p.edges[i]'hi99fa3).to_ = task)))] [qb 1 rfl 4, qx hp41, qr hr41 0, qk h43, qb 1 rfl 4, qx hp41, qr hr41 1, .o] aD fun f47 h47_ => (aB (aK (h47_.at 39) (fun h48p => ?_) (fun h48p => ?_)))
   ·refine aA (sg (aG (h47_.at 5) (sg (aG (h47_.at 6) (sg (aZ (cs := [I (k : Int)]) (e := 3) (eS (v := I (k : Int)) rfl jD) (bT fG _ _ rfl rfl aU) st35 ?_)))))); intro b51 W52 hb53 st54
    refine sg (dR (ys := [(k : Int)]) fG rfl rfl rfl st54.f1 (Elems.ic (by simp only [I64]; omega) Elems.i0) (by unfold maxLen; omega) aC ?_); intro v57 W58 st59
    refine sg (aF (v := v57) rfl (aB (aA (rn st59 3 h47_.put.put.put.put.put [7] [(7, I ((i : Int) + 1))] [qad (i : Int) 1] aD fun f63 h63_ => (aB ?_)))))
    exact ⟨_, p.edges.length - (i + 1), aC, rfl, i + 1, v57, aC, rfl, (h63_.to aD), (by rw [onesF_step_t aC (by constructor <;> assumption), ← append_assoc]; exact st59)⟩
   refine wp_skip (aA (rn st35 3 h47_ [7] [(7, I ((i : Int) + 1))] [qad (i : Int) 1] aD fun f65 h65_ => (aB ?_)))
   exact ⟨_, p.edges.length - (i + 1), aC, rfl, i + 1, v30, aC, rfl, (h65_.to aD), (by rw [qJ aC (by intro hh_; exact absurd hh_.2 h48p)]; exact st35)⟩
  refine wp_exit (aA (rn st35 3 h38_ [6] [(6, I ((k : Int) + 1))] [qad (k : Int) 1] aD fun f67 h67_ => (aB ?_)))
  exact ⟨_, p.tasks.toNat - (k + 1), aC, rfl, k + 1, v30, aC, rfl, (h67_.to aD), (by rw [tK]; rw [show i = p.edges.length by omega, take_length] at st35; exact st35)⟩
 refine wp_exit (wp_seq (aA (sg (aG (h26_.at 5) (sg (aF (v := v17) rfl (aB (wr (aM results386 rfl ?_)))))))))
 obtain rfl : k = p.tasks.toNat := by omega
 rw [byTurn_eq (xV hE task)] at st22
 obtain ⟨fpz, stz⟩ := st22.shut
 exact ⟨_, fpz, rfl, stz.only 0 rfl⟩
theorem BeforeOfI {p : Plan} (hc : Shape.C w cs p fp) (task : Int) :
  Calls prog 379 #[.agg cs.toArray, I task] w (rS_ (bH p task) w) := by
 refine bC func379 rfl ntmps379 aU (wp_seq (aA (sg (aH (cs := cs) rfl (St.start w) ?_)))); intro b1 W2 hb3 st4
 refine sg (aF (v := .slice none 0 0) rfl (aB (wp_seq (wp_seq (aA (rc st4 3 Ag.nil.put.put.put.put [] [(10, .bool (!decide ((cJ p) = 0)))] [qw 0 rfl (Shape.len hc), qc func302 rfl (fun W s b => wK W (bG hc s.below)), .o] aD fun f9 W10 h9_ st11 hb12 => (aB (bE (h9_.at 10) (fun h13p => ?_) (fun h13p => ?_)))))))))
 ·refine wp_seq (aA (sg (aF (v := .slice none 0 0) rfl (aB (wr (aM results379 rfl ?_))))))
  have hb : bH p task = [] := by unfold bH; rw [if_neg (by assumption)]
  rw [hb]
  exact ⟨_, [], rfl, (St.own_nil (α := Int) st11).only 0 rfl⟩
 refine wp_skip (wp_seq (aA ?_))
 have hF0 : cJ p = 0 := by omega
 obtain ⟨hM, hE, _, _⟩ := vD hF0
 have hMb := pM hM
 refine sg (aF (v := .slice none 0 0) rfl (aB (wp_seq (wp_seq (aA ?_)))))
 have hk19 := hc
 obtain ⟨v19_0, g19_0, rfl, hok19, h19_0, rfl⟩ := hk19
 refine rn st11 4 h9_.put [] [(12, v19_0), (13, I (p.edges.length : Int)), (14, I 0)] [qb 0 rfl 4, ql h19_0] aD fun f20 h20_ => (aB (wp_block ?_))
 have st22 := st11.row_nil (α := Int) 3
 refine aQ (fun (m : Nat) (f : Nat → Value) (W : World) => ∃ (k : Nat) (v21 : Value), k ≤ p.edges.length ∧ m = p.edges.length - k ∧ Ag [(1, I task), (5, v21), (12, v19_0), (13, I (p.edges.length : Int)), (14, I (k : Int))] f ∧ St w W ([Res.row (α := Int) 3 v21 (cH (p.edges.take k) task) [], Res.bx b1 [I p.prio, I p.most, I p.wait, I p.tasks, v19_0] 52])) (p.edges.length - 0) ?_ ?_
 ·exact ⟨0, (.slice none 0 0), (by first | omega | simp), rfl, (h20_.to aD), st22⟩
 intro m24 f25 W26 hJ27
 obtain ⟨k, v21, hcd29_0, rfl, hA29, st28⟩ := hJ27
 have hfl := sJ (p.edges.take k) task
 have htl := length_take_le k p.edges
 refine wp_seq (aA (sg (bA (hA29.at 14) (hA29.at 13) (aB (wp_seq (aK rfl (fun h32p => ?_) (fun h32p => ?_)))))))
 ·refine wp_skip (wp_seq (wp_block (wp_seq (aA ?_))))
  have hiab516 : k < p.edges.length := aC
  obtain ⟨b33, o33, cs33, f33, hp33, hr33, hc33, hm33⟩ := idx h19_0 (i := k) hiab516
  refine sg (aY kX (hA29.at 12) hp33 (hA29.at 14) rfl (sg (dX gR rfl rfl hr33 st28.below (Shape.len hc33) (sg (aT lL st28 ?_))))); intro b36 W37 hb38 st39
  refine sgn (bR (cs := cs33) gR hc33 rfl rfl st39 rfl ?_); intro W41 st42
  refine aB (wp_seq (aA (sg (aL sM rfl ?_))))
  have hea := hE.at (k := k) aC
  have hk45 := hc33
  obtain ⟨he45, rfl, hok45⟩ := hk45
  have he45 : _ = [I (p.edges[k]'hiab516).from_, I (p.edges[k]'hiab516).to_] := he45
  subst he45
  refine rn st42 3 hA29.put.put.put.put.put [] [(21, .bool (decide ((p.edges[k]'hiab516).to_ = task)))] [qb 0 rfl 1, .o] aD fun f47 h47_ => (aB (aK (h47_.at 21) (fun h48p => ?_) (fun h48p => ?_)))
  ·refine aA (rn st42 3 h47_ [] [(22, v21), (24, I (p.edges[k]'hiab516).from_)] [qb 0 rfl 0] aD fun f50 h50_ => (sg (aZ (cs := [I (p.edges[k]'hiab516).from_]) (e := 3) (eS (h50_.at 24) jD) (bT fG _ _ rfl rfl aU) st42 ?_))); intro b51 W52 hb53 st54
   refine sg (dR (ys := [(p.edges[k]'hiab516).from_]) fG (h50_.at 22) rfl rfl st54.f2 (Elems.ic (by have := hc; simp only [I64]; omega) Elems.i0) (by unfold maxLen; omega) aC ?_); intro v57 W58 st59
   refine sg (aF (v := v57) rfl (aB (aA (sg (bW (h50_.at 14) rfl eI (sg (aG (v := I ((k : Int) + 1)) rfl (aB ?_))))))))
   exact ⟨_, p.edges.length - (k + 1), aC, rfl, k + 1, v57, aC, rfl, (h50_.put.put.put.put.put.to aD), (by rw [mG aC h48p]; exact st59.f2.f1.d2)⟩
  refine wp_skip (aA (sg (bW (h47_.at 14) rfl eI (sg (aG (v := I ((k : Int) + 1)) rfl (aB ?_))))))
  exact ⟨_, p.edges.length - (k + 1), aC, rfl, k + 1, v21, aC, rfl, (h47_.put.put.to aD), (by rw [qX aC h48p]; exact st42.f2.f2.d2)⟩
 refine wp_exit (wp_seq (aA (sg (aG (hA29.at 5) ?_))))
 obtain ⟨fp75, st76⟩ := st28.shut
 refine sg (bO func406 rfl rfl ((SortOwn st76 (by rw [take_of_length_le aC] at hfl; rw [take_of_length_le aC]; omega)).mono ?_)); rintro _ W74 ⟨rfl, fp78, st77⟩; refine ⟨_, rfl, ?_⟩
 refine aB (wp_seq (aA (sg (aG (hA29.at 5) (sg (aF (v := v21) rfl (aB (wr (aM results379 rfl ?_)))))))))
 obtain rfl : k = p.edges.length := by omega
 rw [take_length] at st77
 have hb : bH p task = cV (cH p.edges task) := by unfold bH; rw [if_pos aC]
 rw [hb]
 exact ⟨_, _, rfl, st77.only 0 rfl⟩
def cE (ts : List Task) (s : Int) : Int := ((ts.filter (fun t => decide (t.state = s))).length : Int)
def dG (ts : List Task) : List Int := [cE ts 0, cE ts 1, cE ts 2, cE ts 3, cE ts 4, cE ts 5, cE ts 6]
theorem dD (ts : List Task) (s : Int) : 0 ≤ cE ts s := by unfold cE; omega
theorem mK (ts : List Task) (s : Int) : cE ts s ≤ ts.length := by
 unfold cE
 have := length_filter_le (fun t : Task => decide (t.state = s)) ts
 omega
theorem yI {ts : List Task} {k : Nat} (hk : k < ts.length) (s : Int) : cE (ts.take (k + 1)) s = cE (ts.take k) s + (if ts[k].state = s then 1 else 0) := by
 unfold cE
 rw [take_succ_eq_append_getElem hk, filter_append]
 by_cases h : ts[k].state = s <;> simp [h]
theorem rF (ts : List Task) : (dG ts).length = 7 := rfl
theorem cnts_nil : dG [] = [0, 0, 0, 0, 0, 0, 0] := rfl
theorem cnts_set {ts : List Task} {k : Nat} (hk : k < ts.length) (h : 1 ≤ ts[k].state ∧ ts[k].state ≤ 6) (hl : ts[k].state.toNat < (dG (ts.take k)).length) :
  (dG (ts.take k)).set ts[k].state.toNat ((dG (ts.take k))[ts[k].state.toNat]'hl + 1) = dG (ts.take (k + 1)) := by
 have hc : ts[k].state = 1 ∨ ts[k].state = 2 ∨ ts[k].state = 3 ∨ ts[k].state = 4 ∨ ts[k].state = 5 ∨ ts[k].state = 6 := by omega
 have e : dG (ts.take (k + 1)) = [cE (ts.take k) 0 + (if ts[k].state = 0 then 1 else 0), cE (ts.take k) 1 + (if ts[k].state = 1 then 1 else 0), cE (ts.take k) 2 + (if ts[k].state = 2 then 1 else 0), cE (ts.take k) 3 + (if ts[k].state = 3 then 1 else 0), cE (ts.take k) 4 + (if ts[k].state = 4 then 1 else 0), cE (ts.take k) 5 + (if ts[k].state = 5 then 1 else 0), cE (ts.take k) 6 + (if ts[k].state = 6 then 1 else 0)] := by
  unfold dG
  simp only [yI hk]
 rw [e]
 generalize ts[k].state = s at hc hl ⊢
 rcases hc with rfl | rfl | rfl | rfl | rfl | rfl <;> simp [dG]
theorem cnts_rng (ts : List Task) (i : Nat) (h : i < (dG ts).length) : 0 ≤ (dG ts)[i] ∧ (dG ts)[i] ≤ ts.length := by
 have hm : (dG ts)[i] ∈ dG ts := getElem_mem h
 generalize (dG ts)[i] = y at hm
 simp only [dG, mem_cons, not_mem_nil, or_false] at hm
 rcases hm with rfl | rfl | rfl | rfl | rfl | rfl | rfl <;> exact ⟨dD _ _, mK _ _⟩
theorem aJ1 : ∀ {ts : List Task}, (∀ t ∈ ts, 1 ≤ t.state ∧ t.state ≤ 6) → cE ts 1 + cE ts 2 + cE ts 3 + cE ts 4 + cE ts 5 + cE ts 6 = ts.length
 | [], _ => rfl
 | t :: ts, h => by
  have ih := aJ1 (ts := ts) (fun x hx => h x (by simp [hx]))
  have ht := h t (by simp)
  have hs : ∀ s : Int, cE (t :: ts) s = cE ts s + (if t.state = s then 1 else 0) := by
   intro s
   unfold cE
   by_cases hh : t.state = s <;> simp [hh]
  simp only [hs, length_cons]
  have hc : t.state = 1 ∨ t.state = 2 ∨ t.state = 3 ∨ t.state = 4 ∨ t.state = 5 ∨ t.state = 6 := by omega
  rcases hc with e | e | e | e | e | e <;> simp [e] <;> omega
theorem sY (ts : List Task) (s : Int) : ∀ k, k ≤ ts.length → ((gJ ts s k).length : Int) = cE (ts.take k) s
 | 0, _ => rfl
 | k + 1, h => by
  have ih := sY ts s k aC
  have hk : k < ts.length := by omega
  rw [yI hk]
  by_cases hh : ts[k].state = s
  ·rw [wY hk hh, length_append, if_pos hh, length_singleton]; omega
  rw [wZ hk hh, if_neg hh]; omega
theorem mT (ts : List Task) (s : Int) : ((bV ts s).length : Int) = cE ts s := by
 have := sY ts s ts.length (Nat.le_refl _)
 rwa [take_length] at this
def iI (ts : List Task) : Int :=
 if cE ts 4 = ts.length then 2 else if cE ts 5 = 1 ∧ cE ts 1 + cE ts 2 + cE ts 3 = 0 then 3 else if cE ts 5 = 0 ∧ 0 < cE ts 6 ∧ cE ts 1 + cE ts 2 + cE ts 3 = 0 then 4 else if cE ts 5 = 0 ∧ cE ts 6 = 0 then 1 else 0
def sH (r : Run) (x : Int) : Bool := match r.tasks[x.toNat]? with | some t => decide (t.state = 4) | none => false
def dO (r : Run) (l : List Int) : Int := ((l.filter (fun b => !sH r b)).length : Int)
noncomputable def jU (r : Run) (task : Int) : Int := dO r (bH r.plan task)
theorem kL {r : Run} {l : List Int} {k : Nat} (hk : k < l.length) : dO r (l.take (k + 1)) = dO r (l.take k) + (if sH r l[k] then 0 else 1) := by
 unfold dO
 rw [take_succ_eq_append_getElem hk, filter_append]
 cases h : sH r l[k] <;> simp [h]
theorem vJ (r : Run) (l : List Int) : 0 ≤ dO r l ∧ dO r l ≤ l.length := by
 unfold dO
 have := length_filter_le (fun b => !sH r b) l
 omega
def kG (r : Run) (need : Int) (t : Task) : Prop :=
 (1 ≤ t.state ∧ t.state ≤ 6) ∧ t.need = need ∧ (0 ≤ t.try_ ∧ t.try_ ≤ r.plan.most) ∧ (t.state = 3 → 1 ≤ t.until_ ∧ t.until_ ≤ 1000000000) ∧ (¬ t.state = 3 → t.until_ = 0) ∧
 (t.state = 1 → 0 < need) ∧ (t.state = 2 → need = 0 ∧ t.try_ < r.plan.most) ∧ ((t.state = 3 ∨ t.state = 4 ∨ t.state = 5) → need = 0 ∧ 1 ≤ t.try_)
def kH (r : Run) (k : Nat) : Prop := ∀ h : k < r.tasks.length, kG r (jU r (k : Int)) r.tasks[k]
noncomputable def fD (r : Run) : Bool := pB ((1 ≤ r.id ∧ r.id ≤ 9999) ∧ cJ r.plan = 0 ∧ (r.tasks.length : Int) = r.plan.tasks ∧ (∀ k, k < r.tasks.length → kH r k) ∧ r.state = iI r.tasks ∧ ¬ r.state = 0)
theorem oC {r : Run} {x : Int} (h : x.toNat < r.tasks.length) : sH r x = decide (r.tasks[x.toNat].state = 4) := by
 unfold sH; rw [getElem?_eq_getElem h]
theorem aN8 {n a b : Int} : inB n a b = false ↔ ¬ (a ≤ n ∧ n ≤ b) := by rw [← inB_iff', Bool.not_eq_true]
theorem tL {p : Prop} {b : Bool} (h : p ↔ b = true) : pB p = b := by cases b <;> simp_all [pB]
theorem tT {r : Run} {b : Bool} (h1 : (1 ≤ r.id ∧ r.id ≤ 9999) ∧ cJ r.plan = 0 ∧ (r.tasks.length : Int) = r.plan.tasks) (h4 : ∀ k, k < r.tasks.length → kH r k) (h : (r.state = iI r.tasks ∧ ¬ r.state = 0) ↔ b = true) : fD r = b := by
 unfold fD; exact tL ⟨fun hz => h.1 hz.2.2.2.2, fun hb => ⟨h1.1, h1.2.1, h1.2.2, h4, h.2 hb⟩⟩
theorem rk_ {P : Prop} (h : P := by (simp only [Bool.and_eq_true, Bool.or_eq_true, Bool.not_eq_true', Bool.or_eq_false_iff, Bool.and_eq_false_iff, Bool.not_eq_false', decide_eq_true_eq, decide_eq_false_iff_not, inB_iff', aN8] at *; omega)) : P := h
theorem tk_ {P : Prop} (h : P := by (unfold kG; simp only [Bool.and_eq_true, Bool.or_eq_true, Bool.not_eq_true', Bool.or_eq_false_iff, Bool.and_eq_false_iff, Bool.not_eq_false', decide_eq_true_eq, decide_eq_false_iff_not, inB_iff', aN8] at *; omega)) : P := h
theorem aD4 {p : Prop} (h : pB p = false) : ¬ p := fun hp => by rw [lX hp] at h; cases h
theorem oP (ts : List Task) : (cE ts 4 = ts.length → iI ts = 2) ∧ (¬ cE ts 4 = ts.length → (cE ts 5 = 1 ∧ cE ts 1 + cE ts 2 + cE ts 3 = 0) → iI ts = 3) ∧
  (¬ cE ts 4 = ts.length → ¬ (cE ts 5 = 1 ∧ cE ts 1 + cE ts 2 + cE ts 3 = 0) → (cE ts 5 = 0 ∧ 0 < cE ts 6 ∧ cE ts 1 + cE ts 2 + cE ts 3 = 0) → iI ts = 4) ∧
  (¬ cE ts 4 = ts.length → ¬ (cE ts 5 = 1 ∧ cE ts 1 + cE ts 2 + cE ts 3 = 0) → ¬ (cE ts 5 = 0 ∧ 0 < cE ts 6 ∧ cE ts 1 + cE ts 2 + cE ts 3 = 0) → (cE ts 5 = 0 ∧ cE ts 6 = 0) → iI ts = 1) ∧
  (¬ cE ts 4 = ts.length → ¬ (cE ts 5 = 1 ∧ cE ts 1 + cE ts 2 + cE ts 3 = 0) → ¬ (cE ts 5 = 0 ∧ 0 < cE ts 6 ∧ cE ts 1 + cE ts 2 + cE ts 3 = 0) → ¬ (cE ts 5 = 0 ∧ cE ts 6 = 0) → iI ts = 0) := by
 unfold iI
 refine ⟨fun h => by rw [if_pos h], fun h h2 => by rw [if_neg h, if_pos h2], fun h h2 h3 => by rw [if_neg h, if_neg h2, if_pos h3], fun h h2 h3 h4 => by rw [if_neg h, if_neg h2, if_neg h3, if_pos h4], fun h h2 h3 h4 => by rw [if_neg h, if_neg h2, if_neg h3, if_neg h4]⟩
theorem states_of {r : Run} (h : ∀ j, j < r.tasks.length → kH r j) : ∀ t ∈ r.tasks, 1 ≤ t.state ∧ t.state ≤ 6 := by
 intro t ht
 obtain ⟨k, hk, rfl⟩ := getElem_of_mem ht
 exact (h k hk hk).1
theorem sR (ts : List Task) (i : Nat) (h : i < (dG ts).length) : (dG ts)[i] = cE ts (i : Int) := by
 rw [rF] at h
 rcases i with _ | _ | _ | _ | _ | _ | _ | i
 ·rfl
 ·rfl
 ·rfl
 ·rfl
 ·rfl
 ·rfl
 ·rfl
 omega

theorem aK0 {r : Run} (hc : Shape.C w cs r fp) (task : Int) (hlen : (r.tasks.length : Int) = r.plan.tasks) :
  Calls prog 393 #[.agg cs.toArray, I task] w (rI_ (jU r task) w) := by
 refine bC func393 rfl ntmps393 aU (wp_seq (aA (sg (aH (cs := cs) rfl (St.start w) ?_)))); intro b1 W2 hb3 st4
 refine sg (aE (aB (wp_seq (aA (sg (aE (aB (wp_seq (wp_seq (aA ?_))))))))))
 have hk11 := hc
 obtain ⟨v11_0, v11_1, g11_0, g11_1, rfl, hok11, h11_0, h11_1, rfl⟩ := hk11
 refine rn st4 3 Ag.nil.put.put.put.put.put [] [(9, .agg #[I r.plan.prio, I r.plan.most, I r.plan.wait, I r.plan.tasks, v11_0]), (10, I task)] [qb 0 rfl 1] aD fun f12 h12_ => (sg (bK func379 rfl (h12_.at 9) (h12_.at 10) ((BeforeOfI W2 (show Shape.C _ [I r.plan.prio, I r.plan.most, I r.plan.wait, I r.plan.tasks, v11_0] r.plan _ from ⟨_, _, rfl, eQ, (h11_0.below st4.below), rfl⟩) task).mono ?_))); rintro _ W15 ⟨v13, fp13, rfl, hk16⟩; refine ⟨_, rfl, ?_⟩
 have st17 := St.call st4 hk16
 refine sg (fP jC rfl (aR (st17.get 0 rfl)) ?_)
 have hbl := mM r.plan task
 refine sg (aG (v := I 0) rfl (aB (wp_block (aQ (fun (m : Nat) (f : Nat → Value) (W : World) => ∃ (k : Nat), k ≤ (bH r.plan task).length ∧ m = (bH r.plan task).length - k ∧ Ag [(2, pt_ b1), (5, I (dO r ((bH r.plan task).take k))), (11, v13), (12, I ((bH r.plan task).length : Int)), (13, I (k : Int))] f ∧ St w W ([Res.own (α := List Int) v13 (bH r.plan task) fp13, Res.bx b1 [I r.id, I r.plan.prio, I r.plan.most, I r.plan.wait, I r.plan.tasks, v11_0, I r.state, v11_1] 55])) ((bH r.plan task).length - 0) ?_ ?_))))
 ·exact ⟨0, aC, rfl, (h12_.put.put.put.to aD), st17⟩
 intro m23 f24 W25 hJ26
 obtain ⟨k, hk, rfl, hA28, st27⟩ := hJ26
 have hnr := vJ r ((bH r.plan task).take k)
 have htl := length_take_le k (bH r.plan task)
 refine wp_seq (aA (sg (bA (hA28.at 13) (hA28.at 12) (aB (wp_seq (aK rfl (fun h31p => ?_) (fun h31p => ?_)))))))
 ·refine wp_skip (wp_seq (wp_block (wp_seq (aA ?_))))
  have hi15359 : k < (bH r.plan task).length := aC
  obtain ⟨b32, o32, cs32, f32, hp32, hr32, hc32, hm32⟩ := idx (aR (st27.get 0 rfl)) (i := k) hi15359
  have hk32 := hc32
  obtain ⟨rfl, rfl, hok32⟩ := hk32
  refine rn st27 3 hA28.put [] [(7, I ((bH r.plan task)[k]'hi15359))] [qx hp32, qn hr32 0] aD fun f34 h34_ => (aB (wp_seq (aA (rn st27 3 h34_ [] [(18, v11_1), (19, I ((bH r.plan task)[k]'hi15359))] [qb 1 rfl 7] aD fun f36 h36_ => ?_))))
  have hbr := wD r.plan task _ (getElem_mem (l := (bH r.plan task)) (n := k) aC)
  have hi20db9 : (((bH r.plan task)[k]'hi15359)).toNat < r.tasks.length := aC
  obtain ⟨b37, o37, cs37, f37, hp37, hr37, hc37, hm37⟩ := idx h11_1 (i := (((bH r.plan task)[k]'hi15359)).toNat) hi20db9
  have hk39 := hc37
  obtain ⟨he39, rfl, hok39⟩ := hk39
  have he39 : _ = [I (r.tasks[(((bH r.plan task)[k]'hi15359)).toNat]'hi20db9).state, I (r.tasks[(((bH r.plan task)[k]'hi15359)).toNat]'hi20db9).need, I (r.tasks[(((bH r.plan task)[k]'hi15359)).toNat]'hi20db9).try_, I (r.tasks[(((bH r.plan task)[k]'hi15359)).toNat]'hi20db9).until_] := he39
  subst he39
  refine rn st27 4 h36_ [] [(23, .bool (!decide ((r.tasks[(((bH r.plan task)[k]'hi15359)).toNat]'hi20db9).state = 4)))] [qxe hp37 (e := ((bH r.plan task)[k]'hi15359)) aC, qr hr37 0, .o] aD fun f40 h40_ => (aB (bE (h40_.at 23) (fun h41p => ?_) (fun h41p => ?_)))
  ·refine aA (rn st27 3 h40_ [5] [(5, I ((dO r ((bH r.plan task).take k)) + 1))] [qad (dO r ((bH r.plan task).take k)) 1] aD fun f43 h43_ => (aB (aA (sg (bW (h43_.at 13) rfl eI ?_)))))
   have hbl := mM r.plan task
   refine sg (aG (v := I ((k : Int) + 1)) rfl (aB ?_))
   exact ⟨_, (bH r.plan task).length - (k + 1), aC, rfl, k + 1, aC, rfl, (Ag.cons (h43_.at 2) (Ag.cons (Eq.trans (show _ = I ((dO r ((bH r.plan task).take k)) + 1) from (h43_.at 5)) (congrArg I (by rw [kL aC, oC aC]; simp only [h41p, decide_true, decide_false, Bool.false_eq_true, if_true, if_false]; try omega))) (Ag.cons (h43_.at 11) (Ag.cons (h43_.at 12) (Ag.cons rfl Ag.nil))))), st27⟩
  refine wp_skip (aA (sg (bW (h40_.at 13) rfl eI ?_)))
  have hbl := mM r.plan task
  refine sg (aG (v := I ((k : Int) + 1)) rfl (aB ?_))
  exact ⟨_, (bH r.plan task).length - (k + 1), aC, rfl, k + 1, aC, rfl, (Ag.cons (h40_.at 2) (Ag.cons (Eq.trans (show _ = I (dO r ((bH r.plan task).take k)) from (h40_.at 5)) (congrArg I (by rw [kL aC, oC aC]; simp only [h41p, decide_true, decide_false, Bool.false_eq_true, if_true, if_false]; try omega))) (Ag.cons (h40_.at 11) (Ag.cons (h40_.at 12) (Ag.cons rfl Ag.nil))))), st27⟩
 refine wp_exit (wp_seq (aA (sg (aG (hA28.at 5) (sg (aF (v := I (dO r ((bH r.plan task).take k))) rfl (aB (wr (aM results393 rfl ?_)))))))))
 obtain rfl : k = (bH r.plan task).length := by omega
 exact ⟨(fI (by rw [take_length]; rfl)), st27.bare⟩
theorem TaskOkI {r : Run} (hc : Shape.C w cs r fp) {k : Nat} (hk : k < r.tasks.length) (hlen : (r.tasks.length : Int) = r.plan.tasks) :
  Calls prog 343 #[.agg cs.toArray, I (k : Int)] w (rB_ (pB (kG r (jU r (k : Int)) (r.tasks[k]'hk))) w) := by
 have hcap : r.tasks.length ≤ 9223372036854775807 := by have h0 := hc; obtain ⟨v1, v2, f1, f2, h0, hok, h1, h2, hfp⟩ := h0; exact h2.len_le
 refine bC func343 rfl ntmps343 aU (wp_seq (aA (sg (aH (cs := cs) rfl (St.start w) ?_)))); intro b1 W2 hb3 st4
 refine sg (aE (aB (wp_seq (aA ?_))))
 have hk9 := hc
 obtain ⟨v9_0, v9_1, g9_0, g9_1, rfl, hok9, h9_0, h9_1, rfl⟩ := hk9
 have hif4d94 : k < r.tasks.length := aC
 obtain ⟨b10, o10, cs10, f10, hp10, hr10, hc10, hm10⟩ := idx h9_1 (i := k) hif4d94
 refine rn st4 5 Ag.nil.put.put.put.put [] [(10, .agg cs10.toArray)] [qb 0 rfl 7, qx hp10, qrw hr10 (Shape.len hc10)] aD fun f11 h11_ => (sg (aT nP st4 ?_)); intro b12 W13 hb14 st15
 refine sgn (bR (cs := cs10) oA hc10 rfl (h11_.at 10) st15 rfl ?_); intro W17 st18
 refine aB (wp_seq (wp_seq ?_))
 rcases bd (!(inB (r.tasks[k]'hif4d94).state 1 6)) with h21 | h21
 ·have h21p := inB_iff'.1 (bY h21)
  rcases Decidable.em ((r.tasks[k]'hif4d94).need = (jU r (k : Int))) with h24p | h24p
  ·have h24 := fM h24p
   have hk26 := hc10
   obtain ⟨he26, rfl, hok26⟩ := hk26
   have he26 : _ = [I (r.tasks[k]'hif4d94).state, I (r.tasks[k]'hif4d94).need, I (r.tasks[k]'hif4d94).try_, I (r.tasks[k]'hif4d94).until_] := he26
   subst he26
   refine rd st18 h11_.put [] [(31, .bool (!(inB (r.tasks[k]'hif4d94).try_ 0 r.plan.most)))] [qb 0 rfl 0, qc (args := [I (r.tasks[k]'hif4d94).state, I 1, I 6]) (v := .bool (inB (r.tasks[k]'hif4d94).state 1 6)) func92 rfl (fun W s b => dH W (r.tasks[k]'hif4d94).state 1 6), qk h21, qb 0 rfl 1, qb 1 rfl 0, qc func393 rfl (fun W s b => aK0 W (bG hc s.below) (k : Int) aC), qk h24, qb 0 rfl 2, qb 1 rfl 2, qc (args := [I (r.tasks[k]'hif4d94).try_, I 0, I r.plan.most]) (v := .bool (inB (r.tasks[k]'hif4d94).try_ 0 r.plan.most)) func92 rfl (fun W s b => dH W (r.tasks[k]'hif4d94).try_ 0 r.plan.most), .o] aD aD fun f27 W28 h27_ st29 hb30 => (cF (h27_.at 31) (fun h31 => ?_) (fun h31 => ?_))
   ·have h31p := eA (aO h31)
    refine wp_seq (aA (sg (aE (aB (wr (aM results343 rfl ?_))))))
    exact ⟨(fB (dV tk_).symm), st29.bare⟩
   have h31p := inB_iff'.1 (bY h31)
   refine wp_skip (wp_seq (wp_seq (aA (rg st29 19 h27_ [] [(50, .bool (((decide ((r.tasks[k]'hif4d94).state = 3)) && (!(inB (r.tasks[k]'hif4d94).until_ 1 1000000000))) || ((!decide ((r.tasks[k]'hif4d94).state = 3)) && (!decide ((r.tasks[k]'hif4d94).until_ = 0)))))] [qb 0 rfl 0, .o, qb 0 rfl 3, qc (args := [I (r.tasks[k]'hif4d94).until_, I 1, I 1000000000]) (v := .bool (inB (r.tasks[k]'hif4d94).until_ 1 1000000000)) func92 rfl (fun W s b => dH W (r.tasks[k]'hif4d94).until_ 1 1000000000), .o, qb 0 rfl 0, .o, qb 0 rfl 3, .o] aD fun f35 W36 h35_ st37 hb38 => (aB (cF (h35_.at 50) (fun h39 => ?_) (fun h39 => ?_)))))))
   ·refine wp_seq (aA (sg (aE (aB (wr (aM results343 rfl ?_))))))
    exact ⟨(fB (dV tk_).symm), st37.bare⟩
   refine wp_skip (wp_seq (wp_seq (aA (sg (aL sL (h35_.at 5) (sg (bI mB rfl rfl (st37.get 0 rfl) (i := 0) rfl rfl (aB (wp_block (wp_seq (aA (sg (gC rfl rfl (sg (aF (v := .bool (decide ((r.tasks[k]'hif4d94).state = 1))) rfl ?_)))))))))))))))
   refine aB (aK rfl (fun h46p => ?_) (fun h46p => ?_))
   ·refine wp_seq (aA (rn st37 4 h35_.put.put.put.put [4] [(4, .bool (decide (0 < (r.tasks[k]'hif4d94).need)))] [qb 0 rfl 1, .o] aD fun f48 h48_ => (aB (wr (aM results343 (h48_.at 4) ?_)))))
    exact ⟨(fB (tL tk_).symm), st37.bare⟩
   refine wp_seq (aA (sg (gC rfl rfl (sg (aF (v := .bool (decide ((r.tasks[k]'hif4d94).state = 2))) rfl (aB (aK rfl (fun h51p => ?_) (fun h51p => ?_))))))))
   ·refine wp_seq (aA (lw h35_.put.put.put.put.put.put [(2, pt_ b1), (5, pt_ b12)] aD fun h54_ => (rg st37 12 h54_ [] [(4, .bool ((decide ((r.tasks[k]'hif4d94).need = 0)) && (decide ((r.tasks[k]'hif4d94).try_ < r.plan.most))))] [qb 0 rfl 1, .o, qb 0 rfl 2, qb 1 rfl 2, .o] aD fun f53 W55 h53_ st56 hb57 => (aB (wr (aM results343 (h53_.at 4) ?_))))))
    exact ⟨(fB (tL tk_).symm), st56.bare⟩
   refine wp_seq (wp_seq (aA (sg (gC rfl rfl (sg (aF (v := .bool (decide ((r.tasks[k]'hif4d94).state = 3))) rfl (aB (aK rfl (fun h60p => ?_) (fun h60p => ?_)))))))))
   ·have h60 := decide_eq_true h60p
    refine wp_skip (mV rfl h60 (wp_seq (aA (lw h35_.put.put.put.put.put.put.put.put [(5, pt_ b12)] aD fun h63_ => (rg st37 9 h63_ [] [(4, .bool ((decide ((r.tasks[k]'hif4d94).need = 0)) && (decide (1 ≤ (r.tasks[k]'hif4d94).try_))))] [qb 0 rfl 1, .o, qb 0 rfl 2, .o] aD fun f62 W64 h62_ st65 hb66 => (aB (wr (aM results343 (h62_.at 4) ?_))))))))
    exact ⟨(fB (tL tk_).symm), st65.bare⟩
   have h60 := decide_eq_false h60p
   refine wp_seq (aA (sg (gC rfl rfl (sg (aF (v := .bool (decide ((r.tasks[k]'hif4d94).state = 4))) rfl (aB (aK rfl (fun h69p => ?_) (fun h69p => ?_))))))))
   ·have h69 := decide_eq_true h69p
    refine wp_skip (mV rfl h69 (wp_seq (aA (lw h35_.put.put.put.put.put.put.put.put.put.put [(5, pt_ b12)] aD fun h72_ => (rg st37 9 h72_ [] [(4, .bool ((decide ((r.tasks[k]'hif4d94).need = 0)) && (decide (1 ≤ (r.tasks[k]'hif4d94).try_))))] [qb 0 rfl 1, .o, qb 0 rfl 2, .o] aD fun f71 W73 h71_ st74 hb75 => (aB (wr (aM results343 (h71_.at 4) ?_))))))))
    exact ⟨(fB (tL tk_).symm), st74.bare⟩
   have h69 := decide_eq_false h69p
   refine aA (sg (gC rfl rfl (sg (aF (v := .bool (decide ((r.tasks[k]'hif4d94).state = 5))) rfl (aB (aK rfl (fun h78p => ?_) (fun h78p => ?_)))))))
   ·refine wp_seq (aA (lw h35_.put.put.put.put.put.put.put.put.put.put.put.put [(5, pt_ b12)] aD fun h81_ => (rg st37 9 h81_ [] [(4, .bool ((decide ((r.tasks[k]'hif4d94).need = 0)) && (decide (1 ≤ (r.tasks[k]'hif4d94).try_))))] [qb 0 rfl 1, .o, qb 0 rfl 2, .o] aD fun f80 W82 h80_ st83 hb84 => (aB (wr (aM results343 (h80_.at 4) ?_))))))
    exact ⟨(fB (tL tk_).symm), st83.bare⟩
   refine wp_skip (wp_seq (aA (sg (aE (aB (wr (aM results343 rfl ?_)))))))
   exact ⟨(fB (lX tk_).symm), st37.bare⟩
  have h24 := fL h24p
  have hk88 := hc10
  obtain ⟨he88, rfl, hok88⟩ := hk88
  have he88 : _ = [I (r.tasks[k]'hif4d94).state, I (r.tasks[k]'hif4d94).need, I (r.tasks[k]'hif4d94).try_, I (r.tasks[k]'hif4d94).until_] := he88
  subst he88
  refine rd st18 h11_.put [] [(31, .bool true)] [qb 0 rfl 0, qc (args := [I (r.tasks[k]'hif4d94).state, I 1, I 6]) (v := .bool (inB (r.tasks[k]'hif4d94).state 1 6)) func92 rfl (fun W s b => dH W (r.tasks[k]'hif4d94).state 1 6), qk h21, qb 0 rfl 1, qb 1 rfl 0, qc func393 rfl (fun W s b => aK0 W (bG hc s.below) (k : Int) aC), qk h24] aD aD fun f89 W90 h89_ st91 hb92 => (mV (h89_.at 31) rfl (wp_seq (aA (sg (aE (aB (wr (aM results343 rfl ?_))))))))
  exact ⟨(fB (dV tk_).symm), st91.bare⟩
 have h21p := eA (aO h21)
 have hk96 := hc10
 obtain ⟨he96, rfl, hok96⟩ := hk96
 have he96 : _ = [I (r.tasks[k]'hif4d94).state, I (r.tasks[k]'hif4d94).need, I (r.tasks[k]'hif4d94).try_, I (r.tasks[k]'hif4d94).until_] := he96
 subst he96
 refine rd st18 h11_.put [] [(31, .bool true)] [qb 0 rfl 0, qc (args := [I (r.tasks[k]'hif4d94).state, I 1, I 6]) (v := .bool (inB (r.tasks[k]'hif4d94).state 1 6)) func92 rfl (fun W s b => dH W (r.tasks[k]'hif4d94).state 1 6), qk h21] aD aD fun f97 W98 h97_ st99 hb100 => (mV (h97_.at 31) rfl (wp_seq (aA (sg (aE (aB (wr (aM results343 rfl ?_))))))))
 exact ⟨(fB (dV tk_).symm), st99.bare⟩
theorem aF1 {r : Run} (hc : Shape.C w cs r fp) :
  Calls prog 231 #[.agg cs.toArray] w (rB_ (fD r) w) := by
 have hcap : r.tasks.length ≤ 9223372036854775807 := by have h0 := hc; obtain ⟨v1, v2, f1, f2, h0, hok, h1, h2, hfp⟩ := h0; exact h2.len_le
 refine cC func231 rfl ntmps231 aU (wp_seq (aA (sg (aH (cs := cs) rfl (St.start w) ?_)))); intro b1 W2 hb3 st4
 refine sg (aE (aB (wp_seq (wp_seq (aA ?_)))))
 have hk9 := hc
 obtain ⟨v9_0, v9_1, g9_0, g9_1, rfl, hok9, h9_0, h9_1, rfl⟩ := hk9
 refine rg st4 19 Ag.nil.put.put.put [] [(26, .bool (((!(inB r.id 1 9999)) || (!decide ((cJ r.plan) = 0))) || (!decide ((r.tasks.length : Int) = r.plan.tasks))))] [qb 0 rfl 0, qc func92 rfl (fun W s b => dH W r.id 1 9999), .o, qb 0 rfl 1, qc func302 rfl (fun W s b => wK W (show Shape.C _ [I r.plan.prio, I r.plan.most, I r.plan.wait, I r.plan.tasks, v9_0] r.plan _ from ⟨_, _, rfl, eQ, (h9_0.below s.below), rfl⟩)), .o, qb 0 rfl 7, ql h9_1, qb 0 rfl 4, .o] aD fun f10 W11 h10_ st12 hb13 => (aB (cF (h10_.at 26) (fun h14 => ?_) (fun h14 => ?_)))
 ·refine wp_seq (aA (sg (aE (aB (wr (aM results231 rfl ?_))))))
  exact ⟨(fB (by unfold fD; rw [dV (by rintro ⟨hz1, hz2, hz3, hz4, hz5, hz6⟩; exact rk_)])), st12.bare⟩
 refine wp_skip (wp_seq (wp_seq (aA ?_)))
 have hr1 : (1 ≤ r.id ∧ r.id ≤ 9999) ∧ cJ r.plan = 0 ∧ (r.tasks.length : Int) = r.plan.tasks := rk_
 have hMb := pM (vD (by omega : cJ r.plan = 0)).1
 refine rn st12 4 h10_ [] [(29, I (r.tasks.length : Int)), (30, I 0)] [qb 0 rfl 7, ql h9_1] aD fun f18 h18_ => (aB (wp_block (aQ (fun (m : Nat) (f : Nat → Value) (W : World) => ∃ (k : Nat), k ≤ r.tasks.length ∧ (∀ j, j < k → kH r j) ∧ m = r.tasks.length - k ∧ Ag [(1, pt_ b1), (29, I (r.tasks.length : Int)), (30, I (k : Int))] f ∧ St w W ([Res.bx b1 [I r.id, I r.plan.prio, I r.plan.most, I r.plan.wait, I r.plan.tasks, v9_0, I r.state, v9_1] 55])) (r.tasks.length - 0) ?_ ?_)))
 ·exact ⟨0, aC, (fun j hj => absurd hj (Nat.not_lt_zero j)), rfl, (h18_.to aD), st12⟩
 intro m19 f20 W21 hJ22
 obtain ⟨k, hk, hT, rfl, hA24, st23⟩ := hJ22
 refine wp_seq (aA (sg (bA (hA24.at 30) (hA24.at 29) (aB (wp_seq (aK rfl (fun h27p => ?_) (fun h27p => ?_)))))))
 ·refine wp_skip (wp_seq (wp_block (wp_seq (aA (sg (aG (hA24.at 30) (sg (aF (v := I (k : Int)) rfl (aB (wp_seq (aA (rc st23 4 hA24.put.put.put [] [(36, .bool (!(pB (kG r (jU r (k : Int)) (r.tasks[k]'(by omega))))))] [qb 0 rfl 0, qc (args := [.agg #[I r.id, I r.plan.prio, I r.plan.most, I r.plan.wait, I r.plan.tasks, v9_0, I r.state, v9_1], I (k : Int)]) (v := .bool (pB (kG r (jU r (k : Int)) (r.tasks[k]'(by omega))))) func343 rfl (fun W s b => TaskOkI W (bG hc s.below) (k := k) aC aC), .o] aD fun f31 W32 h31_ st33 hb34 => (aB ?_)))))))))))))
  refine cF (h31_.at 36) (fun h35 => ?_) (fun h35 => ?_)
  ·refine wp_seq (aA (sg (aE (aB (wr (aM results231 rfl ?_))))))
   exact ⟨(fB (by unfold fD; rw [dV (fun hz => aD4 (aO h35) (hz.2.2.2.1 k aC aC))])), st33.bare⟩
  refine wp_skip (aA (sg (bW (h31_.at 30) rfl eI (sg (aG (v := I ((k : Int) + 1)) rfl (aB ?_))))))
  exact ⟨_, r.tasks.length - (k + 1), aC, rfl, k + 1, aC, (fun j hj => by rcases Nat.lt_succ_iff_lt_or_eq.1 hj with h1 | rfl; exact hT j h1; exact fun _ => pB_iff.1 ((bY h35))), rfl, (h31_.put.put.to aD), st33⟩
 refine wp_exit (wp_seq ?_)
 have hTk : ∀ j, j < r.tasks.length → kH r j := by rw [show k = r.tasks.length by omega] at hT; exact hT
 have hc4 := mT r.tasks 4
 have hc5 := mT r.tasks 5
 have hc6 := mT r.tasks 6
 have hsum := aJ1 (states_of hTk)
 have hso := oP r.tasks
 have hn1 := dD r.tasks 1
 have hn2 := dD r.tasks 2
 have hn3 := dD r.tasks 3
 have hn4 := dD r.tasks 4
 have hn5 := dD r.tasks 5
 have hn6 := dD r.tasks 6
 refine iH 11 [(some 1, some 2, .of (ι := Value × List Nat) [39] (fun ⟨v40, fp40⟩ => [v40]) (fun ⟨v40, fp40⟩ => Res.own (α := List Int) v40 (bV r.tasks 4) fp40)), (some 2, none, .of (ι := Value × List Nat) [39] (fun ⟨v40, fp40⟩ => [v40]) (fun ⟨v40, fp40⟩ => Res.own (α := List Int) v40 (bV r.tasks 4) fp40)), (some 4, some 5, .of (ι := Value × List Nat) [42] (fun ⟨v47, fp47⟩ => [v47]) (fun ⟨v47, fp47⟩ => Res.own (α := List Int) v47 (bV r.tasks 5) fp47)), (some 5, none, .of (ι := Value × List Nat) [42] (fun ⟨v47, fp47⟩ => [v47]) (fun ⟨v47, fp47⟩ => Res.own (α := List Int) v47 (bV r.tasks 5) fp47)), (some 7, some 8, .of (ι := Value × List Nat) [45] (fun ⟨v54, fp54⟩ => [v54]) (fun ⟨v54, fp54⟩ => Res.own (α := List Int) v54 (bV r.tasks 6) fp54)), (some 8, none, .of (ι := Value × List Nat) [45] (fun ⟨v54, fp54⟩ => [v54]) (fun ⟨v54, fp54⟩ => Res.own (α := List Int) v54 (bV r.tasks 6) fp54))] [(true, .is (.agg #[I r.id, I r.plan.prio, I r.plan.most, I r.plan.wait, I r.plan.tasks, v9_0, I r.state, v9_1])), (false, .ex (fun (v40 : Value) => v40)), (false, .is (I ((bV r.tasks 4).length : Int))), (true, .is (.agg #[I r.id, I r.plan.prio, I r.plan.most, I r.plan.wait, I r.plan.tasks, v9_0, I r.state, v9_1])), (false, .ex (fun (v47 : Value) => v47)), (false, .is (I ((bV r.tasks 5).length : Int))), (true, .is (.agg #[I r.id, I r.plan.prio, I r.plan.most, I r.plan.wait, I r.plan.tasks, v9_0, I r.state, v9_1])), (false, .ex (fun (v54 : Value) => v54)), (false, .is (I ((bV r.tasks 6).length : Int))), (true, .is (I ((bV r.tasks 4).length : Int))), (true, .is (I ((bV r.tasks 5).length : Int)))] mix aD aD aD aD (rs0 := []) rfl st23 (Below.refl _ _) ⟨(fun f W hst hbl hd hf => aV (cs := [I r.id, I r.plan.prio, I r.plan.most, I r.plan.wait, I r.plan.tasks, v9_0, I r.state, v9_1]) fU rfl ((hf 1 rfl).trans (hA24.at 1)) (hst.get 0 rfl) rfl rfl brq), ?_, ?_, (fun f W hst hbl hd hf => aV (cs := [I r.id, I r.plan.prio, I r.plan.most, I r.plan.wait, I r.plan.tasks, v9_0, I r.state, v9_1]) fU rfl ((hf 1 rfl).trans (hA24.at 1)) (hst.get 0 rfl) rfl rfl brq), ?_, ?_, (fun f W hst hbl hd hf => aV (cs := [I r.id, I r.plan.prio, I r.plan.most, I r.plan.wait, I r.plan.tasks, v9_0, I r.state, v9_1]) fU rfl ((hf 1 rfl).trans (hA24.at 1)) (hst.get 0 rfl) rfl rfl brq), ?_, ?_, (fun f W hst hbl hd hf => aF (v := I ((bV r.tasks 4).length : Int)) (hd 2 40 rfl rfl) brq), (fun f W hst hbl hd hf => aF (v := I ((bV r.tasks 5).length : Int)) (hd 5 43 rfl rfl) brq), trivial⟩ ?_
 ·intro f W ru oth hu hst hbl hd hf
  have hn_ : ru = [] := hu
  subst hn_
  try simp only [iU, iS] at hst
  refine (bK func30 rfl (hd 0 38 rfl rfl) rfl ((wI W (bG hc hst.below) 4 aC).mono ?_)); rintro _ W42 ⟨v40, fp40, rfl, hk43⟩; refine ⟨_, rfl, ?_⟩
  have st44 := St.call hst hk43
  exact ⟨⟨v40, rfl⟩, ⟨_, ⟨_, _, rfl, ⟨(v40, fp40), (ce rfl rfl), rfl⟩, rfl⟩, st44⟩, (hbl.trans (Below.mono hk43.below hbl.size))⟩
 ·intro f W ru oth hu hst hbl hd hf
  obtain ⟨_, _, rfl, ⟨⟨v40, fp40⟩, he46, rfl⟩, hn_⟩ := hu
  have hn_ : _ = [] := hn_
  subst hn_
  have hu46_39 : f 39 = v40 := congrArg (fun l => l.getD 0 undef) he46
  try simp only [iU, iS] at hst
  refine (fP jC hu46_39 (aR (hst.get 0 rfl)) ?_)
  exact ⟨rfl, ⟨_, ⟨_, _, rfl, ⟨(v40, fp40), (ce hu46_39 rfl), rfl⟩, rfl⟩, hst⟩, (hbl.trans (Below.mono (Below.refl _ _) hbl.size))⟩
 ·intro f W ru oth hu hst hbl hd hf
  have hn_ : ru = [] := hu
  subst hn_
  try simp only [iU, iS] at hst
  refine (bK func30 rfl (hd 3 41 rfl rfl) rfl ((wI W (bG hc hst.below) 5 aC).mono ?_)); rintro _ W49 ⟨v47, fp47, rfl, hk50⟩; refine ⟨_, rfl, ?_⟩
  have st51 := St.call hst hk50
  exact ⟨⟨v47, rfl⟩, ⟨_, ⟨_, _, rfl, ⟨(v47, fp47), (ce rfl rfl), rfl⟩, rfl⟩, st51⟩, (hbl.trans (Below.mono hk50.below hbl.size))⟩
 ·intro f W ru oth hu hst hbl hd hf
  obtain ⟨_, _, rfl, ⟨⟨v47, fp47⟩, he53, rfl⟩, hn_⟩ := hu
  have hn_ : _ = [] := hn_
  subst hn_
  have hu53_42 : f 42 = v47 := congrArg (fun l => l.getD 0 undef) he53
  try simp only [iU, iS] at hst
  refine (fP jC hu53_42 (aR (hst.get 0 rfl)) ?_)
  exact ⟨rfl, ⟨_, ⟨_, _, rfl, ⟨(v47, fp47), (ce hu53_42 rfl), rfl⟩, rfl⟩, hst⟩, (hbl.trans (Below.mono (Below.refl _ _) hbl.size))⟩
 ·intro f W ru oth hu hst hbl hd hf
  have hn_ : ru = [] := hu
  subst hn_
  try simp only [iU, iS] at hst
  refine (bK func30 rfl (hd 6 44 rfl rfl) rfl ((wI W (bG hc hst.below) 6 aC).mono ?_)); rintro _ W56 ⟨v54, fp54, rfl, hk57⟩; refine ⟨_, rfl, ?_⟩
  have st58 := St.call hst hk57
  exact ⟨⟨v54, rfl⟩, ⟨_, ⟨_, _, rfl, ⟨(v54, fp54), (ce rfl rfl), rfl⟩, rfl⟩, st58⟩, (hbl.trans (Below.mono hk57.below hbl.size))⟩
 ·intro f W ru oth hu hst hbl hd hf
  obtain ⟨_, _, rfl, ⟨⟨v54, fp54⟩, he60, rfl⟩, hn_⟩ := hu
  have hn_ : _ = [] := hn_
  subst hn_
  have hu60_45 : f 45 = v54 := congrArg (fun l => l.getD 0 undef) he60
  try simp only [iU, iS] at hst
  refine (fP jC hu60_45 (aR (hst.get 0 rfl)) ?_)
  exact ⟨rfl, ⟨_, ⟨_, _, rfl, ⟨(v54, fp54), (ce hu60_45 rfl), rfl⟩, rfl⟩, hst⟩, (hbl.trans (Below.mono (Below.refl _ _) hbl.size))⟩
 intro f61 W62 rs_ hAL_ st65 hbl66 hv63 hf64
 obtain ⟨_, _, rfl, ⟨⟨v40, fp40⟩, he67, rfl⟩, _, _, rfl, ⟨⟨v47, fp47⟩, he68, rfl⟩, _, _, rfl, ⟨⟨v54, fp54⟩, he69, rfl⟩, hn_⟩ := hAL_
 have hn_ : _ = [] := hn_
 subst hn_
 have hu67_39 : f61 39 = v40 := congrArg (fun l => l.getD 0 undef) he67
 have hu68_42 : f61 42 = v47 := congrArg (fun l => l.getD 0 undef) he68
 have hu69_45 : f61 45 = v54 := congrArg (fun l => l.getD 0 undef) he69
 try simp only [iU, iS] at st65
 refine sg (aF (v := I ((bV r.tasks 6).length : Int)) (hv63 8 46 aU rfl) (aB (wp_seq (aA (rg st65 10 (Ag.cons (show f61 1 = pt_ b1 from ((hf64 1 rfl).trans (hA24.at 1))) (Ag.cons (show f61 4 = I ((bV r.tasks 4).length : Int) from (hv63 9 4 aU rfl)) (Ag.cons (show f61 5 = I ((bV r.tasks 5).length : Int) from (hv63 10 5 aU rfl)) Ag.nil))).put [] [(7, .bool (decide (((((bV r.tasks 4).length : Int) + ((bV r.tasks 5).length : Int)) + ((bV r.tasks 6).length : Int)) = (r.tasks.length : Int))))] [qad ((bV r.tasks 4).length : Int) ((bV r.tasks 5).length : Int), qad (((bV r.tasks 4).length : Int) + ((bV r.tasks 5).length : Int)) ((bV r.tasks 6).length : Int), qb 3 rfl 7, ql h9_1, .o] aD fun f74 W75 h74_ st76 hb77 => (aB (wp_seq (wp_block (wp_seq (aA (rn st76 6 h74_ [] [(56, .bool (decide (((bV r.tasks 4).length : Int) = (r.tasks.length : Int))))] [qb 3 rfl 7, ql h9_1, .o] aD fun f79 h79_ => (aB ?_))))))))))))
 refine aK (h79_.at 56) (fun h80p => ?_) (fun h80p => ?_)
 ·refine wp_seq (aA (rg st76 4 h79_ [] [(2, .bool (decide (r.state = 2)))] [qb 3 rfl 6, .o] aD fun f82 W83 h82_ st84 hb85 => (aB (wr (aM results231 (h82_.at 2) ?_)))))
  exact ⟨(fB (tT hr1 hTk rk_).symm), st84.bare⟩
 refine wp_seq (aA (rg st76 6 h79_ [] [(65, .bool ((decide (((bV r.tasks 5).length : Int) = 1)) && (decide (((((bV r.tasks 4).length : Int) + ((bV r.tasks 5).length : Int)) + ((bV r.tasks 6).length : Int)) = (r.tasks.length : Int)))))] [.o] aD fun f87 W88 h87_ st89 hb90 => (aB (cF (h87_.at 65) (fun h91 => ?_) (fun h91 => ?_)))))
 ·refine wp_seq (aA (rg st89 4 h87_ [] [(2, .bool (decide (r.state = 3)))] [qb 3 rfl 6, .o] aD fun f93 W94 h93_ st95 hb96 => (aB (wr (aM results231 (h93_.at 2) ?_)))))
  exact ⟨(fB (tT hr1 hTk rk_).symm), st95.bare⟩
 refine wp_seq (aA (rg st89 10 h87_ [] [(74, .bool (((decide (((bV r.tasks 5).length : Int) = 0)) && (decide (0 < ((bV r.tasks 6).length : Int)))) && (decide (((((bV r.tasks 4).length : Int) + ((bV r.tasks 5).length : Int)) + ((bV r.tasks 6).length : Int)) = (r.tasks.length : Int)))))] [.o, .o] aD fun f98 W99 h98_ st100 hb101 => (aB (cF (h98_.at 74) (fun h102 => ?_) (fun h102 => ?_)))))
 ·refine wp_seq (aA (rg st100 4 h98_ [] [(2, .bool (decide (r.state = 4)))] [qb 3 rfl 6, .o] aD fun f104 W105 h104_ st106 hb107 => (aB (wr (aM results231 (h104_.at 2) ?_)))))
  exact ⟨(fB (tT hr1 hTk rk_).symm), st106.bare⟩
 refine wp_skip (wp_seq (aA (rg st100 12 h98_ [] [(2, .bool (((decide (r.state = 1)) && (decide (((bV r.tasks 5).length : Int) = 0))) && (decide (((bV r.tasks 6).length : Int) = 0))))] [qb 3 rfl 6, .o, .o, .o] aD fun f109 W110 h109_ st111 hb112 => (aB (wr (aM results231 (h109_.at 2) ?_))))))
 exact ⟨(fB (tT hr1 hTk rk_).symm), st111.bare⟩
theorem TaskOkS {r : Run} (hc : Shape.C w cs r fp) {k : Nat} (hk : k < r.tasks.length) (hlen : (r.tasks.length : Int) = r.plan.tasks) (hP : cJ r.plan = 0) (hs : 1 ≤ (r.tasks[k]'hk).state ∧ (r.tasks[k]'hk).state ≤ 6) :
  Calls prog 372 #[.agg cs.toArray, I (k : Int)] w (rB_ (pB (kG r (jU r (k : Int)) (r.tasks[k]'hk))) w) := by
 have hcap : r.tasks.length ≤ 9223372036854775807 := by have h0 := hc; obtain ⟨v1, v2, f1, f2, h0, hok, h1, h2, hfp⟩ := h0; exact h2.len_le
 refine bC func372 rfl ntmps372 aU (wp_seq (aA (sg (aH (cs := cs) rfl (St.start w) ?_)))); intro b1 W2 hb3 st4
 refine sg (aE (aB (wp_seq (aA ?_))))
 have hk9 := hc
 obtain ⟨v9_0, v9_1, g9_0, g9_1, rfl, hok9, h9_0, h9_1, rfl⟩ := hk9
 have hif4d94 : k < r.tasks.length := aC
 obtain ⟨b10, o10, cs10, f10, hp10, hr10, hc10, hm10⟩ := idx h9_1 (i := k) hif4d94
 refine rn st4 5 Ag.nil.put.put.put.put [] [(13, .agg cs10.toArray)] [qb 0 rfl 7, qx hp10, qrw hr10 (Shape.len hc10)] aD fun f11 h11_ => (sg (aT nP st4 ?_)); intro b12 W13 hb14 st15
 refine sgn (bR (cs := cs10) oA hc10 rfl (h11_.at 13) st15 rfl ?_); intro W17 st18
 refine aB (wp_seq (aA (sg (aE (aB (wp_seq (aA (rn st18 3 h11_.put.put [] [(15, .agg #[I r.plan.prio, I r.plan.most, I r.plan.wait, I r.plan.tasks, v9_0]), (16, I (k : Int))] [qb 1 rfl 1] aD fun f22 h22_ => ?_))))))))
 obtain ⟨hM, hE, _, _⟩ := vD hP
 have hMb := pM hM
 have hbeq : bH r.plan (k : Int) = (cV (cH r.plan.edges (k : Int))) := by unfold bH; rw [if_pos hP]
 have hbl := mM r.plan (k : Int)
 rw [hbeq] at hbl
 refine sg (bK func386 rfl (h22_.at 15) (h22_.at 16) ((BeforeE W17 (show Shape.C _ [I r.plan.prio, I r.plan.most, I r.plan.wait, I r.plan.tasks, v9_0] r.plan _ from ⟨_, _, rfl, eQ, (h9_0.below st18.below), rfl⟩) (k : Int) aC aC hE).mono ?_)); rintro _ W25 ⟨v23, fp23, rfl, hk26⟩; refine ⟨_, rfl, ?_⟩
 have st27 := St.call st18 hk26
 refine sg (aF (v := v23) rfl (aB (wp_seq (wp_seq (aA (sg (aE (aB (wp_block (aQ (fun (m : Nat) (f : Nat → Value) (W : World) => ∃ (i : Nat), i ≤ (cV (cH r.plan.edges (k : Int))).length ∧ m = (cV (cH r.plan.edges (k : Int))).length - i ∧ Ag [(2, pt_ b1), (5, pt_ b12), (6, I (dO r ((cV (cH r.plan.edges (k : Int))).take i))), (7, v23), (8, I (i : Int))] f ∧ St w W ([Res.own (α := List Int) v23 (cV (cH r.plan.edges (k : Int))) fp23, Res.bx b12 cs10 158, Res.bx b1 [I r.id, I r.plan.prio, I r.plan.most, I r.plan.wait, I r.plan.tasks, v9_0, I r.state, v9_1] 55])) ((cV (cH r.plan.edges (k : Int))).length - 0) ?_ ?_))))))))))
 ·exact ⟨0, aC, rfl, (h22_.put.put.put.to aD), st27⟩
 intro m33 f34 W35 hJ36
 obtain ⟨i, hi, rfl, hA38, st37⟩ := hJ36
 have hnr := vJ r ((cV (cH r.plan.edges (k : Int))).take i)
 have htl := length_take_le i (cV (cH r.plan.edges (k : Int)))
 refine wp_seq (wp_seq (aA (rn st37 4 hA38 [] [(21, .bool (decide ((i : Int) < ((cV (cH r.plan.edges (k : Int))).length : Int))))] [ql (aR (st37.get 0 rfl)), .o] aD fun f40 h40_ => (aB (aK (h40_.at 21) (fun h41p => ?_) (fun h41p => ?_))))))
 ·refine wp_skip (wp_seq (wp_block (wp_seq ?_)))
  have hbr := wD r.plan (k : Int)
  rw [hbeq] at hbr
  have hbr := hbr _ (getElem_mem (l := (cV (cH r.plan.edges (k : Int)))) (n := i) aC)
  have hi26b77 : i < (cV (cH r.plan.edges (k : Int))).length := aC
  obtain ⟨b43, o43, cs43, f43, hp43, hr43, hc43, hm43⟩ := idx (aR (st37.get 0 rfl)) (i := i) hi26b77
  have hk43 := hc43
  obtain ⟨rfl, rfl, hok43⟩ := hk43
  have hib59be : (((cV (cH r.plan.edges (k : Int)))[i]'hi26b77)).toNat < r.tasks.length := aC
  obtain ⟨b44, o44, cs44, f44, hp44, hr44, hc44, hm44⟩ := idx h9_1 (i := (((cV (cH r.plan.edges (k : Int)))[i]'hi26b77)).toNat) hib59be
  have hk45 := hc44
  obtain ⟨he45, rfl, hok45⟩ := hk45
  have he45 : _ = [I (r.tasks[(((cV (cH r.plan.edges (k : Int)))[i]'hi26b77)).toNat]'hib59be).state, I (r.tasks[(((cV (cH r.plan.edges (k : Int)))[i]'hi26b77)).toNat]'hib59be).need, I (r.tasks[(((cV (cH r.plan.edges (k : Int)))[i]'hi26b77)).toNat]'hib59be).try_, I (r.tasks[(((cV (cH r.plan.edges (k : Int)))[i]'hi26b77)).toNat]'hib59be).until_] := he45
  subst he45
  refine rd st37 h40_ [] [(33, .bool (!decide ((r.tasks[(((cV (cH r.plan.edges (k : Int)))[i]'hi26b77)).toNat]'hib59be).state = 4)))] [qb 2 rfl 7, qx hp43, qn hr43 0, qxe hp44 (e := ((cV (cH r.plan.edges (k : Int)))[i]'hi26b77)) aC, qr hr44 0, .o] aD aD fun f46 W47 h46_ st48 hb49 => (bE (h46_.at 33) (fun h50p => ?_) (fun h50p => ?_))
  ·refine aA (rn st48 3 h46_ [6] [(6, I ((dO r ((cV (cH r.plan.edges (k : Int))).take i)) + 1))] [qad (dO r ((cV (cH r.plan.edges (k : Int))).take i)) 1] aD fun f52 h52_ => (aB (aA (rn st48 3 h52_ [8] [(8, I ((i : Int) + 1))] [qad (i : Int) 1] aD fun f54 h54_ => (aB ?_)))))
   exact ⟨_, (cV (cH r.plan.edges (k : Int))).length - (i + 1), aC, rfl, i + 1, aC, rfl, (Ag.cons (h54_.at 2) (Ag.cons (h54_.at 5) (Ag.cons (Eq.trans (show _ = I ((dO r ((cV (cH r.plan.edges (k : Int))).take i)) + 1) from (h54_.at 6)) (congrArg I (by rw [kL aC, oC aC]; simp only [h50p, decide_true, decide_false, Bool.false_eq_true, if_true, if_false]; try omega))) (Ag.cons (h54_.at 7) (Ag.cons (h54_.at 8) Ag.nil))))), st48⟩
  refine wp_skip (aA (rn st48 3 h46_ [8] [(8, I ((i : Int) + 1))] [qad (i : Int) 1] aD fun f56 h56_ => (aB ?_)))
  exact ⟨_, (cV (cH r.plan.edges (k : Int))).length - (i + 1), aC, rfl, i + 1, aC, rfl, (Ag.cons (h56_.at 2) (Ag.cons (h56_.at 5) (Ag.cons (Eq.trans (show _ = I (dO r ((cV (cH r.plan.edges (k : Int))).take i)) from (h56_.at 6)) (congrArg I (by rw [kL aC, oC aC]; simp only [h50p, decide_true, decide_false, Bool.false_eq_true, if_true, if_false]; try omega))) (Ag.cons (h56_.at 7) (Ag.cons (h56_.at 8) Ag.nil))))), st48⟩
 refine wp_exit (wp_seq (wp_seq (aA ?_)))
 have hneed : jU r (k : Int) = dO r ((cV (cH r.plan.edges (k : Int))).take i) := by unfold jU; rw [hbeq, show i = (cV (cH r.plan.edges (k : Int))).length by omega, take_length]
 have hk58 := hc10
 obtain ⟨he58, rfl, hok58⟩ := hk58
 have he58 : _ = [I (r.tasks[k]'hif4d94).state, I (r.tasks[k]'hif4d94).need, I (r.tasks[k]'hif4d94).try_, I (r.tasks[k]'hif4d94).until_] := he58
 subst he58
 refine rg st37 13 h40_ [] [(48, .bool ((!decide ((r.tasks[k]'hif4d94).need = (dO r ((cV (cH r.plan.edges (k : Int))).take i)))) || (!(inB (r.tasks[k]'hif4d94).try_ 0 r.plan.most))))] [qb 1 rfl 1, .o, qb 1 rfl 2, qb 2 rfl 2, qc (args := [I (r.tasks[k]'hif4d94).try_, I 0, I r.plan.most]) (v := .bool (inB (r.tasks[k]'hif4d94).try_ 0 r.plan.most)) func138 rfl (fun W s b => cK W (r.tasks[k]'hif4d94).try_ 0 r.plan.most), .o] aD fun f59 W60 h59_ st61 hb62 => (aB (cF (h59_.at 48) (fun h63 => ?_) (fun h63 => ?_)))
 ·refine wp_seq (aA (sg (aE (aB (wr (aM results372 rfl ?_))))))
  exact ⟨(fB (dV tk_).symm), st61.bare⟩
 refine wp_skip (wp_seq (wp_seq (aA (rg st61 19 h59_ [] [(67, .bool (((decide ((r.tasks[k]'hif4d94).state = 3)) && (!(inB (r.tasks[k]'hif4d94).until_ 1 1000000000))) || ((!decide ((r.tasks[k]'hif4d94).state = 3)) && (!decide ((r.tasks[k]'hif4d94).until_ = 0)))))] [qb 1 rfl 0, .o, qb 1 rfl 3, qc (args := [I (r.tasks[k]'hif4d94).until_, I 1, I 1000000000]) (v := .bool (inB (r.tasks[k]'hif4d94).until_ 1 1000000000)) func138 rfl (fun W s b => cK W (r.tasks[k]'hif4d94).until_ 1 1000000000), .o, qb 1 rfl 0, .o, qb 1 rfl 3, .o] aD fun f67 W68 h67_ st69 hb70 => (aB (cF (h67_.at 67) (fun h71 => ?_) (fun h71 => ?_)))))))
 ·refine wp_seq (aA (sg (aE (aB (wr (aM results372 rfl ?_))))))
  exact ⟨(fB (dV tk_).symm), st69.bare⟩
 refine wp_skip (wp_seq (wp_seq (aA (sg (aL sL (h67_.at 5) (sg (bI mB rfl rfl (st69.get 1 rfl) (i := 0) rfl rfl (aB (wp_block (wp_seq (aA (sg (gC rfl rfl (sg (aF (v := .bool (decide ((r.tasks[k]'hif4d94).state = 1))) rfl ?_)))))))))))))))
 refine aB (aK rfl (fun h78p => ?_) (fun h78p => ?_))
 ·refine wp_seq (aA (rn st69 3 h67_.put.put.put.put [] [(4, .bool (decide (0 < (dO r ((cV (cH r.plan.edges (k : Int))).take i)))))] [.o] aD fun f80 h80_ => (aB (wr (aM results372 (h80_.at 4) ?_)))))
  exact ⟨(fB (tL tk_).symm), st69.bare⟩
 refine wp_seq (aA (sg (gC rfl rfl (sg (aF (v := .bool (decide ((r.tasks[k]'hif4d94).state = 2))) rfl (aB (aK rfl (fun h83p => ?_) (fun h83p => ?_))))))))
 ·refine wp_seq (aA (rg st69 11 h67_.put.put.put.put.put.put [] [(4, .bool ((decide ((dO r ((cV (cH r.plan.edges (k : Int))).take i)) = 0)) && (decide ((r.tasks[k]'hif4d94).try_ < r.plan.most))))] [.o, qb 1 rfl 2, qb 2 rfl 2, .o] aD fun f85 W86 h85_ st87 hb88 => (aB (wr (aM results372 (h85_.at 4) ?_)))))
  exact ⟨(fB (tL tk_).symm), st87.bare⟩
 refine wp_seq (wp_seq (aA (sg (gC rfl rfl (sg (aF (v := .bool (decide ((r.tasks[k]'hif4d94).state = 3))) rfl (aB (aK rfl (fun h91p => ?_) (fun h91p => ?_)))))))))
 ·have h91 := decide_eq_true h91p
  refine wp_skip (mV rfl h91 (wp_seq (aA (rg st69 8 h67_.put.put.put.put.put.put.put.put [] [(4, .bool ((decide ((dO r ((cV (cH r.plan.edges (k : Int))).take i)) = 0)) && (decide (1 ≤ (r.tasks[k]'hif4d94).try_))))] [.o, qb 1 rfl 2, .o] aD fun f93 W94 h93_ st95 hb96 => (aB (wr (aM results372 (h93_.at 4) ?_)))))))
  exact ⟨(fB (tL tk_).symm), st95.bare⟩
 have h91 := decide_eq_false h91p
 refine wp_seq (aA (sg (gC rfl rfl (sg (aF (v := .bool (decide ((r.tasks[k]'hif4d94).state = 4))) rfl (aB (aK rfl (fun h99p => ?_) (fun h99p => ?_))))))))
 ·have h99 := decide_eq_true h99p
  refine wp_skip (mV rfl h99 (wp_seq (aA (lw h67_.put.put.put.put.put.put.put.put.put.put [(5, pt_ b12), (6, I (dO r ((cV (cH r.plan.edges (k : Int))).take i)))] aD fun h102_ => (rg st69 8 h102_ [] [(4, .bool ((decide ((dO r ((cV (cH r.plan.edges (k : Int))).take i)) = 0)) && (decide (1 ≤ (r.tasks[k]'hif4d94).try_))))] [.o, qb 1 rfl 2, .o] aD fun f101 W103 h101_ st104 hb105 => (aB (wr (aM results372 (h101_.at 4) ?_))))))))
  exact ⟨(fB (tL tk_).symm), st104.bare⟩
 have h99 := decide_eq_false h99p
 refine aA (sg (gC rfl rfl (sg (aF (v := .bool (decide ((r.tasks[k]'hif4d94).state = 5))) rfl (aB (aK rfl (fun h108p => ?_) (fun h108p => ?_)))))))
 ·refine wp_seq (aA (lw h67_.put.put.put.put.put.put.put.put.put.put.put.put [(5, pt_ b12), (6, I (dO r ((cV (cH r.plan.edges (k : Int))).take i)))] aD fun h111_ => (rg st69 8 h111_ [] [(4, .bool ((decide ((dO r ((cV (cH r.plan.edges (k : Int))).take i)) = 0)) && (decide (1 ≤ (r.tasks[k]'hif4d94).try_))))] [.o, qb 1 rfl 2, .o] aD fun f110 W112 h110_ st113 hb114 => (aB (wr (aM results372 (h110_.at 4) ?_))))))
  exact ⟨(fB (tL tk_).symm), st113.bare⟩
 refine wp_skip (wp_seq (aA (lw h67_.put.put.put.put.put.put.put.put.put.put.put.put [(5, pt_ b12)] aD fun h117_ => (rn st69 4 h117_ [] [(4, .bool (decide ((r.tasks[k]'hif4d94).state = 6)))] [qb 1 rfl 0, .o] aD fun f116 h116_ => (aB (wr (aM results372 (h116_.at 4) ?_)))))))
 exact ⟨(fB (tL tk_).symm), st69.bare⟩
theorem aP4 {r : Run} (hc : Shape.C w cs r fp) (hS : ∀ t ∈ r.tasks, 1 ≤ t.state ∧ t.state ≤ 6) (hl : r.tasks.length ≤ 1048576) :
  Calls prog 373 #[.agg cs.toArray] w (rI_ (iI r.tasks) w) := by
 have hcap : r.tasks.length ≤ 9223372036854775807 := by have h0 := hc; obtain ⟨v1, v2, f1, f2, h0, hok, h1, h2, hfp⟩ := h0; exact h2.len_le
 refine cC func373 rfl ntmps373 aU (wp_seq (aA (sg (aH (cs := cs) rfl (St.start w) ?_)))); intro b1 W2 hb3 st4
 refine sg (aE (aB (wp_seq (aA (sg (aZ (cs := [I 0, I 0, I 0, I 0, I 0, I 0, I 0]) (e := 3) (eS (v := I 0) rfl (eS (v := I 0) rfl (eS (v := I 0) rfl (eS (v := I 0) rfl (eS (v := I 0) rfl (eS (v := I 0) rfl (eS (v := I 0) rfl jD))))))) (run_buildSliceN fG _ rfl (mD rfl (mD rfl (mD rfl (mD rfl (mD rfl (mD rfl (mD rfl lc_nil)))))))) st4 ?_)))))); intro b8 W9 hb10 st11
 refine sg (aF (v := .slice (some ⟨b8, 0, none⟩) 7 7) rfl (aB (wp_seq (wp_seq (aA (sg (aE (aB (wp_block ?_)))))))))
 have st17 := St.row_lit (α := Int) (ys := [0, 0, 0, 0, 0, 0, 0]) st11 rfl bX (Elems.ic eI (Elems.ic eI (Elems.ic eI (Elems.ic eI (Elems.ic eI (Elems.ic eI (Elems.ic eI Elems.i0)))))))
 obtain ⟨fp18, st19⟩ := st17.shut
 refine aQ (fun (m : Nat) (f : Nat → Value) (W : World) => ∃ (k : Nat) (fo20 : List Nat), k ≤ r.tasks.length ∧ m = r.tasks.length - k ∧ Ag [(1, pt_ b1), (3, (.slice (some ⟨b8, 0, none⟩) 7 7)), (4, I (k : Int))] f ∧ St w W ([Res.own (α := List Int) (.slice (some ⟨b8, 0, none⟩) 7 7) (dG (r.tasks.take k)) fo20, Res.bx b1 cs 55])) (r.tasks.length - 0) ?_ ?_
 ·exact ⟨0, fp18, aC, rfl, (Ag.nil.put.put.put.put.put.put.to aD), (by rw [take_zero, cnts_nil]; exact st19)⟩
 intro m21 f22 W23 hJ24
 obtain ⟨k, fo20, hk, rfl, hA26, st25⟩ := hJ24
 refine wp_seq (wp_seq (aA ?_))
 have hk28 := hc
 obtain ⟨v28_0, v28_1, g28_0, g28_1, rfl, hok28, h28_0, h28_1, rfl⟩ := hk28
 refine rn st25 5 hA26 [] [(11, .bool (decide ((k : Int) < (r.tasks.length : Int))))] [qb 1 rfl 7, ql h28_1, .o] aD fun f29 h29_ => (aB (aK (h29_.at 11) (fun h30p => ?_) (fun h30p => ?_)))
 ·refine wp_skip (wp_seq (wp_block (aA ?_)))
  have hif4d94 : k < r.tasks.length := aC
  obtain ⟨b32, o32, cs32, f32, hp32, hr32, hc32, hm32⟩ := idx h28_1 (i := k) hif4d94
  have hk33 := hc32
  obtain ⟨he33, rfl, hok33⟩ := hk33
  have he33 : _ = [I (r.tasks[k]'hif4d94).state, I (r.tasks[k]'hif4d94).need, I (r.tasks[k]'hif4d94).try_, I (r.tasks[k]'hif4d94).until_] := he33
  subst he33
  refine rn st25 7 h29_ [] [(14, (.slice (some ⟨b8, 0, none⟩) 7 7)), (20, I (r.tasks[k]'hif4d94).state)] [qb 1 rfl 7, qx hp32, qr hr32 0] aD fun f34 h34_ => ?_
  have hsk := hS _ (getElem_mem (l := r.tasks) (n := k) aC)
  have hcl := rF (r.tasks.take k)
  have htl := length_take_le k r.tasks
  have hi2be82 : ((r.tasks[k]'hif4d94).state).toNat < (dG (r.tasks.take k)).length := aC
  obtain ⟨b35, o35, cs35, f35, hp35, hr35, hc35, hm35⟩ := idx (aR (st25.get 0 rfl)) (i := ((r.tasks[k]'hif4d94).state).toNat) hi2be82
  have hk35 := hc35
  obtain ⟨rfl, rfl, hok35⟩ := hk35
  refine sg (aY jC (h34_.at 14) hp35 (h34_.at 20) aC ?_)
  have hcr := cnts_rng (r.tasks.take k) (r.tasks[k]'(by omega)).state.toNat aC
  refine rn st25 3 h34_.put [] [(23, I (((dG (r.tasks.take k))[((r.tasks[k]'hif4d94).state).toNat]'hi2be82) + 1)), (24, .pointer (some ⟨b35, o35, none⟩))] [qn hr35 0, qad ((dG (r.tasks.take k))[((r.tasks[k]'hif4d94).state).toNat]'hi2be82) 1, qxe hp35 (e := (r.tasks[k]'hif4d94).state) aC] aD fun f39 h39_ => (sgn (rP (α := Int) (z := ((dG (r.tasks.take k))[((r.tasks[k]'hif4d94).state).toNat]'hi2be82) + 1) rfl aD (h39_.at 24) hp35 hi2be82 (h39_.at 23) rfl rfl st25 (fun W => ⟨rfl, rfl, eI⟩) ?_)); intro fp40 W41 st42
  refine aB (aA (rn st42 3 h39_ [4] [(4, I ((k : Int) + 1))] [qad (k : Int) 1] aD fun f44 h44_ => (aB ?_)))
  exact ⟨_, r.tasks.length - (k + 1), aC, rfl, k + 1, fp40, aC, rfl, (h44_.to aD), (by rw [← cnts_set aC (hS _ (getElem_mem _)) (by rw [rF]; omega)]; exact st42)⟩
 refine wp_exit (wp_seq ?_)
 have hkl : k = r.tasks.length := by omega
 have hcl := rF (r.tasks.take k)
 have hso := oP r.tasks
 have hk0 : r.tasks.take k = r.tasks := by rw [hkl, take_length]
 have hq1 : (dG (r.tasks.take k))[1]'(by omega) = cE r.tasks 1 := (sR _ 1 _).trans (by rw [hk0]; rfl)
 have hq2 : (dG (r.tasks.take k))[2]'(by omega) = cE r.tasks 2 := (sR _ 2 _).trans (by rw [hk0]; rfl)
 have hq3 : (dG (r.tasks.take k))[3]'(by omega) = cE r.tasks 3 := (sR _ 3 _).trans (by rw [hk0]; rfl)
 have hq4 : (dG (r.tasks.take k))[4]'(by omega) = cE r.tasks 4 := (sR _ 4 _).trans (by rw [hk0]; rfl)
 have hq5 : (dG (r.tasks.take k))[5]'(by omega) = cE r.tasks 5 := (sR _ 5 _).trans (by rw [hk0]; rfl)
 have hq6 : (dG (r.tasks.take k))[6]'(by omega) = cE r.tasks 6 := (sR _ 6 _).trans (by rw [hk0]; rfl)
 have hnn1 := dD r.tasks 1
 have hnn2 := dD r.tasks 2
 have hnn3 := dD r.tasks 3
 have hnn4 := dD r.tasks 4
 have hnn5 := dD r.tasks 5
 have hnn6 := dD r.tasks 6
 have hll1 := mK r.tasks 1
 have hll2 := mK r.tasks 2
 have hll3 := mK r.tasks 3
 have hll4 := mK r.tasks 4
 have hll5 := mK r.tasks 5
 have hll6 := mK r.tasks 6
 have hi25f68 : 1 < (dG (r.tasks.take k)).length := aC
 obtain ⟨b46, o46, cs46, f46, hp46, hr46, hc46, hm46⟩ := idx (aR (st25.get 0 rfl)) (i := 1) hi25f68
 have hk46 := hc46
 obtain ⟨rfl, rfl, hok46⟩ := hk46
 have hi416b4 : 2 < (dG (r.tasks.take k)).length := aC
 obtain ⟨b47, o47, cs47, f47, hp47, hr47, hc47, hm47⟩ := idx (aR (st25.get 0 rfl)) (i := 2) hi416b4
 have hk47 := hc47
 obtain ⟨rfl, rfl, hok47⟩ := hk47
 have hi98b8f : 3 < (dG (r.tasks.take k)).length := aC
 obtain ⟨b48, o48, cs48, f48, hp48, hr48, hc48, hm48⟩ := idx (aR (st25.get 0 rfl)) (i := 3) hi98b8f
 have hk48 := hc48
 obtain ⟨rfl, rfl, hok48⟩ := hk48
 refine rd st25 h29_ [] [(5, I ((((dG (r.tasks.take k))[1]'hi25f68) + ((dG (r.tasks.take k))[2]'hi416b4)) + ((dG (r.tasks.take k))[3]'hi98b8f)))] [qx hp46, qn hr46 0, qx hp47, qn hr47 0, qad ((dG (r.tasks.take k))[1]'hi25f68) ((dG (r.tasks.take k))[2]'hi416b4), qx hp48, qn hr48 0, qad (((dG (r.tasks.take k))[1]'hi25f68) + ((dG (r.tasks.take k))[2]'hi416b4)) ((dG (r.tasks.take k))[3]'hi98b8f)] aD aD fun f49 W50 h49_ st51 hb52 => (wp_seq (wp_block (wp_seq ?_)))
 have hi7bb14 : 4 < (dG (r.tasks.take k)).length := aC
 obtain ⟨b54, o54, cs54, f54, hp54, hr54, hc54, hm54⟩ := idx (aR (st51.get 0 rfl)) (i := 4) hi7bb14
 have hk54 := hc54
 obtain ⟨rfl, rfl, hok54⟩ := hk54
 refine rd st51 h49_ [] [(36, .bool (decide (((dG (r.tasks.take k))[4]'hi7bb14) = (r.tasks.length : Int))))] [qx hp54, qn hr54 0, qb 1 rfl 7, ql h28_1, .o] aD aD fun f55 W56 h55_ st57 hb58 => (aK (h55_.at 36) (fun h59p => ?_) (fun h59p => ?_))
 ·refine wp_seq (aA (sg (aE (aB (wr (aM results373 rfl ?_))))))
  exact ⟨(fI aC), st57.bare⟩
 refine wp_seq (aA ?_)
 have hi9ea3c : 5 < (dG (r.tasks.take k)).length := aC
 obtain ⟨b63, o63, cs63, f63, hp63, hr63, hc63, hm63⟩ := idx (aR (st57.get 0 rfl)) (i := 5) hi9ea3c
 have hk63 := hc63
 obtain ⟨rfl, rfl, hok63⟩ := hk63
 rcases nem (((dG (r.tasks.take k))[5]'hi9ea3c) = 1) with h64p | h64p
 ·have h64 := decide_eq_false h64p
  refine rn st57 9 h55_ [] [(44, .bool false)] [qx hp63, qn hr63 0, qk h64] aD fun f65 h65_ => (aB (lP (h65_.at 44) rfl (wp_seq (aA ?_))))
  rcases nem (((dG (r.tasks.take k))[5]'hi9ea3c) = 0) with h67p | h67p
  ·have h67 := decide_eq_false h67p
   refine rn st57 15 h65_ [] [(53, .bool false)] [qx hp63, qn hr63 0, qk h67] aD fun f68 h68_ => (aB (lP (h68_.at 53) rfl (wp_seq (aA (rn st57 11 h68_ [] [(68, .bool false)] [qx hp63, qn hr63 0, qk h67] aD fun f70 h70_ => (aB (lP (h70_.at 68) rfl (wp_skip (wp_seq (aA (sg (aE ?_))))))))))))
   refine aB (wr (aM results373 rfl ?_))
   exact ⟨(fI aC), st57.bare⟩
  have h67 := decide_eq_true h67p
  have hi05ed7 : 6 < (dG (r.tasks.take k)).length := aC
  obtain ⟨b73, o73, cs73, f73, hp73, hr73, hc73, hm73⟩ := idx (aR (st57.get 0 rfl)) (i := 6) hi05ed7
  have hk73 := hc73
  obtain ⟨rfl, rfl, hok73⟩ := hk73
  rcases nem (0 < ((dG (r.tasks.take k))[6]'hi05ed7)) with h74p | h74p
  ·have h74 := decide_eq_false h74p
   refine rn st57 15 h65_ [] [(53, .bool false)] [qx hp63, qn hr63 0, qk h67, qx hp73, qn hr73 0, qk h74] aD fun f75 h75_ => (aB (lP (h75_.at 53) rfl (wp_seq (aA (rn st57 11 h75_ [] [(68, .bool (decide (((dG (r.tasks.take k))[6]'hi05ed7) = 0)))] [qx hp63, qn hr63 0, qk h67, qx hp73, qn hr73 0, .o] aD fun f77 h77_ => (aB (aK (h77_.at 68) (fun h78p => ?_) (fun h78p => ?_))))))))
   ·refine wp_seq (aA (sg (aE (aB (wr (aM results373 rfl ?_))))))
    exact ⟨(fI aC), st57.bare⟩
   refine wp_skip (wp_seq (aA (sg (aE (aB (wr (aM results373 rfl ?_)))))))
   exact ⟨(fI aC), st57.bare⟩
  have h74 := decide_eq_true h74p
  refine rn st57 15 h65_ [] [(53, .bool (decide (((((dG (r.tasks.take k))[1]'hi25f68) + ((dG (r.tasks.take k))[2]'hi416b4)) + ((dG (r.tasks.take k))[3]'hi98b8f)) = 0)))] [qx hp63, qn hr63 0, qk h67, qx hp73, qn hr73 0, qk h74, .o] aD fun f83 h83_ => (aB (aK (h83_.at 53) (fun h84p => ?_) (fun h84p => ?_)))
  ·refine wp_seq (aA (sg (aE (aB (wr (aM results373 rfl ?_))))))
   exact ⟨(fI aC), st57.bare⟩
  refine wp_seq (aA (rn st57 11 h83_ [] [(68, .bool (decide (((dG (r.tasks.take k))[6]'hi05ed7) = 0)))] [qx hp63, qn hr63 0, qk h67, qx hp73, qn hr73 0, .o] aD fun f88 h88_ => (aB (aK (h88_.at 68) (fun h89p => ?_) (fun h89p => ?_)))))
  ·refine wp_seq (aA (sg (aE (aB (wr (aM results373 rfl ?_))))))
   exact ⟨(fI aC), st57.bare⟩
  refine wp_skip (wp_seq (aA (sg (aE (aB (wr (aM results373 rfl ?_)))))))
  exact ⟨(fI aC), st57.bare⟩
 have h64 := decide_eq_true h64p
 refine rn st57 9 h55_ [] [(44, .bool (decide (((((dG (r.tasks.take k))[1]'hi25f68) + ((dG (r.tasks.take k))[2]'hi416b4)) + ((dG (r.tasks.take k))[3]'hi98b8f)) = 0)))] [qx hp63, qn hr63 0, qk h64, .o] aD fun f94 h94_ => (aB (aK (h94_.at 44) (fun h95p => ?_) (fun h95p => ?_)))
 ·have h95 := decide_eq_true h95p
  refine wp_seq (aA (sg (aE (aB (wr (aM results373 rfl ?_))))))
  exact ⟨(fI aC), st57.bare⟩
 have h95 := decide_eq_false h95p
 refine wp_seq (aA ?_)
 rcases nem (((dG (r.tasks.take k))[5]'hi9ea3c) = 0) with h99p | h99p
 ·have h99 := decide_eq_false h99p
  refine rn st57 15 h94_ [] [(53, .bool false)] [qx hp63, qn hr63 0, qk h99] aD fun f100 h100_ => (aB (lP (h100_.at 53) rfl (wp_seq (aA (rn st57 11 h100_ [] [(68, .bool false)] [qx hp63, qn hr63 0, qk h99] aD fun f102 h102_ => (aB (lP (h102_.at 68) rfl (wp_skip (wp_seq (aA (sg (aE ?_))))))))))))
  refine aB (wr (aM results373 rfl ?_))
  exact ⟨(fI aC), st57.bare⟩
 have h99 := decide_eq_true h99p
 have hi05ed7 : 6 < (dG (r.tasks.take k)).length := aC
 obtain ⟨b105, o105, cs105, f105, hp105, hr105, hc105, hm105⟩ := idx (aR (st57.get 0 rfl)) (i := 6) hi05ed7
 have hk105 := hc105
 obtain ⟨rfl, rfl, hok105⟩ := hk105
 rcases nem (0 < ((dG (r.tasks.take k))[6]'hi05ed7)) with h106p | h106p
 ·have h106 := decide_eq_false h106p
  refine rn st57 15 h94_ [] [(53, .bool false)] [qx hp63, qn hr63 0, qk h99, qx hp105, qn hr105 0, qk h106] aD fun f107 h107_ => (aB (lP (h107_.at 53) rfl (wp_seq (aA (rn st57 11 h107_ [] [(68, .bool (decide (((dG (r.tasks.take k))[6]'hi05ed7) = 0)))] [qx hp63, qn hr63 0, qk h99, qx hp105, qn hr105 0, .o] aD fun f109 h109_ => (aB (aK (h109_.at 68) (fun h110p => ?_) (fun h110p => ?_))))))))
  ·refine wp_seq (aA (sg (aE (aB (wr (aM results373 rfl ?_))))))
   exact ⟨(fI aC), st57.bare⟩
  refine wp_skip (wp_seq (aA (sg (aE (aB (wr (aM results373 rfl ?_)))))))
  exact ⟨(fI aC), st57.bare⟩
 have h106 := decide_eq_true h106p
 refine rn st57 15 h94_ [] [(53, .bool false)] [qx hp63, qn hr63 0, qk h99, qx hp105, qn hr105 0, qk h106, qk h95] aD fun f115 h115_ => (aB (lP (h115_.at 53) rfl (wp_seq (aA (rn st57 11 h115_ [] [(68, .bool (decide (((dG (r.tasks.take k))[6]'hi05ed7) = 0)))] [qx hp63, qn hr63 0, qk h99, qx hp105, qn hr105 0, .o] aD fun f117 h117_ => (aB (aK (h117_.at 68) (fun h118p => ?_) (fun h118p => ?_))))))))
 ·refine wp_seq (aA (sg (aE (aB (wr (aM results373 rfl ?_))))))
  exact ⟨(fI aC), st57.bare⟩
 refine wp_skip (wp_seq (aA (sg (aE (aB (wr (aM results373 rfl ?_)))))))
 exact ⟨(fI aC), st57.bare⟩
theorem aP5 {r : Run} (hc : Shape.C w cs r fp) :
  Calls prog 290 #[.agg cs.toArray] w (rB_ (fD r) w) := by
 have hcap : r.tasks.length ≤ 9223372036854775807 := by have h0 := hc; obtain ⟨v1, v2, f1, f2, h0, hok, h1, h2, hfp⟩ := h0; exact h2.len_le
 refine cC func290 rfl ntmps290 aU (wp_seq (aA (sg (aH (cs := cs) rfl (St.start w) ?_)))); intro b1 W2 hb3 st4
 refine sg (aE (aB (wp_seq (wp_seq (aA ?_)))))
 have hk9 := hc
 obtain ⟨v9_0, v9_1, g9_0, g9_1, rfl, hok9, h9_0, h9_1, rfl⟩ := hk9
 rcases bd (!(inB r.id 1 9999)) with h10 | h10
 ·have h10p := inB_iff'.1 (bY h10)
  rcases Decidable.em ((cJ r.plan) = 0) with h11p | h11p
  ·have h11 := fM h11p
   refine rc st4 19 Ag.nil.put.put.put [] [(23, .bool (!decide ((r.tasks.length : Int) = r.plan.tasks)))] [qb 0 rfl 0, qc func138 rfl (fun W s b => cK W r.id 1 9999), qk h10, qb 0 rfl 1, qc func325 rfl (fun W s b => wJ W (show Shape.C _ [I r.plan.prio, I r.plan.most, I r.plan.wait, I r.plan.tasks, v9_0] r.plan _ from ⟨_, _, rfl, eQ, (h9_0.below s.below), rfl⟩)), qk h11, qb 0 rfl 7, ql h9_1, qb 0 rfl 4, .o] aD fun f12 W13 h12_ st14 hb15 => (aB (bE (h12_.at 23) (fun h16p => ?_) (fun h16p => ?_)))
   ·refine wp_seq (aA (sg (aE (aB (wr (aM results290 rfl ?_))))))
    exact ⟨(fB (by unfold fD; rw [dV (by rintro ⟨hz1, hz2, hz3, hz4, hz5, hz6⟩; omega)])), st14.bare⟩
   refine wp_skip (wp_seq (wp_seq (aA ?_)))
   have hP : cJ r.plan = 0 := by omega
   have hMb := pM (vD hP).1
   refine sg (aE (aB (wp_block (aQ (fun (m : Nat) (f : Nat → Value) (W : World) => ∃ (i : Nat), i ≤ r.tasks.length ∧ (∀ t ∈ r.tasks.take i, 1 ≤ t.state ∧ t.state ≤ 6) ∧ m = r.tasks.length - i ∧ Ag [(1, pt_ b1), (3, I (i : Int))] f ∧ St w W ([Res.bx b1 [I r.id, I r.plan.prio, I r.plan.most, I r.plan.wait, I r.plan.tasks, v9_0, I r.state, v9_1] 55])) (r.tasks.length - 0) ?_ ?_))))
   ·exact ⟨0, aC, (by simp), rfl, (h12_.put.to aD), st14⟩
   intro m21 f22 W23 hJ24
   obtain ⟨i, hk, hSk, rfl, hA26, st25⟩ := hJ24
   refine wp_seq (wp_seq (aA (rn st25 5 hA26 [] [(28, .bool (decide ((i : Int) < (r.tasks.length : Int))))] [qb 0 rfl 7, ql h9_1, .o] aD fun f28 h28_ => (aB (aK (h28_.at 28) (fun h29p => ?_) (fun h29p => ?_))))))
   ·refine wp_skip (wp_seq (wp_block (wp_seq (aA ?_))))
    have hi4283f : i < r.tasks.length := aC
    obtain ⟨b31, o31, cs31, f31, hp31, hr31, hc31, hm31⟩ := idx h9_1 (i := i) hi4283f
    have hk32 := hc31
    obtain ⟨he32, rfl, hok32⟩ := hk32
    have he32 : _ = [I (r.tasks[i]'hi4283f).state, I (r.tasks[i]'hi4283f).need, I (r.tasks[i]'hi4283f).try_, I (r.tasks[i]'hi4283f).until_] := he32
    subst he32
    refine rc st25 8 h28_ [] [(38, .bool (!(inB (r.tasks[i]'hi4283f).state 1 6)))] [qb 0 rfl 7, qx hp31, qr hr31 0, qc (args := [I (r.tasks[i]'hi4283f).state, I 1, I 6]) (v := .bool (inB (r.tasks[i]'hi4283f).state 1 6)) func138 rfl (fun W s b => cK W (r.tasks[i]'hi4283f).state 1 6), .o] aD fun f33 W34 h33_ st35 hb36 => (aB (cF (h33_.at 38) (fun h37 => ?_) (fun h37 => ?_)))
    ·have h37p := eA (aO h37)
     refine wp_seq (aA (sg (aE (aB (wr (aM results290 rfl ?_))))))
     exact ⟨(fB (by unfold fD; rw [dV (fun hz => by have hz2 := (hz.2.2.2.1 i aC aC).1; omega)])), st35.bare⟩
    have h37p := inB_iff'.1 (bY h37)
    refine wp_skip (aA (sg (aG (h33_.at 3) (sg (bW rfl rfl eI (sg (aF (v := I ((i : Int) + 1)) rfl (aB ?_))))))))
    exact ⟨_, r.tasks.length - (i + 1), aC, rfl, i + 1, aC, (fun t ht => by rw [take_succ_eq_append_getElem aC] at ht; rcases mem_append.1 ht with h1 | h1; exact hSk t h1; rw [mem_singleton] at h1; subst h1; omega), rfl, (h33_.put.put.put.to aD), st35⟩
   refine wp_exit (wp_seq (wp_seq (aA ?_)))
   have hS : ∀ t ∈ r.tasks, 1 ≤ t.state ∧ t.state ≤ 6 := by rw [show i = r.tasks.length by omega, take_length] at hSk; exact hSk
   refine sg (aE (aB (wp_block (aQ (fun (m : Nat) (f : Nat → Value) (W : World) => ∃ (k : Nat), k ≤ r.tasks.length ∧ (∀ j, j < k → kH r j) ∧ m = r.tasks.length - k ∧ Ag [(1, pt_ b1), (4, I (k : Int))] f ∧ St w W ([Res.bx b1 [I r.id, I r.plan.prio, I r.plan.most, I r.plan.wait, I r.plan.tasks, v9_0, I r.state, v9_1] 55])) (r.tasks.length - 0) ?_ ?_))))
   ·exact ⟨0, aC, (fun j hj => absurd hj (Nat.not_lt_zero j)), rfl, (h28_.put.to aD), st25⟩
   intro m46 f47 W48 hJ49
   obtain ⟨k, hk, hT, rfl, hA51, st50⟩ := hJ49
   refine wp_seq (wp_seq (aA (rn st50 5 hA51 [] [(43, .bool (decide ((k : Int) < (r.tasks.length : Int))))] [qb 0 rfl 7, ql h9_1, .o] aD fun f53 h53_ => (aB (aK (h53_.at 43) (fun h54p => ?_) (fun h54p => ?_))))))
   ·refine wp_skip (wp_seq (wp_block (wp_seq (aA (rc st50 4 h53_ [] [(49, .bool (!(pB (kG r (jU r (k : Int)) (r.tasks[k]'(by omega))))))] [qb 0 rfl 0, qc (args := [.agg #[I r.id, I r.plan.prio, I r.plan.most, I r.plan.wait, I r.plan.tasks, v9_0, I r.state, v9_1], I (k : Int)]) (v := .bool (pB (kG r (jU r (k : Int)) (r.tasks[k]'(by omega))))) func372 rfl (fun W s b => TaskOkS W (bG hc s.below) (k := k) aC aC aC (hS _ (getElem_mem _))), .o] aD fun f56 W57 h56_ st58 hb59 => (aB (cF (h56_.at 49) (fun h60 => ?_) (fun h60 => ?_))))))))
    ·refine wp_seq (aA (sg (aE (aB (wr (aM results290 rfl ?_))))))
     exact ⟨(fB (by unfold fD; rw [dV (fun hz => aD4 (aO h60) (hz.2.2.2.1 k aC aC))])), st58.bare⟩
    refine wp_skip (aA (sg (aG (h56_.at 4) (sg (bW rfl rfl eI (sg (aF (v := I ((k : Int) + 1)) rfl (aB ?_))))))))
    exact ⟨_, r.tasks.length - (k + 1), aC, rfl, k + 1, aC, (fun j hj => by rcases Nat.lt_succ_iff_lt_or_eq.1 hj with h1 | rfl; exact hT j h1; exact fun _ => pB_iff.1 ((bY h60))), rfl, (h56_.put.put.put.to aD), st58⟩
   refine wp_exit (wp_seq ?_)
   rcases nem (r.state = (iI r.tasks)) with h68p | h68p
   ·have h68 := decide_eq_false h68p
    have hTk : ∀ j, j < r.tasks.length → kH r j := by rw [show k = r.tasks.length by omega] at hT; exact hT
    refine rd st50 h53_ [] [(2, .bool false)] [qb 0 rfl 6, qb 0 rfl 0, qc func373 rfl (fun W s b => aP4 W (bG hc s.below) hS aC), qk h68] aD aD fun f70 W71 h70_ st72 hb73 => (wr (aM results290 (h70_.at 2) ?_))
    exact ⟨(fB (by unfold fD; rw [dV (by rintro ⟨hz1, hz2, hz3, hz4, hz5, hz6⟩; omega)])), st72.bare⟩
   have h68 := decide_eq_true h68p
   have hTk : ∀ j, j < r.tasks.length → kH r j := by rw [show k = r.tasks.length by omega] at hT; exact hT
   refine rd st50 h53_ [] [(2, .bool (!decide (r.state = 0)))] [qb 0 rfl 6, qb 0 rfl 0, qc func373 rfl (fun W s b => aP4 W (bG hc s.below) hS aC), qk h68, qb 0 rfl 6, .o] aD aD fun f75 W76 h75_ st77 hb78 => ?_
   rcases Decidable.em (r.state = 0) with h79p | h79p
   ·have h79 := fM h79p
    refine wr (aM results290 ((h75_.at 2).trans (congrArg Value.bool h79)) ?_)
    exact ⟨(fB (by unfold fD; rw [dV (by rintro ⟨hz1, hz2, hz3, hz4, hz5, hz6⟩; omega)])), st77.bare⟩
   have h79 := fL h79p
   refine wr (aM results290 ((h75_.at 2).trans (congrArg Value.bool h79)) ?_)
   exact ⟨(fB (by unfold fD; rw [lX ⟨by omega, by omega, by omega, hTk, by omega, by omega⟩])), st77.bare⟩
  have h11 := fL h11p
  refine rc st4 19 Ag.nil.put.put.put [] [(23, .bool true)] [qb 0 rfl 0, qc func138 rfl (fun W s b => cK W r.id 1 9999), qk h10, qb 0 rfl 1, qc func325 rfl (fun W s b => wJ W (show Shape.C _ [I r.plan.prio, I r.plan.most, I r.plan.wait, I r.plan.tasks, v9_0] r.plan _ from ⟨_, _, rfl, eQ, (h9_0.below s.below), rfl⟩)), qk h11] aD fun f80 W81 h80_ st82 hb83 => (aB (mV (h80_.at 23) rfl (wp_seq (aA (sg (aE (aB (wr (aM results290 rfl ?_)))))))))
  exact ⟨(fB (by unfold fD; rw [dV (by rintro ⟨hz1, hz2, hz3, hz4, hz5, hz6⟩; omega)])), st82.bare⟩
 have h10p := eA (aO h10)
 refine rc st4 19 Ag.nil.put.put.put [] [(23, .bool true)] [qb 0 rfl 0, qc func138 rfl (fun W s b => cK W r.id 1 9999), qk h10] aD fun f86 W87 h86_ st88 hb89 => (aB (mV (h86_.at 23) rfl (wp_seq (aA (sg (aE (aB (wr (aM results290 rfl ?_)))))))))
 exact ⟨(fB (by unfold fD; rw [dV (by rintro ⟨hz1, hz2, hz3, hz4, hz5, hz6⟩; omega)])), st88.bare⟩
def qC (y : Yard) (j : Nat) : Prop := ∀ h : j < y.runs.length, fD y.runs[j] = true ∧ gY y y.runs[j].id = (j : Int) ∧ eW y.now y.runs[j] y.shelf.flatten = true
noncomputable def dF (y : Yard) : Bool := pB ((0 ≤ y.now ∧ y.now ≤ 999999980) ∧ (1 ≤ y.seq ∧ y.seq ≤ 1000000000) ∧ y.shelf.length = 4 ∧ y.runs.length ≤ 8 ∧ (∀ l ∈ y.shelf, dY l = true) ∧
 (∀ e ∈ y.shelf.flatten, 1 ≤ e.seq ∧ e.seq ≤ y.seq - 1) ∧ (y.shelf.flatten.map (·.seq)).Nodup ∧ (∀ j, j < y.runs.length → qC y j) ∧ jB y ≤ 40)
theorem pC {r : Run} (h : fD r = true) : (0 ≤ r.plan.wait ∧ r.plan.wait ≤ 20) ∧ r.tasks.length ≤ 12 := by
 have h1 := pB_iff.1 h
 have h2 := (vD h1.2.1).1
 have h3 := h1.2.2.1
 unfold cO at h2
 omega
theorem rN {α : Type} {p : α → Prop} {xs : List α} {k : Nat} (hk : k < xs.length) (h : ∀ x ∈ xs.take k, p x) (h1 : p xs[k]) : ∀ x ∈ xs.take (k + 1), p x := by
 intro x hx
 rw [take_succ_eq_append_getElem hk] at hx
 rcases mem_append.1 hx with hx | hx
 ·exact h x hx
 rw [mem_singleton] at hx; subst hx; exact h1
theorem qU {α β : Type} (f : α → β) {xs : List α} {k : Nat} (hk : k < xs.length) : (xs.take (k + 1)).map f = (xs.take k).map f ++ [f xs[k]] := by
 rw [take_succ_eq_append_getElem hk, map_append]; rfl
theorem nA {xs : List Entry} {k : Nat} (hk : k < xs.length) (h : ((xs.take k).map (·.seq)).Nodup) (hn : xs[k].seq ∉ (xs.take k).map (·.seq)) : ((xs.take (k + 1)).map (·.seq)).Nodup := by
 rw [qU _ hk, nodup_append]
 exact ⟨h, by simp, fun a ha b hb => by simp at hb; subst hb; exact fun e => hn (e ▸ ha)⟩
theorem oS {xs : List Entry} {k : Nat} (hk : k < xs.length) (hm : xs[k].seq ∈ (xs.take k).map (·.seq)) : ¬ (xs.map (·.seq)).Nodup := by
 intro h
 have h2 : ((xs.take (k + 1)).map (·.seq)).Nodup := h.sublist ((take_sublist _ _).map _)
 rw [qU _ hk, nodup_append] at h2
 exact h2.2.2 _ hm _ (by simp) rfl

theorem YardOkI {y : Yard} (hc : Shape.C w cs y fp) (hw : y.wt ≤ 1048576) :
  Calls prog 118 #[.agg cs.toArray] w (rB_ (dF y) w) := by
 have hyr : y.runs.length ≤ y.wt := by unfold Yard.wt wtL; omega
 have hys : y.shelf.length ≤ y.wt := by unfold Yard.wt wtL; omega
 have hfw := qY y
 refine cC func118 rfl ntmps118 aU (wp_seq (aA (sg (aH (cs := cs) rfl (St.start w) ?_)))); intro b1 W2 hb3 st4
 refine sg (aE (aB (wp_seq (wp_seq (aA ?_)))))
 have hk9 := hc
 obtain ⟨v9_0, v9_1, g9_0, g9_1, rfl, hok9, h9_0, h9_1, rfl⟩ := hk9
 refine rg st4 22 Ag.nil.put.put.put [] [(32, .bool ((((!(inB y.now 0 999999980)) || (!(inB y.seq 1 1000000000))) || (!decide ((y.shelf.length : Int) = 4))) || (decide (8 < (y.runs.length : Int)))))] [qb 0 rfl 0, qc func92 rfl (fun W s b => dH W y.now 0 999999980), .o, qb 0 rfl 1, qc func92 rfl (fun W s b => dH W y.seq 1 1000000000), .o, qb 0 rfl 2, ql h9_0, .o, qb 0 rfl 3, ql h9_1, .o] aD fun f10 W11 h10_ st12 hb13 => (aB (cF (h10_.at 32) (fun h14 => ?_) (fun h14 => ?_)))
 ·have h14p := h14
  simp [inB] at h14p
  refine wp_seq (aA (sg (aE (aB (wr (aM results118 rfl ?_))))))
  exact ⟨(fB (by unfold dF; rw [dV (by rintro ⟨hz1, hz2, hz3, hz4, hz5, hz6, hz7, hz8, hz9⟩; omega)])), st12.bare⟩
 have h14p := h14
 simp [inB] at h14p
 refine wp_skip (wp_seq (wp_seq (aA (rn st12 4 h10_ [] [(34, v9_0), (35, I (y.shelf.length : Int)), (36, I 0)] [qb 0 rfl 2, ql h9_0] aD fun f18 h18_ => (aB (wp_block (aQ (fun (m : Nat) (f : Nat → Value) (W : World) => ∃ (k : Nat), k ≤ y.shelf.length ∧ (∀ l ∈ y.shelf.take k, dY l = true) ∧ m = y.shelf.length - k ∧ Ag [(1, pt_ b1), (34, v9_0), (35, I (y.shelf.length : Int)), (36, I (k : Int))] f ∧ St w W ([Res.bx b1 [I y.now, I y.seq, v9_0, v9_1] 27])) (y.shelf.length - 0) ?_ ?_)))))))
 ·exact ⟨0, aC, (by simp), rfl, (h18_.to aD), st12⟩
 intro m19 f20 W21 hJ22
 obtain ⟨k, hk, hS1, rfl, hA24, st23⟩ := hJ22
 refine wp_seq (aA (sg (bA (hA24.at 36) (hA24.at 35) (aB (wp_seq (aK rfl (fun h27p => ?_) (fun h27p => ?_)))))))
 ·refine wp_skip (wp_seq (wp_block (wp_seq (aA ?_))))
  have hi019db : k < y.shelf.length := aC
  obtain ⟨b28, o28, cs28, f28, hp28, hr28, hc28, hm28⟩ := idx h9_0 (i := k) hi019db
  have hk28 := hc28
  obtain ⟨v29, rfl, h30⟩ := hk28
  refine rn st23 3 hA24.put [] [(4, v29)] [qx hp28, qr hr28 0] aD fun f32 h32_ => (aB (wp_seq (aA (rc st23 3 h32_ [] [(42, .bool (!(dY (y.shelf[k]'hi019db))))] [qc (args := [v29]) (v := .bool (dY (y.shelf[k]'hi019db))) func228 rfl (fun W s b => ShelfOkI W (h30.below s.below)), .o] aD fun f34 W35 h34_ st36 hb37 => (aB (cF (h34_.at 42) (fun h38 => ?_) (fun h38 => ?_)))))))
  ·refine wp_seq (aA (sg (aE (aB (wr (aM results118 rfl ?_))))))
   exact ⟨(fB (by unfold dF; rw [dV (by rintro ⟨hz1, hz2, hz3, hz4, hz5, hz6, hz7, hz8, hz9⟩; have hq := hz5 _ (getElem_mem (n := k) aC); rw [(aO h38)] at hq; cases hq)])), st36.bare⟩
  refine wp_skip (aA (sg (bW (h34_.at 36) rfl eI (sg (aG (v := I ((k : Int) + 1)) rfl (aB ?_))))))
  exact ⟨_, y.shelf.length - (k + 1), aC, rfl, k + 1, aC, (rN aC hS1 (bY h38)), rfl, (h34_.put.put.to aD), st36⟩
 refine wp_exit (wp_seq (aA ?_))
 have hS1 : ∀ l ∈ y.shelf, dY l = true := by rw [show k = y.shelf.length by omega, take_length] at hS1; exact hS1
 refine sg (aV (cs := [I y.now, I y.seq, v9_0, v9_1]) iL rfl (hA24.at 1) (st23.get 0 rfl) rfl rfl (sg (bO func229 rfl rfl ((aC1 W21 (bG hc st23.below) aC).mono ?_)))); rintro _ W47 ⟨v45, fp45, rfl, hk48⟩; refine ⟨_, rfl, ?_⟩
 have st49 := St.call st23 hk48
 refine sg (aF (v := v45) rfl (aB (wp_seq (aA (sg (aF (v := .slice none 0 0) rfl (aB (wp_seq (wp_seq (aA (rn st49 3 hA24.put.put.put.put.put [] [(46, v45), (47, I ((y.shelf).flatten.length : Int)), (48, I 0)] [ql (aR (st49.get 0 rfl))] aD fun f56 h56_ => (aB (wp_block ?_)))))))))))))
 have st58 := st49.row_nil (α := Int) 3
 refine aQ (fun (m : Nat) (f : Nat → Value) (W : World) => ∃ (k2 : Nat) (v57 : Value), k2 ≤ y.shelf.flatten.length ∧ (∀ e ∈ y.shelf.flatten.take k2, 1 ≤ e.seq ∧ e.seq ≤ y.seq - 1) ∧ ((y.shelf.flatten.take k2).map (·.seq)).Nodup ∧ m = y.shelf.flatten.length - k2 ∧ Ag [(1, pt_ b1), (5, v45), (6, v57), (46, v45), (47, I ((y.shelf).flatten.length : Int)), (48, I (k2 : Int))] f ∧ St w W ([Res.row (α := Int) 3 v57 ((y.shelf.flatten.take k2).map (·.seq)) [], Res.own (α := List Entry) v45 (y.shelf).flatten fp45, Res.bx b1 [I y.now, I y.seq, v9_0, v9_1] 27])) (y.shelf.flatten.length - 0) ?_ ?_
 ·exact ⟨0, (.slice none 0 0), aC, (by simp), (by simp), rfl, (h56_.to aD), st58⟩
 intro m60 f61 W62 hJ63
 obtain ⟨k2, v57, hk2, hS2, hS3, rfl, hA65, st64⟩ := hJ63
 have hml : ((y.shelf.flatten.take k2).map (·.seq)).length ≤ y.shelf.flatten.length := by rw [length_map]; exact length_take_le' _ _
 refine wp_seq (aA (sg (bA (hA65.at 48) (hA65.at 47) (aB (wp_seq (aK rfl (fun h68p => ?_) (fun h68p => ?_)))))))
 ·refine wp_skip (wp_seq (wp_block (wp_seq (aA ?_))))
  have hi3bcf4 : k2 < (y.shelf).flatten.length := aC
  obtain ⟨b69, o69, cs69, f69, hp69, hr69, hc69, hm69⟩ := idx (aR (st64.get 1 rfl)) (i := k2) hi3bcf4
  refine sg (aY jI (hA65.at 46) hp69 (hA65.at 48) rfl (sg (dX iT rfl rfl hr69 (Below.refl _ _) (Shape.len hc69) (sg (aT mQ st64 ?_))))); intro b72 W73 hb74 st75
  refine sgn (bR (cs := cs69) iT hc69 rfl rfl st75 rfl ?_); intro W77 st78
  refine aB (wp_seq (wp_seq (aA ?_)))
  have hk80 := hc69
  obtain ⟨he80, rfl, hok80⟩ := hk80
  have he80 : _ = [I ((y.shelf).flatten[k2]'hi3bcf4).prio, I ((y.shelf).flatten[k2]'hi3bcf4).seq, I ((y.shelf).flatten[k2]'hi3bcf4).run, I ((y.shelf).flatten[k2]'hi3bcf4).task] := he80
  subst he80
  rcases bd (!(inB ((y.shelf).flatten[k2]'hi3bcf4).seq 1 (y.seq - 1))) with h81 | h81
  ·have h81p := inB_iff'.1 (bY h81)
   refine rc st78 13 hA65.put.put.put.put [] [(64, .bool (decide (((y.shelf).flatten[k2]'hi3bcf4).seq ∈ ((y.shelf.flatten.take k2).map (·.seq)))))] [qb 0 rfl 1, qb 3 rfl 1, qsb y.seq 1, qc (args := [I ((y.shelf).flatten[k2]'hi3bcf4).seq, I 1, I (y.seq - 1)]) (v := .bool (inB ((y.shelf).flatten[k2]'hi3bcf4).seq 1 (y.seq - 1))) func92 rfl (fun W s b => dH W ((y.shelf).flatten[k2]'hi3bcf4).seq 1 (y.seq - 1)), qk h81, qb 0 rfl 1, qc (args := [v57, I ((y.shelf).flatten[k2]'hi3bcf4).seq]) (v := .bool (decide (((y.shelf).flatten[k2]'hi3bcf4).seq ∈ ((y.shelf.flatten.take k2).map (·.seq))))) func230 rfl (fun W s b => ContN W (cN (s.get 1 rfl)) ((y.shelf).flatten[k2]'hi3bcf4).seq)] aD fun f82 W83 h82_ st84 hb85 => (aB (aK (h82_.at 64) (fun h86p => ?_) (fun h86p => ?_)))
   ·have h86 := decide_eq_true h86p
    refine wp_seq (aA (sg (aE (aB (wr (aM results118 rfl ?_))))))
    exact ⟨(fB (by unfold dF; rw [dV (by rintro ⟨hz1, hz2, hz3, hz4, hz5, hz6, hz7, hz8, hz9⟩; exact oS (k := k2) aC (of_decide_eq_true h86) hz7)])), st84.bare⟩
   have h86 := decide_eq_false h86p
   refine wp_skip (aA (rn st84 3 h82_ [] [(65, v57), (67, I ((y.shelf).flatten[k2]'hi3bcf4).seq)] [qb 0 rfl 1] aD fun f90 h90_ => (sg (aZ (cs := [I ((y.shelf).flatten[k2]'hi3bcf4).seq]) (e := 3) (eS (h90_.at 67) jD) (bT fG _ _ rfl rfl aU) st84 ?_)))); intro b91 W92 hb93 st94
   refine sg (dR (ys := [((y.shelf).flatten[k2]'hi3bcf4).seq]) fG (h90_.at 65) rfl rfl st94.f2 (Elems.ic (by simp only [I64]; omega) Elems.i0) (by unfold maxLen; omega) aC ?_); intro v97 W98 st99
   refine sg (aF (v := v97) rfl (aB (aA (sg (bW (h90_.at 48) rfl eI (sg (aG (v := I ((k2 : Int) + 1)) rfl (aB ?_))))))))
   exact ⟨_, y.shelf.flatten.length - (k2 + 1), aC, rfl, k2 + 1, v97, aC, (rN aC hS2 aC), (nA aC hS3 (of_decide_eq_false h86)), rfl, (h90_.put.put.put.put.put.to aD), (by rw [qU _ aC]; exact st99.f3.f3.f2.d3)⟩
  have h81p := eA (aO h81)
  refine rc st78 13 hA65.put.put.put.put [] [(64, .bool true)] [qb 0 rfl 1, qb 3 rfl 1, qsb y.seq 1, qc (args := [I ((y.shelf).flatten[k2]'hi3bcf4).seq, I 1, I (y.seq - 1)]) (v := .bool (inB ((y.shelf).flatten[k2]'hi3bcf4).seq 1 (y.seq - 1))) func92 rfl (fun W s b => dH W ((y.shelf).flatten[k2]'hi3bcf4).seq 1 (y.seq - 1)), qk h81] aD fun f108 W109 h108_ st110 hb111 => (aB (mV (h108_.at 64) rfl (wp_seq (aA (sg (aE (aB (wr (aM results118 rfl ?_)))))))))
  exact ⟨(fB (by unfold dF; rw [dV (by rintro ⟨hz1, hz2, hz3, hz4, hz5, hz6, hz7, hz8, hz9⟩; have hq := hz6 _ (getElem_mem (n := k2) aC); omega)])), st110.bare⟩
 refine wp_exit (wp_seq (wp_seq (aA ?_)))
 have hS2 : ∀ e ∈ y.shelf.flatten, 1 ≤ e.seq ∧ e.seq ≤ y.seq - 1 := by rw [show k2 = y.shelf.flatten.length by omega, take_length] at hS2; exact hS2
 have hS3 : (y.shelf.flatten.map (·.seq)).Nodup := by rw [show k2 = y.shelf.flatten.length by omega, take_length] at hS3; exact hS3
 refine rn st64 4 hA65.put [] [(72, v9_1), (73, I (y.runs.length : Int)), (74, I 0)] [qb 2 rfl 3, ql h9_1] aD fun f115 h115_ => (aB (wp_block (aQ (fun (m : Nat) (f : Nat → Value) (W : World) => ∃ (k3 : Nat), k3 ≤ y.runs.length ∧ (∀ j, j < k3 → qC y j) ∧ m = y.runs.length - k3 ∧ Ag [(1, pt_ b1), (5, v45), (72, v9_1), (73, I (y.runs.length : Int)), (74, I (k3 : Int))] f ∧ St w W ([Res.row (α := Int) 3 v57 ((y.shelf.flatten.take k2).map (·.seq)) [], Res.own (α := List Entry) v45 (y.shelf).flatten fp45, Res.bx b1 [I y.now, I y.seq, v9_0, v9_1] 27])) (y.runs.length - 0) ?_ ?_)))
 ·exact ⟨0, aC, (fun j hj => absurd hj (Nat.not_lt_zero j)), rfl, (h115_.to aD), st64⟩
 intro m116 f117 W118 hJ119
 obtain ⟨k3, hk3, hS4, rfl, hA121, st120⟩ := hJ119
 refine wp_seq (aA (sg (bA (hA121.at 74) (hA121.at 73) (aB (wp_seq (aK rfl (fun h124p => ?_) (fun h124p => ?_)))))))
 ·refine wp_skip (wp_seq (wp_block (wp_seq (aA ?_))))
  have hi7dcb8 : k3 < y.runs.length := aC
  obtain ⟨b126, o126, cs126, f126, hp126, hr126, hc126, hm126⟩ := idx h9_1 (i := k3) hi7dcb8
  refine rn st120 3 hA121.put [] [(76, I (k3 : Int)), (78, .agg cs126.toArray)] [qx hp126, qrw hr126 (Shape.len hc126)] aD fun f127 h127_ => (sg (aT oW st120 ?_)); intro b128 W129 hb130 st131
  refine sg (aF (h127_.at 76) (sgn (bR (cs := cs126) fU hc126 rfl (h127_.at 78) st131 rfl ?_))); intro W135 st136
  refine aB (wp_seq (aA ?_))
  rcases bd (!(fD (y.runs[k3]'hi7dcb8))) with h138 | h138
  ·have hk139 := hc126
   obtain ⟨v139_0, v139_1, g139_0, g139_1, rfl, hok139, h139_0, h139_1, rfl⟩ := hk139
   rcases Decidable.em ((gY y (y.runs[k3]'hi7dcb8).id) = (k3 : Int)) with h140p | h140p
   ·have h140 := fM h140p
    refine rc st136 15 h127_.put.put [] [(90, .bool false), (91, .agg #[I y.now, I y.seq, v9_0, v9_1]), (92, .agg #[I (y.runs[k3]'hi7dcb8).id, I (y.runs[k3]'hi7dcb8).plan.prio, I (y.runs[k3]'hi7dcb8).plan.most, I (y.runs[k3]'hi7dcb8).plan.wait, I (y.runs[k3]'hi7dcb8).plan.tasks, v139_0, I (y.runs[k3]'hi7dcb8).state, v139_1]), (93, v45)] [qb 0 rfl 0, qc (args := [.agg #[I (y.runs[k3]'hi7dcb8).id, I (y.runs[k3]'hi7dcb8).plan.prio, I (y.runs[k3]'hi7dcb8).plan.most, I (y.runs[k3]'hi7dcb8).plan.wait, I (y.runs[k3]'hi7dcb8).plan.tasks, v139_0, I (y.runs[k3]'hi7dcb8).state, v139_1]]) (v := .bool (fD (y.runs[k3]'hi7dcb8))) func231 rfl (fun W s b => aF1 W (bG hc126 s.below)), qk h138, qb 3 rfl 0, qb 0 rfl 0, qc (args := [.agg #[I y.now, I y.seq, v9_0, v9_1], I (y.runs[k3]'hi7dcb8).id]) (v := I (gY y (y.runs[k3]'hi7dcb8).id)) func232 rfl (fun W s b => zH W (bG hc s.below) (y.runs[k3]'hi7dcb8).id aC), qk h140, qb 3 rfl 0, qb 0 rfl 0] aD fun f141 W142 h141_ st143 hb144 => ?_
    have hwt := pC (bY h138)
    refine rc st143 3 h141_ [] [(96, .bool (!(eW y.now (y.runs[k3]'hi7dcb8) (y.shelf).flatten)))] [qc (args := [.agg #[I y.now, I y.seq, v9_0, v9_1], .agg #[I (y.runs[k3]'hi7dcb8).id, I (y.runs[k3]'hi7dcb8).plan.prio, I (y.runs[k3]'hi7dcb8).plan.most, I (y.runs[k3]'hi7dcb8).plan.wait, I (y.runs[k3]'hi7dcb8).plan.tasks, v139_0, I (y.runs[k3]'hi7dcb8).state, v139_1], v45]) (v := .bool (eW y.now (y.runs[k3]'hi7dcb8) (y.shelf).flatten)) func233 rfl (fun W s b => RunsOkI W (bG hc s.below) (bG hc126 s.below) (aR (s.get 2 rfl)) aC aC aC), .o] aD fun f146 W147 h146_ st148 hb149 => (aB (cF (h146_.at 96) (fun h150 => ?_) (fun h150 => ?_)))
    ·refine wp_seq (aA (sg (aE (aB (wr (aM results118 rfl ?_))))))
     exact ⟨(fB (by unfold dF; rw [dV (by rintro ⟨hz1, hz2, hz3, hz4, hz5, hz6, hz7, hz8, hz9⟩; have hq := (hz8 k3 aC aC).2.2; rw [(aO h150)] at hq; cases hq)])), st148.bare⟩
    refine wp_skip (aA (sg (bW (h146_.at 74) rfl eI (sg (aG (v := I ((k3 : Int) + 1)) rfl (aB ?_))))))
    have st155 := st148.f3
    exact ⟨_, y.runs.length - (k3 + 1), aC, rfl, k3 + 1, aC, (fun j hj => by rcases Nat.lt_succ_iff_lt_or_eq.1 hj with h1 | rfl; exact hS4 j h1; exact fun _ => ⟨(bY h138), by omega, (bY h150)⟩), rfl, (h146_.put.put.to aD), st155.f3.f3.d3⟩
   have h140 := fL h140p
   refine rc st136 15 h127_.put.put [] [(90, .bool true)] [qb 0 rfl 0, qc (args := [.agg #[I (y.runs[k3]'hi7dcb8).id, I (y.runs[k3]'hi7dcb8).plan.prio, I (y.runs[k3]'hi7dcb8).plan.most, I (y.runs[k3]'hi7dcb8).plan.wait, I (y.runs[k3]'hi7dcb8).plan.tasks, v139_0, I (y.runs[k3]'hi7dcb8).state, v139_1]]) (v := .bool (fD (y.runs[k3]'hi7dcb8))) func231 rfl (fun W s b => aF1 W (bG hc126 s.below)), qk h138, qb 3 rfl 0, qb 0 rfl 0, qc (args := [.agg #[I y.now, I y.seq, v9_0, v9_1], I (y.runs[k3]'hi7dcb8).id]) (v := I (gY y (y.runs[k3]'hi7dcb8).id)) func232 rfl (fun W s b => zH W (bG hc s.below) (y.runs[k3]'hi7dcb8).id aC), qk h140] aD fun f159 W160 h159_ st161 hb162 => ?_
   have hwt := pC (bY h138)
   refine rn st161 3 h159_ [] [(96, .bool true)] [] aD fun f164 h164_ => (aB (mV (h164_.at 96) rfl (wp_seq (aA (sg (aE (aB (wr (aM results118 rfl ?_)))))))))
   exact ⟨(fB (by unfold dF; rw [dV (by rintro ⟨hz1, hz2, hz3, hz4, hz5, hz6, hz7, hz8, hz9⟩; have hq := (hz8 k3 aC aC).2.1; omega)])), st161.bare⟩
  refine rc st136 15 h127_.put.put [] [(90, .bool true)] [qw 0 rfl (Shape.len hc126), qc (args := [.agg cs126.toArray]) (v := .bool (fD (y.runs[k3]'hi7dcb8))) func231 rfl (fun W s b => aF1 W (bG hc126 s.below)), qk h138] aD fun f167 W168 h167_ st169 hb170 => (rn st169 3 h167_ [] [(96, .bool true)] [] aD fun f172 h172_ => (aB (mV (h172_.at 96) rfl (wp_seq (aA (sg (aE (aB (wr (aM results118 rfl ?_))))))))))
  exact ⟨(fB (by unfold dF; rw [dV (by rintro ⟨hz1, hz2, hz3, hz4, hz5, hz6, hz7, hz8, hz9⟩; have hq := (hz8 k3 aC aC).1; rw [(aO h138)] at hq; cases hq)])), st169.bare⟩
 refine wp_exit (wp_seq (aA ?_))
 have hS4 : ∀ j, j < y.runs.length → qC y j := by rw [show k3 = y.runs.length by omega] at hS4; exact hS4
 refine rc st120 4 hA121.put [] [(2, .bool (decide ((jB y) ≤ 40)))] [qb 2 rfl 0, qc func234 rfl (fun W s b => SlotsOfI W (bG hc s.below) aC), .o] aD fun f176 W177 h176_ st178 hb179 => (aB ?_)
 rcases nem ((jB y) ≤ 40) with h180p | h180p
 ·have h180 := decide_eq_false h180p
  refine wr (aM results118 ((h176_.at 2).trans (congrArg Value.bool h180)) ?_)
  exact ⟨(fB (by unfold dF; rw [dV (by rintro ⟨hz1, hz2, hz3, hz4, hz5, hz6, hz7, hz8, hz9⟩; omega)])), st178.bare⟩
 have h180 := decide_eq_true h180p
 refine wr (aM results118 ((h176_.at 2).trans (congrArg Value.bool h180)) ?_)
 exact ⟨(fB (by unfold dF; rw [lX ⟨by omega, by omega, by omega, by omega, hS1, hS2, hS3, hS4, by omega⟩])), st178.bare⟩
theorem ShelvesS {y : Yard} (hc : Shape.C w cs y fp) (hsq : 1 ≤ y.seq ∧ y.seq ≤ 1000000000) (hw : y.wt ≤ 1048576) :
  Calls prog 289 #[.agg cs.toArray] w (rB_ (pB (y.shelf.length = 4 ∧ (∀ l ∈ y.shelf, dY l = true) ∧ (∀ e ∈ y.shelf.flatten, 1 ≤ e.seq ∧ e.seq ≤ y.seq - 1) ∧ (y.shelf.flatten.map (·.seq)).Nodup)) w) := by
 have hyr : y.runs.length ≤ y.wt := by unfold Yard.wt wtL; omega
 have hys : y.shelf.length ≤ y.wt := by unfold Yard.wt wtL; omega
 have hfw := qY y
 refine cC func289 rfl ntmps289 aU (wp_seq (aA (sg (aH (cs := cs) rfl (St.start w) ?_)))); intro b1 W2 hb3 st4
 refine sg (aE (aB (wp_seq (wp_seq (aA ?_)))))
 have hk9 := hc
 obtain ⟨v9_0, v9_1, g9_0, g9_1, rfl, hok9, h9_0, h9_1, rfl⟩ := hk9
 refine rn st4 4 Ag.nil.put.put.put [] [(10, .bool (!decide ((y.shelf.length : Int) = 4)))] [qb 0 rfl 2, ql h9_0, .o] aD fun f10 h10_ => (aB (bE (h10_.at 10) (fun h11p => ?_) (fun h11p => ?_)))
 ·refine wp_seq (aA (sg (aE (aB (wr (aM results289 rfl ?_))))))
  exact ⟨(fB (by rw [dV (by rintro ⟨hz3, hz5, hz6, hz7⟩; omega)])), st4.bare⟩
 refine wp_skip (wp_seq (wp_seq (aA (sg (aE (aB (wp_block (aQ (fun (m : Nat) (f : Nat → Value) (W : World) => ∃ (k : Nat), k ≤ y.shelf.length ∧ (∀ l ∈ y.shelf.take k, dY l = true) ∧ m = y.shelf.length - k ∧ Ag [(1, pt_ b1), (3, I (k : Int))] f ∧ St w W ([Res.bx b1 [I y.now, I y.seq, v9_0, v9_1] 27])) (y.shelf.length - 0) ?_ ?_))))))))
 ·exact ⟨0, aC, (by simp), rfl, (h10_.put.to aD), st4⟩
 intro m16 f17 W18 hJ19
 obtain ⟨k, hk, hS1, rfl, hA21, st20⟩ := hJ19
 refine wp_seq (wp_seq (aA (rn st20 5 hA21 [] [(15, .bool (decide ((k : Int) < (y.shelf.length : Int))))] [qb 0 rfl 2, ql h9_0, .o] aD fun f23 h23_ => (aB (aK (h23_.at 15) (fun h24p => ?_) (fun h24p => ?_))))))
 ·refine wp_skip (wp_seq (wp_block (wp_seq (aA ?_))))
  have hi019db : k < y.shelf.length := aC
  obtain ⟨b26, o26, cs26, f26, hp26, hr26, hc26, hm26⟩ := idx h9_0 (i := k) hi019db
  have hk26 := hc26
  obtain ⟨v27, rfl, h28⟩ := hk26
  refine rc st20 7 h23_ [] [(24, .bool (!(dY (y.shelf[k]'hi019db))))] [qb 0 rfl 2, qx hp26, qr hr26 0, qc (args := [v27]) (v := .bool (dY (y.shelf[k]'hi019db))) func371 rfl (fun W s b => ShelfOkS W (h28.below s.below)), .o] aD fun f29 W30 h29_ st31 hb32 => (aB (cF (h29_.at 24) (fun h33 => ?_) (fun h33 => ?_)))
  ·refine wp_seq (aA (sg (aE (aB (wr (aM results289 rfl ?_))))))
   exact ⟨(fB (by rw [dV (by rintro ⟨hz3, hz5, hz6, hz7⟩; have hq := hz5 _ (getElem_mem (n := k) aC); rw [(aO h33)] at hq; cases hq)])), st31.bare⟩
  refine wp_skip (aA (rn st31 3 h29_ [3] [(3, I ((k : Int) + 1))] [qad (k : Int) 1] aD fun f37 h37_ => (aB ?_)))
  exact ⟨_, y.shelf.length - (k + 1), aC, rfl, k + 1, aC, (rN aC hS1 (bY h33)), rfl, (h37_.to aD), st31⟩
 refine wp_exit (wp_seq (aA ?_))
 have hS1 : ∀ l ∈ y.shelf, dY l = true := by rw [show k = y.shelf.length by omega, take_length] at hS1; exact hS1
 refine sg (aV (cs := [I y.now, I y.seq, v9_0, v9_1]) iL rfl (h23_.at 1) (st20.get 0 rfl) rfl rfl (sg (bO func292 rfl rfl ((aC0 W18 (bG hc st20.below) aC).mono ?_)))); rintro _ W42 ⟨v40, fp40, rfl, hk43⟩; refine ⟨_, rfl, ?_⟩
 have st44 := St.call st20 hk43
 refine sg (aF (v := v40) rfl (aB (wp_seq (wp_seq (aA (sg (aE (aB (wp_block (aQ (fun (m : Nat) (f : Nat → Value) (W : World) => ∃ (k2 : Nat), k2 ≤ y.shelf.flatten.length ∧ (∀ e ∈ y.shelf.flatten.take k2, 1 ≤ e.seq ∧ e.seq ≤ y.seq - 1) ∧ ((y.shelf.flatten.take k2).map (·.seq)).Nodup ∧ m = y.shelf.flatten.length - k2 ∧ Ag [(1, pt_ b1), (4, v40), (5, I (k2 : Int))] f ∧ St w W ([Res.own (α := List Entry) v40 (y.shelf).flatten fp40, Res.bx b1 [I y.now, I y.seq, v9_0, v9_1] 27])) (y.shelf.flatten.length - 0) ?_ ?_))))))))))
 ·exact ⟨0, aC, (by simp), (by simp), rfl, (h23_.put.put.put.put.to aD), st44⟩
 intro m50 f51 W52 hJ53
 obtain ⟨k2, hk2, hS2, hS3, rfl, hA55, st54⟩ := hJ53
 refine wp_seq (wp_seq (aA (rn st54 4 hA55 [] [(30, .bool (decide ((k2 : Int) < ((y.shelf).flatten.length : Int))))] [ql (aR (st54.get 0 rfl)), .o] aD fun f57 h57_ => (aB (aK (h57_.at 30) (fun h58p => ?_) (fun h58p => ?_))))))
 ·refine wp_skip (wp_seq (wp_block (wp_seq (wp_seq ?_))))
  have hi3bcf4 : k2 < (y.shelf).flatten.length := aC
  obtain ⟨b60, o60, cs60, f60, hp60, hr60, hc60, hm60⟩ := idx (aR (st54.get 0 rfl)) (i := k2) hi3bcf4
  have hk61 := hc60
  obtain ⟨he61, rfl, hok61⟩ := hk61
  have he61 : _ = [I ((y.shelf).flatten[k2]'hi3bcf4).prio, I ((y.shelf).flatten[k2]'hi3bcf4).seq, I ((y.shelf).flatten[k2]'hi3bcf4).run, I ((y.shelf).flatten[k2]'hi3bcf4).task] := he61
  subst he61
  refine rd st54 h57_ [] [(42, .bool (!(inB ((y.shelf).flatten[k2]'hi3bcf4).seq 1 (y.seq - 1))))] [qx hp60, qn hr60 1, qb 1 rfl 1, qsb y.seq 1, qc (args := [I ((y.shelf).flatten[k2]'hi3bcf4).seq, I 1, I (y.seq - 1)]) (v := .bool (inB ((y.shelf).flatten[k2]'hi3bcf4).seq 1 (y.seq - 1))) func138 rfl (fun W s b => cK W ((y.shelf).flatten[k2]'hi3bcf4).seq 1 (y.seq - 1)), .o] aD aD fun f62 W63 h62_ st64 hb65 => (cF (h62_.at 42) (fun h66 => ?_) (fun h66 => ?_))
  ·have h66p := eA (aO h66)
   refine wp_seq (aA (sg (aE (aB (wr (aM results289 rfl ?_))))))
   exact ⟨(fB (by rw [dV (by rintro ⟨hz3, hz5, hz6, hz7⟩; have hq := hz6 _ (getElem_mem (n := k2) aC); omega)])), st64.bare⟩
  have h66p := inB_iff'.1 (bY h66)
  refine wp_skip (wp_seq (aA (sg (aE (aB (wp_block (aQ (fun (m : Nat) (f : Nat → Value) (W : World) => ∃ (j : Nat), k2 < y.shelf.flatten.length ∧ j ≤ k2 ∧ (y.shelf.flatten[k2]'(by omega)).seq ∉ (y.shelf.flatten.take j).map (·.seq) ∧ m = k2 - j ∧ Ag [(1, pt_ b1), (4, v40), (5, I (k2 : Int)), (6, I (j : Int))] f ∧ St w W ([Res.own (α := List Entry) v40 (y.shelf).flatten fp40, Res.bx b1 [I y.now, I y.seq, v9_0, v9_1] 27])) (k2 - 0) ?_ ?_)))))))
  ·exact ⟨0, aC, aC, (by simp), rfl, (h62_.put.to aD), st64⟩
  intro m71 f72 W73 hJ74
  obtain ⟨j, hk2b, hj, hJ, rfl, hA76, st75⟩ := hJ74
  refine wp_seq (wp_seq (aA (rn st75 3 hA76 [] [(45, .bool (decide ((j : Int) < (k2 : Int))))] [.o] aD fun f78 h78_ => (aB (aK (h78_.at 45) (fun h79p => ?_) (fun h79p => ?_))))))
  ·refine wp_skip (wp_seq (wp_block (wp_seq ?_)))
   have hi2a04a : j < (y.shelf).flatten.length := aC
   obtain ⟨b81, o81, cs81, f81, hp81, hr81, hc81, hm81⟩ := idx (aR (st75.get 0 rfl)) (i := j) hi2a04a
   have hk82 := hc81
   obtain ⟨he82, rfl, hok82⟩ := hk82
   have he82 : _ = [I ((y.shelf).flatten[j]'hi2a04a).prio, I ((y.shelf).flatten[j]'hi2a04a).seq, I ((y.shelf).flatten[j]'hi2a04a).run, I ((y.shelf).flatten[j]'hi2a04a).task] := he82
   subst he82
   have hi3bcf4 : k2 < (y.shelf).flatten.length := aC
   obtain ⟨b83, o83, cs83, f83, hp83, hr83, hc83, hm83⟩ := idx (aR (st75.get 0 rfl)) (i := k2) hi3bcf4
   have hk84 := hc83
   obtain ⟨he84, rfl, hok84⟩ := hk84
   have he84 : _ = [I ((y.shelf).flatten[k2]'hi3bcf4).prio, I ((y.shelf).flatten[k2]'hi3bcf4).seq, I ((y.shelf).flatten[k2]'hi3bcf4).run, I ((y.shelf).flatten[k2]'hi3bcf4).task] := he84
   subst he84
   refine rd st75 h78_ [] [(58, .bool (decide (((y.shelf).flatten[j]'hi2a04a).seq = ((y.shelf).flatten[k2]'hi3bcf4).seq)))] [qx hp81, qn hr81 1, qx hp83, qn hr83 1, .o] aD aD fun f85 W86 h85_ st87 hb88 => (aK (h85_.at 58) (fun h89p => ?_) (fun h89p => ?_))
   ·refine wp_seq (aA (sg (aE (aB (wr (aM results289 rfl ?_))))))
    exact ⟨(fB (by rw [dV (by rintro ⟨hz3, hz5, hz6, hz7⟩; exact oS (k := k2) aC (by rw [← h89p]; exact mem_map_of_mem (tH aC aC)) hz7)])), st87.bare⟩
   refine wp_skip (aA (rn st87 3 h85_ [6] [(6, I ((j : Int) + 1))] [qad (j : Int) 1] aD fun f93 h93_ => (aB ?_)))
   exact ⟨_, k2 - (j + 1), aC, rfl, j + 1, aC, aC, (by rw [qU _ aC, mem_append]; rintro (hq | hq); exact hJ hq; rw [mem_singleton] at hq; exact h89p hq.symm), rfl, (h93_.to aD), st87⟩
  refine wp_exit (aA (rn st75 3 h78_ [5] [(5, I ((k2 : Int) + 1))] [qad (k2 : Int) 1] aD fun f95 h95_ => (aB ?_)))
  exact ⟨_, y.shelf.flatten.length - (k2 + 1), aC, rfl, k2 + 1, aC, (rN aC hS2 aC), (nA aC hS3 (by rw [show j = k2 by omega] at hJ; exact hJ)), rfl, (h95_.to aD), st75⟩
 refine wp_exit (wp_seq (aA (sg (aE (aB (wr (aM results289 rfl ?_)))))))
 have hS2 : ∀ e ∈ y.shelf.flatten, 1 ≤ e.seq ∧ e.seq ≤ y.seq - 1 := by rw [show k2 = y.shelf.flatten.length by omega, take_length] at hS2; exact hS2
 have hS3 : (y.shelf.flatten.map (·.seq)).Nodup := by rw [show k2 = y.shelf.flatten.length by omega, take_length] at hS3; exact hS3
 exact ⟨(fB (by rw [lX ⟨by omega, hS1, hS2, hS3⟩])), st54.bare⟩
theorem YardOkS {y : Yard} (hc : Shape.C w cs y fp) (hw : y.wt ≤ 1048576) :
  Calls prog 185 #[.agg cs.toArray] w (rB_ (dF y) w) := by
 have hyr : y.runs.length ≤ y.wt := by unfold Yard.wt wtL; omega
 have hys : y.shelf.length ≤ y.wt := by unfold Yard.wt wtL; omega
 have hfw := qY y
 refine cC func185 rfl ntmps185 aU (wp_seq (aA (sg (aH (cs := cs) rfl (St.start w) ?_)))); intro b1 W2 hb3 st4
 refine sg (aE (aB (wp_seq (wp_seq (aA ?_)))))
 have hk9 := hc
 obtain ⟨v9_0, v9_1, g9_0, g9_1, rfl, hok9, h9_0, h9_1, rfl⟩ := hk9
 rcases bd (!(inB y.now 0 999999980)) with h10 | h10
 ·have h10p := inB_iff'.1 (bY h10)
  rcases bd (!(inB y.seq 1 1000000000)) with h11 | h11
  ·have h11p := inB_iff'.1 (bY h11)
   rcases nem (8 < (y.runs.length : Int)) with h12p | h12p
   ·have h12 := decide_eq_false h12p
    refine rc st4 21 Ag.nil.put.put.put [] [(26, .bool (!(pB (y.shelf.length = 4 ∧ (∀ l ∈ y.shelf, dY l = true) ∧ (∀ e ∈ y.shelf.flatten, 1 ≤ e.seq ∧ e.seq ≤ y.seq - 1) ∧ (y.shelf.flatten.map (·.seq)).Nodup))))] [qb 0 rfl 0, qc func138 rfl (fun W s b => cK W y.now 0 999999980), qk h10, qb 0 rfl 1, qc func138 rfl (fun W s b => cK W y.seq 1 1000000000), qk h11, qb 0 rfl 3, ql h9_1, qk h12, qb 0 rfl 0, qc func289 rfl (fun W s b => ShelvesS W (bG hc s.below) aC aC), .o] aD fun f13 W14 h13_ st15 hb16 => (aB (cF (h13_.at 26) (fun h17 => ?_) (fun h17 => ?_)))
    ·refine wp_seq (aA (sg (aE (aB (wr (aM results185 rfl ?_))))))
     exact ⟨(fB (by unfold dF; rw [dV (by rintro ⟨hz1, hz2, hz3, hz4, hz5, hz6, hz7, hz8, hz9⟩; exact aD4 (aO h17) ⟨hz3, hz5, hz6, hz7⟩)])), st15.bare⟩
    refine wp_skip (wp_seq (wp_seq (aA ?_)))
    have hSH := pB_iff.1 (bY h17)
    refine sg (aE (aB (wp_block (aQ (fun (m : Nat) (f : Nat → Value) (W : World) => ∃ (k3 : Nat), k3 ≤ y.runs.length ∧ (∀ j, j < k3 → ∀ h : j < y.runs.length, fD y.runs[j] = true ∧ gY y y.runs[j].id = (j : Int)) ∧ m = y.runs.length - k3 ∧ Ag [(1, pt_ b1), (3, I (k3 : Int))] f ∧ St w W ([Res.bx b1 [I y.now, I y.seq, v9_0, v9_1] 27])) (y.runs.length - 0) ?_ ?_))))
    ·exact ⟨0, aC, (fun j hj => absurd hj (Nat.not_lt_zero j)), rfl, (h13_.put.to aD), st15⟩
    intro m22 f23 W24 hJ25
    obtain ⟨k3, hk3, hS3, rfl, hA27, st26⟩ := hJ25
    refine wp_seq (wp_seq (aA (rn st26 5 hA27 [] [(31, .bool (decide ((k3 : Int) < (y.runs.length : Int))))] [qb 0 rfl 3, ql h9_1, .o] aD fun f29 h29_ => (aB (aK (h29_.at 31) (fun h30p => ?_) (fun h30p => ?_))))))
    ·refine wp_skip (wp_seq (wp_block (wp_seq ?_)))
     have hi7dcb8 : k3 < y.runs.length := aC
     rcases bd (!(fD (y.runs[k3]'hi7dcb8))) with h34 | h34
     ·have hi7dcb8 : k3 < y.runs.length := aC
      obtain ⟨b36, o36, cs36, f36, hp36, hr36, hc36, hm36⟩ := idx h9_1 (i := k3) hi7dcb8
      have hk37 := hc36
      obtain ⟨v37_0, v37_1, g37_0, g37_1, rfl, hok37, h37_0, h37_1, rfl⟩ := hk37
      refine rd st26 h29_ [] [(52, .bool (!decide ((gY y (y.runs[k3]'hi7dcb8).id) = (k3 : Int))))] [qb 0 rfl 3, qx hp36, qr hr36 0, qc (args := [.agg #[I (y.runs[k3]'hi7dcb8).id, I (y.runs[k3]'hi7dcb8).plan.prio, I (y.runs[k3]'hi7dcb8).plan.most, I (y.runs[k3]'hi7dcb8).plan.wait, I (y.runs[k3]'hi7dcb8).plan.tasks, v37_0, I (y.runs[k3]'hi7dcb8).state, v37_1]]) (v := .bool (fD (y.runs[k3]'hi7dcb8))) func290 rfl (fun W s b => aP5 W (bG hc36 s.below)), qk h34, qb 0 rfl 0, qb 0 rfl 3, qx hp36, qr hr36 0, qc (args := [.agg #[I y.now, I y.seq, v9_0, v9_1], I (y.runs[k3]'hi7dcb8).id]) (v := I (gY y (y.runs[k3]'hi7dcb8).id)) func291 rfl (fun W s b => aF2 W (bG hc s.below) (y.runs[k3]'hi7dcb8).id aC), .o] aD aD fun f38 W39 h38_ st40 hb41 => (bE (h38_.at 52) (fun h42p => ?_) (fun h42p => ?_))
      ·refine wp_seq (aA (sg (aE (aB (wr (aM results185 rfl ?_))))))
       exact ⟨(fB (by unfold dF; rw [dV (by rintro ⟨hz1, hz2, hz3, hz4, hz5, hz6, hz7, hz8, hz9⟩; have hq := (hz8 k3 aC aC).2.1; omega)])), st40.bare⟩
      refine wp_skip (aA (sg (aG (h38_.at 3) (sg (bW rfl rfl eI (sg (aF (v := I ((k3 : Int) + 1)) rfl (aB ?_))))))))
      exact ⟨_, y.runs.length - (k3 + 1), aC, rfl, k3 + 1, aC, (fun j hj => by rcases Nat.lt_succ_iff_lt_or_eq.1 hj with h1 | rfl; exact hS3 j h1; exact fun _ => ⟨(bY h34), by omega⟩), rfl, (h38_.put.put.put.to aD), st40⟩
     have hi7dcb8 : k3 < y.runs.length := aC
     obtain ⟨b50, o50, cs50, f50, hp50, hr50, hc50, hm50⟩ := idx h9_1 (i := k3) hi7dcb8
     have hk51 := hc50
     obtain ⟨v51_0, v51_1, g51_0, g51_1, rfl, hok51, h51_0, h51_1, rfl⟩ := hk51
     refine rd st26 h29_ [] [(52, .bool true)] [qb 0 rfl 3, qx hp50, qr hr50 0, qc (args := [.agg #[I (y.runs[k3]'hi7dcb8).id, I (y.runs[k3]'hi7dcb8).plan.prio, I (y.runs[k3]'hi7dcb8).plan.most, I (y.runs[k3]'hi7dcb8).plan.wait, I (y.runs[k3]'hi7dcb8).plan.tasks, v51_0, I (y.runs[k3]'hi7dcb8).state, v51_1]]) (v := .bool (fD (y.runs[k3]'hi7dcb8))) func290 rfl (fun W s b => aP5 W (bG hc50 s.below)), qk h34] aD aD fun f52 W53 h52_ st54 hb55 => (mV (h52_.at 52) rfl (wp_seq (aA (sg (aE (aB (wr (aM results185 rfl ?_))))))))
     exact ⟨(fB (by unfold dF; rw [dV (by rintro ⟨hz1, hz2, hz3, hz4, hz5, hz6, hz7, hz8, hz9⟩; have hq := (hz8 k3 aC aC).1; rw [(aO h34)] at hq; cases hq)])), st54.bare⟩
    refine wp_exit (wp_seq (aA (sg (aV (cs := [I y.now, I y.seq, v9_0, v9_1]) iL rfl (h29_.at 1) (st26.get 0 rfl) rfl rfl (sg (bO func292 rfl rfl ((aC0 W24 (bG hc st26.below) aC).mono ?_))))))); rintro _ W62 ⟨v60, fp60, rfl, hk63⟩; refine ⟨_, rfl, ?_⟩
    have st64 := St.call st26 hk63
    refine sg (aF (v := v60) rfl (aB (wp_seq (wp_seq (aA (sg (aE (aB (wp_block (aQ (fun (m : Nat) (f : Nat → Value) (W : World) => ∃ (k4 : Nat), k4 ≤ y.runs.length ∧ (∀ j, j < k4 → qC y j) ∧ m = y.runs.length - k4 ∧ Ag [(1, pt_ b1), (4, v60), (5, I (k4 : Int))] f ∧ St w W ([Res.own (α := List Entry) v60 (y.shelf).flatten fp60, Res.bx b1 [I y.now, I y.seq, v9_0, v9_1] 27])) (y.runs.length - 0) ?_ ?_))))))))))
    ·exact ⟨0, aC, (fun j hj => absurd hj (Nat.not_lt_zero j)), rfl, (h29_.put.put.put.put.to aD), st64⟩
    intro m70 f71 W72 hJ73
    obtain ⟨k4, hk4, hS4, rfl, hA75, st74⟩ := hJ73
    refine wp_seq (wp_seq (aA (rn st74 5 hA75 [] [(59, .bool (decide ((k4 : Int) < (y.runs.length : Int))))] [qb 1 rfl 3, ql h9_1, .o] aD fun f77 h77_ => (aB (aK (h77_.at 59) (fun h78p => ?_) (fun h78p => ?_))))))
    ·refine wp_skip (wp_seq (wp_block (wp_seq ?_)))
     have hwt := pC (hS3 k4 aC aC).1
     have hi68dc9 : k4 < y.runs.length := aC
     obtain ⟨b80, o80, cs80, f80, hp80, hr80, hc80, hm80⟩ := idx h9_1 (i := k4) hi68dc9
     refine rd st74 h77_ [] [(70, .bool (!(eW y.now (y.runs[k4]'hi68dc9) (y.shelf).flatten)))] [qb 1 rfl 0, qb 1 rfl 3, qx hp80, qrw hr80 (Shape.len hc80), qc (args := [.agg #[I y.now, I y.seq, v9_0, v9_1], .agg cs80.toArray, v60]) (v := .bool (eW y.now (y.runs[k4]'hi68dc9) (y.shelf).flatten)) func293 rfl (fun W s b => RunsOkS W (bG hc s.below) (bG hc80 s.below) (aR (s.get 0 rfl)) aC aC aC), .o] aD aD fun f81 W82 h81_ st83 hb84 => (cF (h81_.at 70) (fun h85 => ?_) (fun h85 => ?_))
     ·refine wp_seq (aA (sg (aE (aB (wr (aM results185 rfl ?_))))))
      exact ⟨(fB (by unfold dF; rw [dV (by rintro ⟨hz1, hz2, hz3, hz4, hz5, hz6, hz7, hz8, hz9⟩; have hq := (hz8 k4 aC aC).2.2; rw [(aO h85)] at hq; cases hq)])), st83.bare⟩
     refine wp_skip (aA (rn st83 3 h81_ [5] [(5, I ((k4 : Int) + 1))] [qad (k4 : Int) 1] aD fun f89 h89_ => (aB ?_)))
     exact ⟨_, y.runs.length - (k4 + 1), aC, rfl, k4 + 1, aC, (fun j hj => by rcases Nat.lt_succ_iff_lt_or_eq.1 hj with h1 | rfl; exact hS4 j h1; exact fun _ => ⟨(hS3 _ aC aC).1, (hS3 _ aC aC).2, (bY h85)⟩), rfl, (h89_.to aD), st83⟩
    refine wp_exit (wp_seq (aA ?_))
    have hS4 : ∀ j, j < y.runs.length → qC y j := by rw [show k4 = y.runs.length by omega] at hS4; exact hS4
    refine rc st74 4 h77_ [] [(2, .bool (decide ((jB y) ≤ 40)))] [qb 1 rfl 0, qc func294 rfl (fun W s b => SlotsOfS W (bG hc s.below) aC), .o] aD fun f91 W92 h91_ st93 hb94 => (aB ?_)
    rcases nem ((jB y) ≤ 40) with h95p | h95p
    ·have h95 := decide_eq_false h95p
     refine wr (aM results185 ((h91_.at 2).trans (congrArg Value.bool h95)) ?_)
     exact ⟨(fB (by unfold dF; rw [dV (by rintro ⟨hz1, hz2, hz3, hz4, hz5, hz6, hz7, hz8, hz9⟩; omega)])), st93.bare⟩
    have h95 := decide_eq_true h95p
    refine wr (aM results185 ((h91_.at 2).trans (congrArg Value.bool h95)) ?_)
    exact ⟨(fB (by unfold dF; rw [lX ⟨by omega, by omega, hSH.1, by omega, hSH.2.1, hSH.2.2.1, hSH.2.2.2, hS4, by omega⟩])), st93.bare⟩
   have h12 := decide_eq_true h12p
   refine rc st4 21 Ag.nil.put.put.put [] [(26, .bool true)] [qb 0 rfl 0, qc func138 rfl (fun W s b => cK W y.now 0 999999980), qk h10, qb 0 rfl 1, qc func138 rfl (fun W s b => cK W y.seq 1 1000000000), qk h11, qb 0 rfl 3, ql h9_1, qk h12] aD fun f96 W97 h96_ st98 hb99 => (aB (mV (h96_.at 26) rfl (wp_seq (aA (sg (aE (aB (wr (aM results185 rfl ?_)))))))))
   exact ⟨(fB (by unfold dF; rw [dV (by rintro ⟨hz1, hz2, hz3, hz4, hz5, hz6, hz7, hz8, hz9⟩; omega)])), st98.bare⟩
  have h11p := eA (aO h11)
  refine rc st4 21 Ag.nil.put.put.put [] [(26, .bool true)] [qb 0 rfl 0, qc func138 rfl (fun W s b => cK W y.now 0 999999980), qk h10, qb 0 rfl 1, qc func138 rfl (fun W s b => cK W y.seq 1 1000000000), qk h11] aD fun f102 W103 h102_ st104 hb105 => (aB (mV (h102_.at 26) rfl (wp_seq (aA (sg (aE (aB (wr (aM results185 rfl ?_)))))))))
  exact ⟨(fB (by unfold dF; rw [dV (by rintro ⟨hz1, hz2, hz3, hz4, hz5, hz6, hz7, hz8, hz9⟩; omega)])), st104.bare⟩
 have h10p := eA (aO h10)
 refine rc st4 21 Ag.nil.put.put.put [] [(26, .bool true)] [qb 0 rfl 0, qc func138 rfl (fun W s b => cK W y.now 0 999999980), qk h10] aD fun f108 W109 h108_ st110 hb111 => (aB (mV (h108_.at 26) rfl (wp_seq (aA (sg (aE (aB (wr (aM results185 rfl ?_)))))))))
 exact ⟨(fB (by unfold dF; rw [dV (by rintro ⟨hz1, hz2, hz3, hz4, hz5, hz6, hz7, hz8, hz9⟩; omega)])), st110.bare⟩
def vtxt (n : Int) : List UInt8 := (dW n).data.toList
def fJ (l : List Int) : List UInt8 := l.flatMap vtxt
noncomputable def gD (y : Yard) : ByteArray := if dF y = true then ⟨(fJ (eU y)).toArray⟩ else ⟨#[]⟩
/-! ### How much it weighs -/
/-! ### Marks -/
def kU (y : Yard) (i : Nat) : List Int := y.now :: y.seq :: (y.shelf.take i).flatMap nV
def pH (y : Yard) (i : Nat) (l : List Entry) (k : Nat) : List Int := kU y i ++ ((l.length : Int) :: (l.take k).flatMap fF)
def iX (y : Yard) (i : Nat) : List Int := kU y y.shelf.length ++ ((y.runs.length : Int) :: (y.runs.take i).flatMap uN)
def pG (y : Yard) (i : Nat) (r : Run) (k : Nat) : List Int := iX y i ++ (r.id :: (gZ r.plan ++ (r.state :: (r.tasks.take k).flatMap gK)))
theorem vF (y : Yard) : iX y y.runs.length = eU y := by
 unfold iX kU eU
 rw [take_length, take_length]
 rfl
theorem lF {α β : Type} {f : α → List β} {xs : List α} {i : Nat} {x : α} (h : xs[i]? = some x) : (xs.take (i + 1)).flatMap f = (xs.take i).flatMap f ++ f x := by
 obtain ⟨hi, rfl⟩ := gsi_.1 h
 rw [take_succ_eq_append_getElem hi, flatMap_append]
 simp
theorem xL {y : Yard} {i : Nat} {l : List Entry} {k : Nat} {e : Entry} (h : l[k]? = some e) : pH y i l k ++ fF e = pH y i l (k + 1) := by
 unfold pH
 rw [lF h]
 simp [append_assoc]
theorem vG {y : Yard} {i : Nat} {l : List Entry} (h : y.shelf[i]? = some l) : pH y i l l.length = kU y (i + 1) := by
 unfold pH kU
 rw [lF h, take_length]
 simp [nV]
theorem xK {y : Yard} {i : Nat} {r : Run} {k : Nat} {e : Task} (h : r.tasks[k]? = some e) : pG y i r k ++ gK e = pG y i r (k + 1) := by
 unfold pG
 rw [lF h]
 simp [append_assoc]
theorem vE {y : Yard} {i : Nat} {r : Run} (h : y.runs[i]? = some r) : pG y i r r.tasks.length = iX y (i + 1) := by
 unfold pG iX
 rw [lF h, take_length]
 simp [uN, append_assoc]
theorem yT (y : Yard) (i : Nat) (r : Run) : ((iX y i ++ [r.id]) ++ gZ r.plan) ++ [r.state] = pG y i r 0 := by
 unfold pG
 simp [append_assoc]
theorem aM6 (y : Yard) (i : Nat) (l : List Entry) : kU y i ++ [(l.length : Int)] = pH y i l 0 := by
 unfold pH
 simp
theorem aM5 (y : Yard) : kU y y.shelf.length ++ [(y.runs.length : Int)] = iX y 0 := by
 unfold iX
 simp
/-! ### How many they are -/
theorem qZ {α β : Type} {f : α → List β} {g : α → Nat} {c : Nat} (h : ∀ x, (f x).length ≤ c * (g x + 1)) : ∀ xs : List α, (xs.flatMap f).length ≤ c * (xs.length + (xs.map g).sum)
 | [] => by simp
 | x :: xs => by
  have ih := qZ h xs
  have h1 := h x
  rw [flatMap_cons, length_append, map_cons, sum_cons, length_cons]
  have e : c * (xs.length + 1 + (g x + (xs.map g).sum)) = c * (g x + 1) + c * (xs.length + (xs.map g).sum) := by
   rw [← Nat.mul_add]; congr 1; omega
  omega
theorem zC {α β : Type} {f : α → List β} {c : Nat} (h : ∀ x, (f x).length ≤ c) (xs : List α) : (xs.flatMap f).length ≤ c * xs.length := by
 have h1 := qZ (f := f) (g := fun _ => 0) (c := c) (fun x => by simpa using h x) xs
 have h2 : (xs.map fun _ => 0).sum = 0 := by
  induction xs with
  | nil => rfl
  | cons a xs ih => rw [map_cons, sum_cons, ih (qZ (f := f) (g := fun _ => 0) (c := c) (fun x => by simpa using h x) xs)]
 rw [h2] at h1
 exact h1
theorem nR (y : Yard) : (eU y).length ≤ 3 + 8 * y.wt := by
 have h1 : (y.shelf.flatMap nV).length ≤ 8 * (y.shelf.length + (y.shelf.map fun l => l.length).sum) := qZ (fun l => by
  have := zC (f := fF) (c := 4) (fun _ => by simp [fF]) l
  simp only [nV, length_cons]; omega) _
 have h2 : (y.runs.flatMap uN).length ≤ 8 * (y.runs.length + (y.runs.map fun q : Run => q.wt).sum) := qZ (fun q => by
  have a := zC (f := gK) (c := 4) (fun _ => by simp [gK]) q.tasks
  have b := zC (f := aE7) (c := 2) (fun _ => by simp [aE7]) q.plan.edges
  rw [uN, planN_eq]
  simp only [Run.wt, Plan.wt, length_cons, length_append]; omega) _
 unfold Yard.wt wtL eU
 simp only [length_cons, length_append]
 omega
theorem qH (y : Yard) (i : Nat) : iX y i <+: eU y := by
 rw [← vF]
 unfold iX
 rw [take_length]
 refine ⟨(y.runs.drop i).flatMap uN, ?_⟩
 rw [append_assoc, cons_append, ← flatMap_append, take_append_drop]
theorem jT (y : Yard) (i : Nat) : kU y i <+: eU y := by
 refine List.IsPrefix.trans ?_ (qH y 0)
 unfold iX kU
 rw [take_length]
 refine ⟨(y.shelf.drop i).flatMap nV ++ ((y.runs.length : Int) :: (y.runs.take 0).flatMap uN), ?_⟩
 simp only [cons_append, ← append_assoc, ← flatMap_append, take_append_drop]
theorem zX {y : Yard} {i : Nat} {l : List Entry} (h : y.shelf[i]? = some l) (k : Nat) : pH y i l k <+: eU y := by
 refine List.IsPrefix.trans ?_ (jT y (i + 1))
 rw [← vG h]
 unfold pH
 rw [take_length]
 refine ⟨(l.drop k).flatMap fF, ?_⟩
 rw [append_assoc, cons_append, ← flatMap_append, take_append_drop]
theorem qG {y : Yard} {i : Nat} {r : Run} (h : y.runs[i]? = some r) (k : Nat) : pG y i r k <+: eU y := by
 refine List.IsPrefix.trans ?_ (qH y (i + 1))
 rw [← vE h]
 unfold pG
 rw [take_length]
 refine ⟨(r.tasks.drop k).flatMap gK, ?_⟩
 simp only [append_assoc, cons_append, ← flatMap_append, take_append_drop]
theorem gN {a : List Int} {y : Yard} (h : a <+: eU y) (hw : y.wt ≤ 1048576) : a.length ≤ 8388611 := by
 have := h.length_le
 have := nR y
 omega
theorem yL {α : Type} {g : α → Nat} : ∀ {xs : List α} {x : α}, x ∈ xs → g x ≤ (xs.map g).sum
 | a :: xs, x, h => by
  rw [map_cons, sum_cons]
  rcases mem_cons.1 h with rfl | h
  ·omega
  ·have := yL (g := g) h; omega
theorem xH {y : Yard} {r : Run} (h : r ∈ y.runs) : r.wt ≤ y.wt := by
 have := yL (g := fun q : Run => q.wt) h
 unfold Yard.wt wtL
 omega
theorem tC {y : Yard} {l : List Entry} (h : l ∈ y.shelf) : l.length ≤ y.wt := by
 have := yL (g := fun q : List Entry => q.length) h
 unfold Yard.wt wtL
 omega
theorem nQ (y : Yard) : y.shelf.length ≤ y.wt ∧ y.runs.length ≤ y.wt := by unfold Yard.wt wtL; omega
theorem oX (l : List Int) : (fJ l).length ≤ 5 * l.length := zC (fun n => by
 have := jA n
 unfold vtxt
 exact this) l
theorem sX {l : List Int} {k : Nat} {z : Int} (h : l[k]? = some z) : fJ (l.take k) ++ (dW z).data.toList = fJ (l.take (k + 1)) := (lF h).symm
theorem tX {y : Yard} (hw : y.wt ≤ 1048576) : (gD y).size ≤ 1000000000 := by
 unfold gD
 split
 ·have h1 := oX (eU y)
  have h2 := nR y
  show (fJ (eU y)).toArray.size ≤ _
  rw [size_toArray]
  omega
 decide
theorem aJ8 (y : Yard) (hw : y.wt ≤ 1048576) : Ct1 prog 118 [.S y] [.B (dF y)] := ⟨fun w us _ hp => by
 match us, hp with
 | [_], ⟨⟨cs0, fp0, rfl, hc0⟩, _⟩ => exact (YardOkI w hc0 hw).mono fun e w' h => ⟨(), [_], [], trivial, h.1, ⟨[], _, ⟨rfl, rfl⟩, rfl, rfl⟩, h.2⟩⟩
theorem aB9 (y : Yard) (hw : y.wt ≤ 1048576) : Ct1 prog 185 [.S y] [.B (dF y)] := ⟨fun w us _ hp => by
 match us, hp with
 | [_], ⟨⟨cs0, fp0, rfl, hc0⟩, _⟩ => exact (YardOkS w hc0 hw).mono fun e w' h => ⟨(), [_], [], trivial, h.1, ⟨[], _, ⟨rfl, rfl⟩, rfl, rfl⟩, h.2⟩⟩
end Go.Proofs.YtanpcpoogkdlaaaGreat
