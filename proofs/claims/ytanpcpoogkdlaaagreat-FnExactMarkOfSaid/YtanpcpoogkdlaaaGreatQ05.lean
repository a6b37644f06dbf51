/-
  When a run is right. Theory alone.
  When a run is right: of the program and of the reference.
  When a yard is right: of the program and of the reference.
  Both readers of yards are one, and both readers of marks. Plain theory.
  A yard's numbers, as they are put one behind the other. Plain theory; older contracts told anew.
  A yard's text, of the program.
  A yard read out of a text, of the program.
  A yard read out of a text, of the reference.
  A new yard, engine, world.
  A new yard, as a contract.
  The mark of a disk, of both; as calls.
  markText.
  The laws' marks: what is written.
  The laws' marks, walked.
-/
import Derived.Test.YtanpcpoogkdlaaaGreatQ01
import Derived.Test.YtanpcpoogkdlaaaGreatQ02
import Derived.Test.YtanpcpoogkdlaaaGreatQ03
import Derived.Test.YtanpcpoogkdlaaaGreatQ04
namespace Go.Proofs.YtanpcpoogkdlaaaGreat
set_option linter.unusedSimpArgs false
set_option linter.unusedVariables false
set_option maxRecDepth 100000
set_option maxHeartbeats 2000000
open Go.RowKit Go.Proofs.Tryz List
variable (w : World) {cs ds : List Value} {fp gp : List Nat}
def bP (ts : List Task) (s : Int) : Int := ((ts.filter (fun t => decide (t.state = s))).length : Int)
def cT (ts : List Task) : List Int := [bP ts 0, bP ts 1, bP ts 2, bP ts 3, bP ts 4, bP ts 5, bP ts 6]
theorem cQ (ts : List Task) (s : Int) : 0 ≤ bP ts s := by unfold bP; omega
theorem kY (ts : List Task) (s : Int) : bP ts s ≤ ts.length := by
 unfold bP
 have := length_filter_le (fun t : Task => decide (t.state = s)) ts
 omega
theorem vT {ts : List Task} {k : Nat} (hk : k < ts.length) (s : Int) : bP (ts.take (k + 1)) s = bP (ts.take k) s + (if ts[k].state = s then 1 else 0) := by
 unfold bP
 rw [take_succ_eq_append_getElem hk, filter_append]
 by_cases h : ts[k].state = s <;> simp [h]
theorem pD (ts : List Task) : (cT ts).length = 7 := rfl
theorem cnts_nil : cT [] = [0, 0, 0, 0, 0, 0, 0] := rfl
theorem cnts_set {ts : List Task} {k : Nat} (hk : k < ts.length) (h : 1 ≤ ts[k].state ∧ ts[k].state ≤ 6) (hl : ts[k].state.toNat < (cT (ts.take k)).length) :
  (cT (ts.take k)).set ts[k].state.toNat ((cT (ts.take k))[ts[k].state.toNat]'hl + 1) = cT (ts.take (k + 1)) := by
 have hc : ts[k].state = 1 ∨ ts[k].state = 2 ∨ ts[k].state = 3 ∨ ts[k].state = 4 ∨ ts[k].state = 5 ∨ ts[k].state = 6 := by omega
 have e : cT (ts.take (k + 1)) = [bP (ts.take k) 0 + (if ts[k].state = 0 then 1 else 0), bP (ts.take k) 1 + (if ts[k].state = 1 then 1 else 0), bP (ts.take k) 2 + (if ts[k].state = 2 then 1 else 0), bP (ts.take k) 3 + (if ts[k].state = 3 then 1 else 0), bP (ts.take k) 4 + (if ts[k].state = 4 then 1 else 0), bP (ts.take k) 5 + (if ts[k].state = 5 then 1 else 0), bP (ts.take k) 6 + (if ts[k].state = 6 then 1 else 0)] := by
  unfold cT
  simp only [vT hk]
 rw [e]
 generalize ts[k].state = s at hc hl ⊢
 rcases hc with rfl | rfl | rfl | rfl | rfl | rfl <;> simp [cT]
theorem cnts_rng (ts : List Task) (i : Nat) (h : i < (cT ts).length) : 0 ≤ (cT ts)[i] ∧ (cT ts)[i] ≤ ts.length := by
 have hm : (cT ts)[i] ∈ cT ts := getElem_mem h
 generalize (cT ts)[i] = y at hm
 simp only [cT, mem_cons, not_mem_nil, or_false] at hm
 rcases hm with rfl | rfl | rfl | rfl | rfl | rfl | rfl <;> exact ⟨cQ _ _, kY _ _⟩
theorem aC3 : ∀ {ts : List Task}, (∀ t ∈ ts, 1 ≤ t.state ∧ t.state ≤ 6) → bP ts 1 + bP ts 2 + bP ts 3 + bP ts 4 + bP ts 5 + bP ts 6 = ts.length
 | [], _ => rfl
 | t :: ts, h => by
  have ih := aC3 (ts := ts) (fun x hx => h x (by simp [hx]))
  have ht := h t (by simp)
  have hs : ∀ s : Int, bP (t :: ts) s = bP ts s + (if t.state = s then 1 else 0) := by
   intro s
   unfold bP
   by_cases hh : t.state = s <;> simp [hh]
  simp only [hs, length_cons]
  have hc : t.state = 1 ∨ t.state = 2 ∨ t.state = 3 ∨ t.state = 4 ∨ t.state = 5 ∨ t.state = 6 := by omega
  rcases hc with e | e | e | e | e | e <;> simp [e] <;> omega
theorem qG (ts : List Task) (s : Int) : ∀ k, k ≤ ts.length → ((gI ts s k).length : Int) = bP (ts.take k) s
 | 0, _ => rfl
 | k + 1, h => by
  have ih := qG ts s k aC
  have hk : k < ts.length := by omega
  rw [vT hk]
  by_cases hh : ts[k].state = s
  ·rw [uU hk hh, length_append, if_pos hh, length_singleton]; omega
  rw [uV hk hh, if_neg hh]; omega
theorem lH (ts : List Task) (s : Int) : ((bJ ts s).length : Int) = bP ts s := by
 have := qG ts s ts.length (Nat.le_refl _)
 rwa [take_length] at this
def hU (ts : List Task) : Int :=
 if bP ts 4 = ts.length then 2 else if bP ts 5 = 1 ∧ bP ts 1 + bP ts 2 + bP ts 3 = 0 then 3 else if bP ts 5 = 0 ∧ 0 < bP ts 6 ∧ bP ts 1 + bP ts 2 + bP ts 3 = 0 then 4 else if bP ts 5 = 0 ∧ bP ts 6 = 0 then 1 else 0
def pW (r : Run) (x : Int) : Bool := match r.tasks[x.toNat]? with | some t => decide (t.state = 4) | none => false
def dF (r : Run) (l : List Int) : Int := ((l.filter (fun b => !pW r b)).length : Int)
noncomputable def iU (r : Run) (task : Int) : Int := dF r (aU r.plan task)
theorem jF {r : Run} {l : List Int} {k : Nat} (hk : k < l.length) : dF r (l.take (k + 1)) = dF r (l.take k) + (if pW r l[k] then 0 else 1) := by
 unfold dF
 rw [take_succ_eq_append_getElem hk, filter_append]
 cases h : pW r l[k] <;> simp [h]
theorem tB (r : Run) (l : List Int) : 0 ≤ dF r l ∧ dF r l ≤ l.length := by
 unfold dF
 have := length_filter_le (fun b => !pW r b) l
 omega
def jC (r : Run) (need : Int) (t : Task) : Prop :=
 (1 ≤ t.state ∧ t.state ≤ 6) ∧ t.need = need ∧ (0 ≤ t.try_ ∧ t.try_ ≤ r.plan.most) ∧ (t.state = 3 → 1 ≤ t.until_ ∧ t.until_ ≤ 1000000000) ∧ (¬ t.state = 3 → t.until_ = 0) ∧
 (t.state = 1 → 0 < need) ∧ (t.state = 2 → need = 0 ∧ t.try_ < r.plan.most) ∧ ((t.state = 3 ∨ t.state = 4 ∨ t.state = 5) → need = 0 ∧ 1 ≤ t.try_)
def jD (r : Run) (k : Nat) : Prop := ∀ h : k < r.tasks.length, jC r (iU r (k : Int)) r.tasks[k]
noncomputable def eY (r : Run) : Bool := pB ((1 ≤ r.id ∧ r.id ≤ 9999) ∧ bR r.plan = 0 ∧ (r.tasks.length : Int) = r.plan.tasks ∧ (∀ k, k < r.tasks.length → jD r k) ∧ r.state = hU r.tasks ∧ ¬ r.state = 0)
theorem mN {r : Run} {x : Int} (h : x.toNat < r.tasks.length) : pW r x = decide (r.tasks[x.toNat].state = 4) := by
 unfold pW; rw [getElem?_eq_getElem h]
theorem aH2 {n a b : Int} : inB n a b = false ↔ ¬ (a ≤ n ∧ n ≤ b) := by rw [← inB_iff', Bool.not_eq_true]
theorem qT {p : Prop} {b : Bool} (h : p ↔ b = true) : pB p = b := by cases b <;> simp_all [pB]
theorem rH {r : Run} {b : Bool} (h1 : (1 ≤ r.id ∧ r.id ≤ 9999) ∧ bR r.plan = 0 ∧ (r.tasks.length : Int) = r.plan.tasks) (h4 : ∀ k, k < r.tasks.length → jD r k) (h : (r.state = hU r.tasks ∧ ¬ r.state = 0) ↔ b = true) : eY r = b := by
 unfold eY; exact qT ⟨fun hz => h.1 hz.2.2.2.2, fun hb => ⟨h1.1, h1.2.1, h1.2.2, h4, h.2 hb⟩⟩
theorem rk_ {P : Prop} (h : P := by (simp only [Bool.and_eq_true, Bool.or_eq_true, Bool.not_eq_true', Bool.or_eq_false_iff, Bool.and_eq_false_iff, Bool.not_eq_false', decide_eq_true_eq, decide_eq_false_iff_not, inB_iff', aH2] at *; omega)) : P := h
theorem tk_ {P : Prop} (h : P := by (unfold jC; simp only [Bool.and_eq_true, Bool.or_eq_true, Bool.not_eq_true', Bool.or_eq_false_iff, Bool.and_eq_false_iff, Bool.not_eq_false', decide_eq_true_eq, decide_eq_false_iff_not, inB_iff', aH2] at *; omega)) : P := h
theorem yR {p : Prop} (h : pB p = false) : ¬ p := fun hp => by rw [lQ hp] at h; cases h
theorem mY (ts : List Task) : (bP ts 4 = ts.length → hU ts = 2) ∧ (¬ bP ts 4 = ts.length → (bP ts 5 = 1 ∧ bP ts 1 + bP ts 2 + bP ts 3 = 0) → hU ts = 3) ∧
  (¬ bP ts 4 = ts.length → ¬ (bP ts 5 = 1 ∧ bP ts 1 + bP ts 2 + bP ts 3 = 0) → (bP ts 5 = 0 ∧ 0 < bP ts 6 ∧ bP ts 1 + bP ts 2 + bP ts 3 = 0) → hU ts = 4) ∧
  (¬ bP ts 4 = ts.length → ¬ (bP ts 5 = 1 ∧ bP ts 1 + bP ts 2 + bP ts 3 = 0) → ¬ (bP ts 5 = 0 ∧ 0 < bP ts 6 ∧ bP ts 1 + bP ts 2 + bP ts 3 = 0) → (bP ts 5 = 0 ∧ bP ts 6 = 0) → hU ts = 1) ∧
  (¬ bP ts 4 = ts.length → ¬ (bP ts 5 = 1 ∧ bP ts 1 + bP ts 2 + bP ts 3 = 0) → ¬ (bP ts 5 = 0 ∧ 0 < bP ts 6 ∧ bP ts 1 + bP ts 2 + bP ts 3 = 0) → ¬ (bP ts 5 = 0 ∧ bP ts 6 = 0) → hU ts = 0) := by
 unfold hU
 refine ⟨fun h => by rw [if_pos h], fun h h2 => by rw [if_neg h, if_pos h2], fun h h2 h3 => by rw [if_neg h, if_neg h2, if_pos h3], fun h h2 h3 h4 => by rw [if_neg h, if_neg h2, if_neg h3, if_pos h4], fun h h2 h3 h4 => by rw [if_neg h, if_neg h2, if_neg h3, if_neg h4]⟩
theorem states_of {r : Run} (h : ∀ j, j < r.tasks.length → jD r j) : ∀ t ∈ r.tasks, 1 ≤ t.state ∧ t.state ≤ 6 := by
 intro t ht
 obtain ⟨k, hk, rfl⟩ := getElem_of_mem ht
 exact (h k hk hk).1
theorem qB (ts : List Task) (i : Nat) (h : i < (cT ts).length) : (cT ts)[i] = bP ts (i : Int) := by
 rw [pD] at h
 rcases i with _ | _ | _ | _ | _ | _ | _ | i
 ·rfl
 ·rfl
 ·rfl
 ·rfl
 ·rfl
 ·rfl
 ·rfl
 omega

theorem aD2 {r : Run} (hc : Shape.C w cs r fp) (task : Int) (hlen : (r.tasks.length : Int) = r.plan.tasks) :
  Calls prog 393 #[.agg cs.toArray, I task] w (rI_ (iU r task) w) := by
 refine bI func393 rfl ntmps393 aV (wp_seq (aA (sg (aI (cs := cs) rfl (St.start w) ?_)))); intro b1 W2 hb3 st4
 refine sg (aE (aB (wp_seq (aA (sg (aE (aB (wp_seq (wp_seq (aA ?_))))))))))
 have hk11 := hc
 obtain ⟨v11_0, v11_1, g11_0, g11_1, rfl, hok11, h11_0, h11_1, rfl⟩ := hk11
 refine rn st4 3 Ag.nil.put.put.put.put.put [] [(9, .agg #[I r.plan.prio, I r.plan.most, I r.plan.wait, I r.plan.tasks, v11_0]), (10, I task)] [qb 0 rfl 1] aD fun f12 h12_ => (sg (bV func379 rfl (h12_.at 9) (h12_.at 10) ((BeforeOfI W2 (show Shape.C _ [I r.plan.prio, I r.plan.most, I r.plan.wait, I r.plan.tasks, v11_0] r.plan _ from ⟨_, _, rfl, qW, (h11_0.below st4.below), rfl⟩) task).mono ?_))); rintro _ W15 ⟨v13, fp13, rfl, hk16⟩; refine ⟨_, rfl, ?_⟩
 have st17 := St.call st4 hk16
 refine sg (kH iJ rfl (aS (st17.get 0 rfl)) ?_)
 have hbl := lA r.plan task
 refine sg (aG (v := I 0) rfl (aB (wp_block (aP (fun (m : Nat) (f : Nat → Value) (W : World) => ∃ (k : Nat), k ≤ (aU r.plan task).length ∧ m = (aU r.plan task).length - k ∧ Ag [(2, pt_ b1), (5, I (dF r ((aU r.plan task).take k))), (11, v13), (12, I ((aU r.plan task).length : Int)), (13, I (k : Int))] f ∧ St w W ([Res.own (α := List Int) v13 (aU r.plan task) fp13, Res.bx b1 [I r.id, I r.plan.prio, I r.plan.most, I r.plan.wait, I r.plan.tasks, v11_0, I r.state, v11_1] 55])) ((aU r.plan task).length - 0) ?_ ?_))))
 ·exact ⟨0, aC, rfl, (h12_.put.put.put.to aD), st17⟩
 intro m23 f24 W25 hJ26
 obtain ⟨k, hk, rfl, hA28, st27⟩ := hJ26
 have hnr := tB r ((aU r.plan task).take k)
 have htl := length_take_le k (aU r.plan task)
 refine wp_seq (aA (sg (bL (hA28.at 13) (hA28.at 12) (aB (wp_seq (aJ rfl (fun h31p => ?_) (fun h31p => ?_)))))))
 ·refine wp_skip (wp_seq (wp_block (wp_seq (aA ?_))))
  have hi15359 : k < (aU r.plan task).length := aC
  obtain ⟨b32, o32, cs32, f32, hp32, hr32, hc32, hm32⟩ := idx (aS (st27.get 0 rfl)) (i := k) hi15359
  have hk32 := hc32
  obtain ⟨rfl, rfl, hok32⟩ := hk32
  refine rn st27 3 hA28.put [] [(7, I ((aU r.plan task)[k]'hi15359))] [qx hp32, qn hr32 0] aD fun f34 h34_ => (aB (wp_seq (aA (rn st27 3 h34_ [] [(18, v11_1), (19, I ((aU r.plan task)[k]'hi15359))] [qb 1 rfl 7] aD fun f36 h36_ => ?_))))
  have hbr := tW r.plan task _ (getElem_mem (l := (aU r.plan task)) (n := k) aC)
  have hi20db9 : (((aU r.plan task)[k]'hi15359)).toNat < r.tasks.length := aC
  obtain ⟨b37, o37, cs37, f37, hp37, hr37, hc37, hm37⟩ := idx h11_1 (i := (((aU r.plan task)[k]'hi15359)).toNat) hi20db9
  have hk39 := hc37
  obtain ⟨he39, rfl, hok39⟩ := hk39
  have he39 : _ = [I (r.tasks[(((aU r.plan task)[k]'hi15359)).toNat]'hi20db9).state, I (r.tasks[(((aU r.plan task)[k]'hi15359)).toNat]'hi20db9).need, I (r.tasks[(((aU r.plan task)[k]'hi15359)).toNat]'hi20db9).try_, I (r.tasks[(((aU r.plan task)[k]'hi15359)).toNat]'hi20db9).until_] := he39
  subst he39
  refine rn st27 4 h36_ [] [(23, .bool (!decide ((r.tasks[(((aU r.plan task)[k]'hi15359)).toNat]'hi20db9).state = 4)))] [qxe hp37 (e := ((aU r.plan task)[k]'hi15359)) aC, qr hr37 0, .o] aD fun f40 h40_ => (aB (bH (h40_.at 23) (fun h41p => ?_) (fun h41p => ?_)))
  ·refine aA (rn st27 3 h40_ [5] [(5, I ((dF r ((aU r.plan task).take k)) + 1))] [qad (dF r ((aU r.plan task).take k)) 1] aD fun f43 h43_ => (aB (aA (sg (bN (h43_.at 13) rfl eC ?_)))))
   have hbl := lA r.plan task
   refine sg (aG (v := I ((k : Int) + 1)) rfl (aB ?_))
   exact ⟨_, (aU r.plan task).length - (k + 1), aC, rfl, k + 1, aC, rfl, (Ag.cons (h43_.at 2) (Ag.cons (Eq.trans (show _ = I ((dF r ((aU r.plan task).take k)) + 1) from (h43_.at 5)) (congrArg I (by rw [jF aC, mN aC]; simp only [h41p, decide_true, decide_false, Bool.false_eq_true, if_true, if_false]; try omega))) (Ag.cons (h43_.at 11) (Ag.cons (h43_.at 12) (Ag.cons rfl Ag.nil))))), st27⟩
  refine wp_skip (aA (sg (bN (h40_.at 13) rfl eC ?_)))
  have hbl := lA r.plan task
  refine sg (aG (v := I ((k : Int) + 1)) rfl (aB ?_))
  exact ⟨_, (aU r.plan task).length - (k + 1), aC, rfl, k + 1, aC, rfl, (Ag.cons (h40_.at 2) (Ag.cons (Eq.trans (show _ = I (dF r ((aU r.plan task).take k)) from (h40_.at 5)) (congrArg I (by rw [jF aC, mN aC]; simp only [h41p, decide_true, decide_false, Bool.false_eq_true, if_true, if_false]; try omega))) (Ag.cons (h40_.at 11) (Ag.cons (h40_.at 12) (Ag.cons rfl Ag.nil))))), st27⟩
 refine wp_exit (wp_seq (aA (sg (aG (hA28.at 5) (sg (aF (v := I (dF r ((aU r.plan task).take k))) rfl (aB (wr (aL results393 rfl ?_)))))))))
 obtain rfl : k = (aU r.plan task).length := by omega
 exact ⟨(fI (by rw [take_length]; rfl)), st27.bare⟩
theorem TaskOkI {r : Run} (hc : Shape.C w cs r fp) {k : Nat} (hk : k < r.tasks.length) (hlen : (r.tasks.length : Int) = r.plan.tasks) :
  Calls prog 343 #[.agg cs.toArray, I (k : Int)] w (rB_ (pB (jC r (iU r (k : Int)) (r.tasks[k]'hk))) w) := by
 have hcap : r.tasks.length ≤ 9223372036854775807 := by have h0 := hc; obtain ⟨v1, v2, f1, f2, h0, hok, h1, h2, hfp⟩ := h0; exact h2.len_le
 refine bI func343 rfl ntmps343 aV (wp_seq (aA (sg (aI (cs := cs) rfl (St.start w) ?_)))); intro b1 W2 hb3 st4
 refine sg (aE (aB (wp_seq (aA ?_))))
 have hk9 := hc
 obtain ⟨v9_0, v9_1, g9_0, g9_1, rfl, hok9, h9_0, h9_1, rfl⟩ := hk9
 have hif4d94 : k < r.tasks.length := aC
 obtain ⟨b10, o10, cs10, f10, hp10, hr10, hc10, hm10⟩ := idx h9_1 (i := k) hif4d94
 refine rn st4 5 Ag.nil.put.put.put.put [] [(10, .agg cs10.toArray)] [qb 0 rfl 7, qx hp10, qrw hr10 (Shape.len hc10)] aD fun f11 h11_ => (sg (bO qX st4 ?_)); intro b12 W13 hb14 st15
 refine sgn (bC (cs := cs10) rJ hc10 rfl (h11_.at 10) st15 rfl ?_); intro W17 st18
 refine aB (wp_seq (wp_seq ?_))
 rcases bd (!(inB (r.tasks[k]'hif4d94).state 1 6)) with h21 | h21
 ·have h21p := inB_iff'.1 (bS h21)
  rcases Decidable.em ((r.tasks[k]'hif4d94).need = (iU r (k : Int))) with h24p | h24p
  ·have h24 := gQ h24p
   have hk26 := hc10
   obtain ⟨he26, rfl, hok26⟩ := hk26
   have he26 : _ = [I (r.tasks[k]'hif4d94).state, I (r.tasks[k]'hif4d94).need, I (r.tasks[k]'hif4d94).try_, I (r.tasks[k]'hif4d94).until_] := he26
   subst he26
   refine rd st18 h11_.put [] [(31, .bool (!(inB (r.tasks[k]'hif4d94).try_ 0 r.plan.most)))] [qb 0 rfl 0, qc (args := [I (r.tasks[k]'hif4d94).state, I 1, I 6]) (v := .bool (inB (r.tasks[k]'hif4d94).state 1 6)) func92 rfl (fun W s b => cV W (r.tasks[k]'hif4d94).state 1 6), qk h21, qb 0 rfl 1, qb 1 rfl 0, qc func393 rfl (fun W s b => aD2 W (aX hc s.below) (k : Int) aC), qk h24, qb 0 rfl 2, qb 1 rfl 2, qc (args := [I (r.tasks[k]'hif4d94).try_, I 0, I r.plan.most]) (v := .bool (inB (r.tasks[k]'hif4d94).try_ 0 r.plan.most)) func92 rfl (fun W s b => cV W (r.tasks[k]'hif4d94).try_ 0 r.plan.most), .o] aD aD fun f27 W28 h27_ st29 hb30 => (bU (h27_.at 31) (fun h31 => ?_) (fun h31 => ?_))
   ·have h31p := dR (aN h31)
    refine wp_seq (aA (sg (aE (aB (wr (aL results343 rfl ?_))))))
    exact ⟨(fB (dY tk_).symm), st29.bare⟩
   have h31p := inB_iff'.1 (bS h31)
   refine wp_skip (wp_seq (wp_seq (aA (rg st29 19 h27_ [] [(50, .bool (((decide ((r.tasks[k]'hif4d94).state = 3)) && (!(inB (r.tasks[k]'hif4d94).until_ 1 1000000000))) || ((!decide ((r.tasks[k]'hif4d94).state = 3)) && (!decide ((r.tasks[k]'hif4d94).until_ = 0)))))] [qb 0 rfl 0, .o, qb 0 rfl 3, qc (args := [I (r.tasks[k]'hif4d94).until_, I 1, I 1000000000]) (v := .bool (inB (r.tasks[k]'hif4d94).until_ 1 1000000000)) func92 rfl (fun W s b => cV W (r.tasks[k]'hif4d94).until_ 1 1000000000), .o, qb 0 rfl 0, .o, qb 0 rfl 3, .o] aD fun f35 W36 h35_ st37 hb38 => (aB (bU (h35_.at 50) (fun h39 => ?_) (fun h39 => ?_)))))))
   ·refine wp_seq (aA (sg (aE (aB (wr (aL results343 rfl ?_))))))
    exact ⟨(fB (dY tk_).symm), st37.bare⟩
   refine wp_skip (wp_seq (wp_seq (aA (sg (bD pZ (h35_.at 5) (sg (cX kO rfl rfl (st37.get 0 rfl) (i := 0) rfl rfl (aB (wp_block (wp_seq (aA (sg (fZ rfl rfl (sg (aF (v := .bool (decide ((r.tasks[k]'hif4d94).state = 1))) rfl ?_)))))))))))))))
   refine aB (aJ rfl (fun h46p => ?_) (fun h46p => ?_))
   ·refine wp_seq (aA (rn st37 4 h35_.put.put.put.put [4] [(4, .bool (decide (0 < (r.tasks[k]'hif4d94).need)))] [qb 0 rfl 1, .o] aD fun f48 h48_ => (aB (wr (aL results343 (h48_.at 4) ?_)))))
    exact ⟨(fB (qT tk_).symm), st37.bare⟩
   refine wp_seq (aA (sg (fZ rfl rfl (sg (aF (v := .bool (decide ((r.tasks[k]'hif4d94).state = 2))) rfl (aB (aJ rfl (fun h51p => ?_) (fun h51p => ?_))))))))
   ·refine wp_seq (aA (lw h35_.put.put.put.put.put.put [(2, pt_ b1), (5, pt_ b12)] aD fun h54_ => (rg st37 12 h54_ [] [(4, .bool ((decide ((r.tasks[k]'hif4d94).need = 0)) && (decide ((r.tasks[k]'hif4d94).try_ < r.plan.most))))] [qb 0 rfl 1, .o, qb 0 rfl 2, qb 1 rfl 2, .o] aD fun f53 W55 h53_ st56 hb57 => (aB (wr (aL results343 (h53_.at 4) ?_))))))
    exact ⟨(fB (qT tk_).symm), st56.bare⟩
   refine wp_seq (wp_seq (aA (sg (fZ rfl rfl (sg (aF (v := .bool (decide ((r.tasks[k]'hif4d94).state = 3))) rfl (aB (aJ rfl (fun h60p => ?_) (fun h60p => ?_)))))))))
   ·have h60 := decide_eq_true h60p
    refine wp_skip (lJ rfl h60 (wp_seq (aA (lw h35_.put.put.put.put.put.put.put.put [(5, pt_ b12)] aD fun h63_ => (rg st37 9 h63_ [] [(4, .bool ((decide ((r.tasks[k]'hif4d94).need = 0)) && (decide (1 ≤ (r.tasks[k]'hif4d94).try_))))] [qb 0 rfl 1, .o, qb 0 rfl 2, .o] aD fun f62 W64 h62_ st65 hb66 => (aB (wr (aL results343 (h62_.at 4) ?_))))))))
    exact ⟨(fB (qT tk_).symm), st65.bare⟩
   have h60 := decide_eq_false h60p
   refine wp_seq (aA (sg (fZ rfl rfl (sg (aF (v := .bool (decide ((r.tasks[k]'hif4d94).state = 4))) rfl (aB (aJ rfl (fun h69p => ?_) (fun h69p => ?_))))))))
   ·have h69 := decide_eq_true h69p
    refine wp_skip (lJ rfl h69 (wp_seq (aA (lw h35_.put.put.put.put.put.put.put.put.put.put [(5, pt_ b12)] aD fun h72_ => (rg st37 9 h72_ [] [(4, .bool ((decide ((r.tasks[k]'hif4d94).need = 0)) && (decide (1 ≤ (r.tasks[k]'hif4d94).try_))))] [qb 0 rfl 1, .o, qb 0 rfl 2, .o] aD fun f71 W73 h71_ st74 hb75 => (aB (wr (aL results343 (h71_.at 4) ?_))))))))
    exact ⟨(fB (qT tk_).symm), st74.bare⟩
   have h69 := decide_eq_false h69p
   refine aA (sg (fZ rfl rfl (sg (aF (v := .bool (decide ((r.tasks[k]'hif4d94).state = 5))) rfl (aB (aJ rfl (fun h78p => ?_) (fun h78p => ?_)))))))
   ·refine wp_seq (aA (lw h35_.put.put.put.put.put.put.put.put.put.put.put.put [(5, pt_ b12)] aD fun h81_ => (rg st37 9 h81_ [] [(4, .bool ((decide ((r.tasks[k]'hif4d94).need = 0)) && (decide (1 ≤ (r.tasks[k]'hif4d94).try_))))] [qb 0 rfl 1, .o, qb 0 rfl 2, .o] aD fun f80 W82 h80_ st83 hb84 => (aB (wr (aL results343 (h80_.at 4) ?_))))))
    exact ⟨(fB (qT tk_).symm), st83.bare⟩
   refine wp_skip (wp_seq (aA (sg (aE (aB (wr (aL results343 rfl ?_)))))))
   exact ⟨(fB (lQ tk_).symm), st37.bare⟩
  have h24 := gP h24p
  have hk88 := hc10
  obtain ⟨he88, rfl, hok88⟩ := hk88
  have he88 : _ = [I (r.tasks[k]'hif4d94).state, I (r.tasks[k]'hif4d94).need, I (r.tasks[k]'hif4d94).try_, I (r.tasks[k]'hif4d94).until_] := he88
  subst he88
  refine rd st18 h11_.put [] [(31, .bool true)] [qb 0 rfl 0, qc (args := [I (r.tasks[k]'hif4d94).state, I 1, I 6]) (v := .bool (inB (r.tasks[k]'hif4d94).state 1 6)) func92 rfl (fun W s b => cV W (r.tasks[k]'hif4d94).state 1 6), qk h21, qb 0 rfl 1, qb 1 rfl 0, qc func393 rfl (fun W s b => aD2 W (aX hc s.below) (k : Int) aC), qk h24] aD aD fun f89 W90 h89_ st91 hb92 => (lJ (h89_.at 31) rfl (wp_seq (aA (sg (aE (aB (wr (aL results343 rfl ?_))))))))
  exact ⟨(fB (dY tk_).symm), st91.bare⟩
 have h21p := dR (aN h21)
 have hk96 := hc10
 obtain ⟨he96, rfl, hok96⟩ := hk96
 have he96 : _ = [I (r.tasks[k]'hif4d94).state, I (r.tasks[k]'hif4d94).need, I (r.tasks[k]'hif4d94).try_, I (r.tasks[k]'hif4d94).until_] := he96
 subst he96
 refine rd st18 h11_.put [] [(31, .bool true)] [qb 0 rfl 0, qc (args := [I (r.tasks[k]'hif4d94).state, I 1, I 6]) (v := .bool (inB (r.tasks[k]'hif4d94).state 1 6)) func92 rfl (fun W s b => cV W (r.tasks[k]'hif4d94).state 1 6), qk h21] aD aD fun f97 W98 h97_ st99 hb100 => (lJ (h97_.at 31) rfl (wp_seq (aA (sg (aE (aB (wr (aL results343 rfl ?_))))))))
 exact ⟨(fB (dY tk_).symm), st99.bare⟩
theorem zI {r : Run} (hc : Shape.C w cs r fp) :
  Calls prog 231 #[.agg cs.toArray] w (rB_ (eY r) w) := by
 have hcap : r.tasks.length ≤ 9223372036854775807 := by have h0 := hc; obtain ⟨v1, v2, f1, f2, h0, hok, h1, h2, hfp⟩ := h0; exact h2.len_le
 refine dS func231 rfl ntmps231 aV (wp_seq (aA (sg (aI (cs := cs) rfl (St.start w) ?_)))); intro b1 W2 hb3 st4
 refine sg (aE (aB (wp_seq (wp_seq (aA ?_)))))
 have hk9 := hc
 obtain ⟨v9_0, v9_1, g9_0, g9_1, rfl, hok9, h9_0, h9_1, rfl⟩ := hk9
 refine rg st4 19 Ag.nil.put.put.put [] [(26, .bool (((!(inB r.id 1 9999)) || (!decide ((bR r.plan) = 0))) || (!decide ((r.tasks.length : Int) = r.plan.tasks))))] [qb 0 rfl 0, qc func92 rfl (fun W s b => cV W r.id 1 9999), .o, qb 0 rfl 1, qc func302 rfl (fun W s b => uD W (show Shape.C _ [I r.plan.prio, I r.plan.most, I r.plan.wait, I r.plan.tasks, v9_0] r.plan _ from ⟨_, _, rfl, qW, (h9_0.below s.below), rfl⟩)), .o, qb 0 rfl 7, ql h9_1, qb 0 rfl 4, .o] aD fun f10 W11 h10_ st12 hb13 => (aB (bU (h10_.at 26) (fun h14 => ?_) (fun h14 => ?_)))
 ·refine wp_seq (aA (sg (aE (aB (wr (aL results231 rfl ?_))))))
  exact ⟨(fB (by unfold eY; rw [dY (by rintro ⟨hz1, hz2, hz3, hz4, hz5, hz6⟩; exact rk_)])), st12.bare⟩
 refine wp_skip (wp_seq (wp_seq (aA ?_)))
 have hr1 : (1 ≤ r.id ∧ r.id ≤ 9999) ∧ bR r.plan = 0 ∧ (r.tasks.length : Int) = r.plan.tasks := rk_
 have hMb := pM (qO (by omega : bR r.plan = 0)).1
 refine rn st12 4 h10_ [] [(29, I (r.tasks.length : Int)), (30, I 0)] [qb 0 rfl 7, ql h9_1] aD fun f18 h18_ => (aB (wp_block (aP (fun (m : Nat) (f : Nat → Value) (W : World) => ∃ (k : Nat), k ≤ r.tasks.length ∧ (∀ j, j < k → jD r j) ∧ m = r.tasks.length - k ∧ Ag [(1, pt_ b1), (29, I (r.tasks.length : Int)), (30, I (k : Int))] f ∧ St w W ([Res.bx b1 [I r.id, I r.plan.prio, I r.plan.most, I r.plan.wait, I r.plan.tasks, v9_0, I r.state, v9_1] 55])) (r.tasks.length - 0) ?_ ?_)))
 ·exact ⟨0, aC, (fun j hj => absurd hj (Nat.not_lt_zero j)), rfl, (h18_.to aD), st12⟩
 intro m19 f20 W21 hJ22
 obtain ⟨k, hk, hT, rfl, hA24, st23⟩ := hJ22
 refine wp_seq (aA (sg (bL (hA24.at 30) (hA24.at 29) (aB (wp_seq (aJ rfl (fun h27p => ?_) (fun h27p => ?_)))))))
 ·refine wp_skip (wp_seq (wp_block (wp_seq (aA (sg (aG (hA24.at 30) (sg (aF (v := I (k : Int)) rfl (aB (wp_seq (aA (rc st23 4 hA24.put.put.put [] [(36, .bool (!(pB (jC r (iU r (k : Int)) (r.tasks[k]'(by omega))))))] [qb 0 rfl 0, qc (args := [.agg #[I r.id, I r.plan.prio, I r.plan.most, I r.plan.wait, I r.plan.tasks, v9_0, I r.state, v9_1], I (k : Int)]) (v := .bool (pB (jC r (iU r (k : Int)) (r.tasks[k]'(by omega))))) func343 rfl (fun W s b => TaskOkI W (aX hc s.below) (k := k) aC aC), .o] aD fun f31 W32 h31_ st33 hb34 => (aB ?_)))))))))))))
  refine bU (h31_.at 36) (fun h35 => ?_) (fun h35 => ?_)
  ·refine wp_seq (aA (sg (aE (aB (wr (aL results231 rfl ?_))))))
   exact ⟨(fB (by unfold eY; rw [dY (fun hz => yR (aN h35) (hz.2.2.2.1 k aC aC))])), st33.bare⟩
  refine wp_skip (aA (sg (bN (h31_.at 30) rfl eC (sg (aG (v := I ((k : Int) + 1)) rfl (aB ?_))))))
  exact ⟨_, r.tasks.length - (k + 1), aC, rfl, k + 1, aC, (fun j hj => by rcases Nat.lt_succ_iff_lt_or_eq.1 hj with h1 | rfl; exact hT j h1; exact fun _ => pB_iff.1 ((bS h35))), rfl, (h31_.put.put.to aD), st33⟩
 refine wp_exit (wp_seq ?_)
 have hTk : ∀ j, j < r.tasks.length → jD r j := by rw [show k = r.tasks.length by omega] at hT; exact hT
 have hc4 := lH r.tasks 4
 have hc5 := lH r.tasks 5
 have hc6 := lH r.tasks 6
 have hsum := aC3 (states_of hTk)
 have hso := mY r.tasks
 have hn1 := cQ r.tasks 1
 have hn2 := cQ r.tasks 2
 have hn3 := cQ r.tasks 3
 have hn4 := cQ r.tasks 4
 have hn5 := cQ r.tasks 5
 have hn6 := cQ r.tasks 6
 refine rA 11 [(some 1, some 2, .of (ι := Value × List Nat) [39] (fun ⟨v40, fp40⟩ => [v40]) (fun ⟨v40, fp40⟩ => Res.own (α := List Int) v40 (bJ r.tasks 4) fp40)), (some 2, none, .of (ι := Value × List Nat) [39] (fun ⟨v40, fp40⟩ => [v40]) (fun ⟨v40, fp40⟩ => Res.own (α := List Int) v40 (bJ r.tasks 4) fp40)), (some 4, some 5, .of (ι := Value × List Nat) [42] (fun ⟨v47, fp47⟩ => [v47]) (fun ⟨v47, fp47⟩ => Res.own (α := List Int) v47 (bJ r.tasks 5) fp47)), (some 5, none, .of (ι := Value × List Nat) [42] (fun ⟨v47, fp47⟩ => [v47]) (fun ⟨v47, fp47⟩ => Res.own (α := List Int) v47 (bJ r.tasks 5) fp47)), (some 7, some 8, .of (ι := Value × List Nat) [45] (fun ⟨v54, fp54⟩ => [v54]) (fun ⟨v54, fp54⟩ => Res.own (α := List Int) v54 (bJ r.tasks 6) fp54)), (some 8, none, .of (ι := Value × List Nat) [45] (fun ⟨v54, fp54⟩ => [v54]) (fun ⟨v54, fp54⟩ => Res.own (α := List Int) v54 (bJ r.tasks 6) fp54))] [(true, .is (.agg #[I r.id, I r.plan.prio, I r.plan.most, I r.plan.wait, I r.plan.tasks, v9_0, I r.state, v9_1])), (false, .ex (fun (v40 : Value) => v40)), (false, .is (I ((bJ r.tasks 4).length : Int))), (true, .is (.agg #[I r.id, I r.plan.prio, I r.plan.most, I r.plan.wait, I r.plan.tasks, v9_0, I r.state, v9_1])), (false, .ex (fun (v47 : Value) => v47)), (false, .is (I ((bJ r.tasks 5).length : Int))), (true, .is (.agg #[I r.id, I r.plan.prio, I r.plan.most, I r.plan.wait, I r.plan.tasks, v9_0, I r.state, v9_1])), (false, .ex (fun (v54 : Value) => v54)), (false, .is (I ((bJ r.tasks 6).length : Int))), (true, .is (I ((bJ r.tasks 4).length : Int))), (true, .is (I ((bJ r.tasks 5).length : Int)))] mix aD aD aD aD (rs0 := []) rfl st23 (Below.refl _ _) ⟨(fun f W hst hbl hd hf => cE (cs := [I r.id, I r.plan.prio, I r.plan.most, I r.plan.wait, I r.plan.tasks, v9_0, I r.state, v9_1]) pV rfl ((hf 1 rfl).trans (hA24.at 1)) (hst.get 0 rfl) rfl rfl brq), ?_, ?_, (fun f W hst hbl hd hf => cE (cs := [I r.id, I r.plan.prio, I r.plan.most, I r.plan.wait, I r.plan.tasks, v9_0, I r.state, v9_1]) pV rfl ((hf 1 rfl).trans (hA24.at 1)) (hst.get 0 rfl) rfl rfl brq), ?_, ?_, (fun f W hst hbl hd hf => cE (cs := [I r.id, I r.plan.prio, I r.plan.most, I r.plan.wait, I r.plan.tasks, v9_0, I r.state, v9_1]) pV rfl ((hf 1 rfl).trans (hA24.at 1)) (hst.get 0 rfl) rfl rfl brq), ?_, ?_, (fun f W hst hbl hd hf => aF (v := I ((bJ r.tasks 4).length : Int)) (hd 2 40 rfl rfl) brq), (fun f W hst hbl hd hf => aF (v := I ((bJ r.tasks 5).length : Int)) (hd 5 43 rfl rfl) brq), trivial⟩ ?_
 ·intro f W ru oth hu hst hbl hd hf
  have hn_ : ru = [] := hu
  subst hn_
  try simp only [tT, tC] at hst
  refine (bV func30 rfl (hd 0 38 rfl rfl) rfl ((uB W (aX hc hst.below) 4 aC).mono ?_)); rintro _ W42 ⟨v40, fp40, rfl, hk43⟩; refine ⟨_, rfl, ?_⟩
  have st44 := St.call hst hk43
  exact ⟨⟨v40, rfl⟩, ⟨_, ⟨_, _, rfl, ⟨(v40, fp40), (ce rfl rfl), rfl⟩, rfl⟩, st44⟩, (hbl.trans (Below.mono hk43.below hbl.size))⟩
 ·intro f W ru oth hu hst hbl hd hf
  obtain ⟨_, _, rfl, ⟨⟨v40, fp40⟩, he46, rfl⟩, hn_⟩ := hu
  have hn_ : _ = [] := hn_
  subst hn_
  have hu46_39 : f 39 = v40 := congrArg (fun l => l.getD 0 undef) he46
  try simp only [tT, tC] at hst
  refine (kH iJ hu46_39 (aS (hst.get 0 rfl)) ?_)
  exact ⟨rfl, ⟨_, ⟨_, _, rfl, ⟨(v40, fp40), (ce hu46_39 rfl), rfl⟩, rfl⟩, hst⟩, (hbl.trans (Below.mono (Below.refl _ _) hbl.size))⟩
 ·intro f W ru oth hu hst hbl hd hf
  have hn_ : ru = [] := hu
  subst hn_
  try simp only [tT, tC] at hst
  refine (bV func30 rfl (hd 3 41 rfl rfl) rfl ((uB W (aX hc hst.below) 5 aC).mono ?_)); rintro _ W49 ⟨v47, fp47, rfl, hk50⟩; refine ⟨_, rfl, ?_⟩
  have st51 := St.call hst hk50
  exact ⟨⟨v47, rfl⟩, ⟨_, ⟨_, _, rfl, ⟨(v47, fp47), (ce rfl rfl), rfl⟩, rfl⟩, st51⟩, (hbl.trans (Below.mono hk50.below hbl.size))⟩
 ·intro f W ru oth hu hst hbl hd hf
  obtain ⟨_, _, rfl, ⟨⟨v47, fp47⟩, he53, rfl⟩, hn_⟩ := hu
  have hn_ : _ = [] := hn_
  subst hn_
  have hu53_42 : f 42 = v47 := congrArg (fun l => l.getD 0 undef) he53
  try simp only [tT, tC] at hst
  refine (kH iJ hu53_42 (aS (hst.get 0 rfl)) ?_)
  exact ⟨rfl, ⟨_, ⟨_, _, rfl, ⟨(v47, fp47), (ce hu53_42 rfl), rfl⟩, rfl⟩, hst⟩, (hbl.trans (Below.mono (Below.refl _ _) hbl.size))⟩
 ·intro f W ru oth hu hst hbl hd hf
  have hn_ : ru = [] := hu
  subst hn_
  try simp only [tT, tC] at hst
  refine (bV func30 rfl (hd 6 44 rfl rfl) rfl ((uB W (aX hc hst.below) 6 aC).mono ?_)); rintro _ W56 ⟨v54, fp54, rfl, hk57⟩; refine ⟨_, rfl, ?_⟩
  have st58 := St.call hst hk57
  exact ⟨⟨v54, rfl⟩, ⟨_, ⟨_, _, rfl, ⟨(v54, fp54), (ce rfl rfl), rfl⟩, rfl⟩, st58⟩, (hbl.trans (Below.mono hk57.below hbl.size))⟩
 ·intro f W ru oth hu hst hbl hd hf
  obtain ⟨_, _, rfl, ⟨⟨v54, fp54⟩, he60, rfl⟩, hn_⟩ := hu
  have hn_ : _ = [] := hn_
  subst hn_
  have hu60_45 : f 45 = v54 := congrArg (fun l => l.getD 0 undef) he60
  try simp only [tT, tC] at hst
  refine (kH iJ hu60_45 (aS (hst.get 0 rfl)) ?_)
  exact ⟨rfl, ⟨_, ⟨_, _, rfl, ⟨(v54, fp54), (ce hu60_45 rfl), rfl⟩, rfl⟩, hst⟩, (hbl.trans (Below.mono (Below.refl _ _) hbl.size))⟩
 intro f61 W62 rs_ hAL_ st65 hbl66 hv63 hf64
 obtain ⟨_, _, rfl, ⟨⟨v40, fp40⟩, he67, rfl⟩, _, _, rfl, ⟨⟨v47, fp47⟩, he68, rfl⟩, _, _, rfl, ⟨⟨v54, fp54⟩, he69, rfl⟩, hn_⟩ := hAL_
 have hn_ : _ = [] := hn_
 subst hn_
 have hu67_39 : f61 39 = v40 := congrArg (fun l => l.getD 0 undef) he67
 have hu68_42 : f61 42 = v47 := congrArg (fun l => l.getD 0 undef) he68
 have hu69_45 : f61 45 = v54 := congrArg (fun l => l.getD 0 undef) he69
 try simp only [tT, tC] at st65
 refine sg (aF (v := I ((bJ r.tasks 6).length : Int)) (hv63 8 46 aV rfl) (aB (wp_seq (aA (rg st65 10 (Ag.cons (show f61 1 = pt_ b1 from ((hf64 1 rfl).trans (hA24.at 1))) (Ag.cons (show f61 4 = I ((bJ r.tasks 4).length : Int) from (hv63 9 4 aV rfl)) (Ag.cons (show f61 5 = I ((bJ r.tasks 5).length : Int) from (hv63 10 5 aV rfl)) Ag.nil))).put [] [(7, .bool (decide (((((bJ r.tasks 4).length : Int) + ((bJ r.tasks 5).length : Int)) + ((bJ r.tasks 6).length : Int)) = (r.tasks.length : Int))))] [qad ((bJ r.tasks 4).length : Int) ((bJ r.tasks 5).length : Int), qad (((bJ r.tasks 4).length : Int) + ((bJ r.tasks 5).length : Int)) ((bJ r.tasks 6).length : Int), qb 3 rfl 7, ql h9_1, .o] aD fun f74 W75 h74_ st76 hb77 => (aB (wp_seq (wp_block (wp_seq (aA (rn st76 6 h74_ [] [(56, .bool (decide (((bJ r.tasks 4).length : Int) = (r.tasks.length : Int))))] [qb 3 rfl 7, ql h9_1, .o] aD fun f79 h79_ => (aB ?_))))))))))))
 refine aJ (h79_.at 56) (fun h80p => ?_) (fun h80p => ?_)
 ·refine wp_seq (aA (rg st76 4 h79_ [] [(2, .bool (decide (r.state = 2)))] [qb 3 rfl 6, .o] aD fun f82 W83 h82_ st84 hb85 => (aB (wr (aL results231 (h82_.at 2) ?_)))))
  exact ⟨(fB (rH hr1 hTk rk_).symm), st84.bare⟩
 refine wp_seq (aA (rg st76 6 h79_ [] [(65, .bool ((decide (((bJ r.tasks 5).length : Int) = 1)) && (decide (((((bJ r.tasks 4).length : Int) + ((bJ r.tasks 5).length : Int)) + ((bJ r.tasks 6).length : Int)) = (r.tasks.length : Int)))))] [.o] aD fun f87 W88 h87_ st89 hb90 => (aB (bU (h87_.at 65) (fun h91 => ?_) (fun h91 => ?_)))))
 ·refine wp_seq (aA (rg st89 4 h87_ [] [(2, .bool (decide (r.state = 3)))] [qb 3 rfl 6, .o] aD fun f93 W94 h93_ st95 hb96 => (aB (wr (aL results231 (h93_.at 2) ?_)))))
  exact ⟨(fB (rH hr1 hTk rk_).symm), st95.bare⟩
 refine wp_seq (aA (rg st89 10 h87_ [] [(74, .bool (((decide (((bJ r.tasks 5).length : Int) = 0)) && (decide (0 < ((bJ r.tasks 6).length : Int)))) && (decide (((((bJ r.tasks 4).length : Int) + ((bJ r.tasks 5).length : Int)) + ((bJ r.tasks 6).length : Int)) = (r.tasks.length : Int)))))] [.o, .o] aD fun f98 W99 h98_ st100 hb101 => (aB (bU (h98_.at 74) (fun h102 => ?_) (fun h102 => ?_)))))
 ·refine wp_seq (aA (rg st100 4 h98_ [] [(2, .bool (decide (r.state = 4)))] [qb 3 rfl 6, .o] aD fun f104 W105 h104_ st106 hb107 => (aB (wr (aL results231 (h104_.at 2) ?_)))))
  exact ⟨(fB (rH hr1 hTk rk_).symm), st106.bare⟩
 refine wp_skip (wp_seq (aA (rg st100 12 h98_ [] [(2, .bool (((decide (r.state = 1)) && (decide (((bJ r.tasks 5).length : Int) = 0))) && (decide (((bJ r.tasks 6).length : Int) = 0))))] [qb 3 rfl 6, .o, .o, .o] aD fun f109 W110 h109_ st111 hb112 => (aB (wr (aL results231 (h109_.at 2) ?_))))))
 exact ⟨(fB (rH hr1 hTk rk_).symm), st111.bare⟩
theorem TaskOkS {r : Run} (hc : Shape.C w cs r fp) {k : Nat} (hk : k < r.tasks.length) (hlen : (r.tasks.length : Int) = r.plan.tasks) (hP : bR r.plan = 0) (hs : 1 ≤ (r.tasks[k]'hk).state ∧ (r.tasks[k]'hk).state ≤ 6) :
  Calls prog 372 #[.agg cs.toArray, I (k : Int)] w (rB_ (pB (jC r (iU r (k : Int)) (r.tasks[k]'hk))) w) := by
 have hcap : r.tasks.length ≤ 9223372036854775807 := by have h0 := hc; obtain ⟨v1, v2, f1, f2, h0, hok, h1, h2, hfp⟩ := h0; exact h2.len_le
 refine bI func372 rfl ntmps372 aV (wp_seq (aA (sg (aI (cs := cs) rfl (St.start w) ?_)))); intro b1 W2 hb3 st4
 refine sg (aE (aB (wp_seq (aA ?_))))
 have hk9 := hc
 obtain ⟨v9_0, v9_1, g9_0, g9_1, rfl, hok9, h9_0, h9_1, rfl⟩ := hk9
 have hif4d94 : k < r.tasks.length := aC
 obtain ⟨b10, o10, cs10, f10, hp10, hr10, hc10, hm10⟩ := idx h9_1 (i := k) hif4d94
 refine rn st4 5 Ag.nil.put.put.put.put [] [(13, .agg cs10.toArray)] [qb 0 rfl 7, qx hp10, qrw hr10 (Shape.len hc10)] aD fun f11 h11_ => (sg (bO qX st4 ?_)); intro b12 W13 hb14 st15
 refine sgn (bC (cs := cs10) rJ hc10 rfl (h11_.at 13) st15 rfl ?_); intro W17 st18
 refine aB (wp_seq (aA (sg (aE (aB (wp_seq (aA (rn st18 3 h11_.put.put [] [(15, .agg #[I r.plan.prio, I r.plan.most, I r.plan.wait, I r.plan.tasks, v9_0]), (16, I (k : Int))] [qb 1 rfl 1] aD fun f22 h22_ => ?_))))))))
 obtain ⟨hM, hE, _, _⟩ := qO hP
 have hMb := pM hM
 have hbeq : aU r.plan (k : Int) = (cF (bQ r.plan.edges (k : Int))) := by unfold aU; rw [if_pos hP]
 have hbl := lA r.plan (k : Int)
 rw [hbeq] at hbl
 refine sg (bV func386 rfl (h22_.at 15) (h22_.at 16) ((BeforeE W17 (show Shape.C _ [I r.plan.prio, I r.plan.most, I r.plan.wait, I r.plan.tasks, v9_0] r.plan _ from ⟨_, _, rfl, qW, (h9_0.below st18.below), rfl⟩) (k : Int) aC aC hE).mono ?_)); rintro _ W25 ⟨v23, fp23, rfl, hk26⟩; refine ⟨_, rfl, ?_⟩
 have st27 := St.call st18 hk26
 refine sg (aF (v := v23) rfl (aB (wp_seq (wp_seq (aA (sg (aE (aB (wp_block (aP (fun (m : Nat) (f : Nat → Value) (W : World) => ∃ (i : Nat), i ≤ (cF (bQ r.plan.edges (k : Int))).length ∧ m = (cF (bQ r.plan.edges (k : Int))).length - i ∧ Ag [(2, pt_ b1), (5, pt_ b12), (6, I (dF r ((cF (bQ r.plan.edges (k : Int))).take i))), (7, v23), (8, I (i : Int))] f ∧ St w W ([Res.own (α := List Int) v23 (cF (bQ r.plan.edges (k : Int))) fp23, Res.bx b12 cs10 158, Res.bx b1 [I r.id, I r.plan.prio, I r.plan.most, I r.plan.wait, I r.plan.tasks, v9_0, I r.state, v9_1] 55])) ((cF (bQ r.plan.edges (k : Int))).length - 0) ?_ ?_))))))))))
 ·exact ⟨0, aC, rfl, (h22_.put.put.put.to aD), st27⟩
 intro m33 f34 W35 hJ36
 obtain ⟨i, hi, rfl, hA38, st37⟩ := hJ36
 have hnr := tB r ((cF (bQ r.plan.edges (k : Int))).take i)
 have htl := length_take_le i (cF (bQ r.plan.edges (k : Int)))
 refine wp_seq (wp_seq (aA (rn st37 4 hA38 [] [(21, .bool (decide ((i : Int) < ((cF (bQ r.plan.edges (k : Int))).length : Int))))] [ql (aS (st37.get 0 rfl)), .o] aD fun f40 h40_ => (aB (aJ (h40_.at 21) (fun h41p => ?_) (fun h41p => ?_))))))
 ·refine wp_skip (wp_seq (wp_block (wp_seq ?_)))
  have hbr := tW r.plan (k : Int)
  rw [hbeq] at hbr
  have hbr := hbr _ (getElem_mem (l := (cF (bQ r.plan.edges (k : Int)))) (n := i) aC)
  have hi26b77 : i < (cF (bQ r.plan.edges (k : Int))).length := aC
  obtain ⟨b43, o43, cs43, f43, hp43, hr43, hc43, hm43⟩ := idx (aS (st37.get 0 rfl)) (i := i) hi26b77
  have hk43 := hc43
  obtain ⟨rfl, rfl, hok43⟩ := hk43
  have hib59be : (((cF (bQ r.plan.edges (k : Int)))[i]'hi26b77)).toNat < r.tasks.length := aC
  obtain ⟨b44, o44, cs44, f44, hp44, hr44, hc44, hm44⟩ := idx h9_1 (i := (((cF (bQ r.plan.edges (k : Int)))[i]'hi26b77)).toNat) hib59be
  have hk45 := hc44
  obtain ⟨he45, rfl, hok45⟩ := hk45
  have he45 : _ = [I (r.tasks[(((cF (bQ r.plan.edges (k : Int)))[i]'hi26b77)).toNat]'hib59be).state, I (r.tasks[(((cF (bQ r.plan.edges (k : Int)))[i]'hi26b77)).toNat]'hib59be).need, I (r.tasks[(((cF (bQ r.plan.edges (k : Int)))[i]'hi26b77)).toNat]'hib59be).try_, I (r.tasks[(((cF (bQ r.plan.edges (k : Int)))[i]'hi26b77)).toNat]'hib59be).until_] := he45
  subst he45
  refine rd st37 h40_ [] [(33, .bool (!decide ((r.tasks[(((cF (bQ r.plan.edges (k : Int)))[i]'hi26b77)).toNat]'hib59be).state = 4)))] [qb 2 rfl 7, qx hp43, qn hr43 0, qxe hp44 (e := ((cF (bQ r.plan.edges (k : Int)))[i]'hi26b77)) aC, qr hr44 0, .o] aD aD fun f46 W47 h46_ st48 hb49 => (bH (h46_.at 33) (fun h50p => ?_) (fun h50p => ?_))
  ·refine aA (rn st48 3 h46_ [6] [(6, I ((dF r ((cF (bQ r.plan.edges (k : Int))).take i)) + 1))] [qad (dF r ((cF (bQ r.plan.edges (k : Int))).take i)) 1] aD fun f52 h52_ => (aB (aA (rn st48 3 h52_ [8] [(8, I ((i : Int) + 1))] [qad (i : Int) 1] aD fun f54 h54_ => (aB ?_)))))
   exact ⟨_, (cF (bQ r.plan.edges (k : Int))).length - (i + 1), aC, rfl, i + 1, aC, rfl, (Ag.cons (h54_.at 2) (Ag.cons (h54_.at 5) (Ag.cons (Eq.trans (show _ = I ((dF r ((cF (bQ r.plan.edges (k : Int))).take i)) + 1) from (h54_.at 6)) (congrArg I (by rw [jF aC, mN aC]; simp only [h50p, decide_true, decide_false, Bool.false_eq_true, if_true, if_false]; try omega))) (Ag.cons (h54_.at 7) (Ag.cons (h54_.at 8) Ag.nil))))), st48⟩
  refine wp_skip (aA (rn st48 3 h46_ [8] [(8, I ((i : Int) + 1))] [qad (i : Int) 1] aD fun f56 h56_ => (aB ?_)))
  exact ⟨_, (cF (bQ r.plan.edges (k : Int))).length - (i + 1), aC, rfl, i + 1, aC, rfl, (Ag.cons (h56_.at 2) (Ag.cons (h56_.at 5) (Ag.cons (Eq.trans (show _ = I (dF r ((cF (bQ r.plan.edges (k : Int))).take i)) from (h56_.at 6)) (congrArg I (by rw [jF aC, mN aC]; simp only [h50p, decide_true, decide_false, Bool.false_eq_true, if_true, if_false]; try omega))) (Ag.cons (h56_.at 7) (Ag.cons (h56_.at 8) Ag.nil))))), st48⟩
 refine wp_exit (wp_seq (wp_seq (aA ?_)))
 have hneed : iU r (k : Int) = dF r ((cF (bQ r.plan.edges (k : Int))).take i) := by unfold iU; rw [hbeq, show i = (cF (bQ r.plan.edges (k : Int))).length by omega, take_length]
 have hk58 := hc10
 obtain ⟨he58, rfl, hok58⟩ := hk58
 have he58 : _ = [I (r.tasks[k]'hif4d94).state, I (r.tasks[k]'hif4d94).need, I (r.tasks[k]'hif4d94).try_, I (r.tasks[k]'hif4d94).until_] := he58
 subst he58
 refine rg st37 13 h40_ [] [(48, .bool ((!decide ((r.tasks[k]'hif4d94).need = (dF r ((cF (bQ r.plan.edges (k : Int))).take i)))) || (!(inB (r.tasks[k]'hif4d94).try_ 0 r.plan.most))))] [qb 1 rfl 1, .o, qb 1 rfl 2, qb 2 rfl 2, qc (args := [I (r.tasks[k]'hif4d94).try_, I 0, I r.plan.most]) (v := .bool (inB (r.tasks[k]'hif4d94).try_ 0 r.plan.most)) func138 rfl (fun W s b => bW W (r.tasks[k]'hif4d94).try_ 0 r.plan.most), .o] aD fun f59 W60 h59_ st61 hb62 => (aB (bU (h59_.at 48) (fun h63 => ?_) (fun h63 => ?_)))
 ·refine wp_seq (aA (sg (aE (aB (wr (aL results372 rfl ?_))))))
  exact ⟨(fB (dY tk_).symm), st61.bare⟩
 refine wp_skip (wp_seq (wp_seq (aA (rg st61 19 h59_ [] [(67, .bool (((decide ((r.tasks[k]'hif4d94).state = 3)) && (!(inB (r.tasks[k]'hif4d94).until_ 1 1000000000))) || ((!decide ((r.tasks[k]'hif4d94).state = 3)) && (!decide ((r.tasks[k]'hif4d94).until_ = 0)))))] [qb 1 rfl 0, .o, qb 1 rfl 3, qc (args := [I (r.tasks[k]'hif4d94).until_, I 1, I 1000000000]) (v := .bool (inB (r.tasks[k]'hif4d94).until_ 1 1000000000)) func138 rfl (fun W s b => bW W (r.tasks[k]'hif4d94).until_ 1 1000000000), .o, qb 1 rfl 0, .o, qb 1 rfl 3, .o] aD fun f67 W68 h67_ st69 hb70 => (aB (bU (h67_.at 67) (fun h71 => ?_) (fun h71 => ?_)))))))
 ·refine wp_seq (aA (sg (aE (aB (wr (aL results372 rfl ?_))))))
  exact ⟨(fB (dY tk_).symm), st69.bare⟩
 refine wp_skip (wp_seq (wp_seq (aA (sg (bD pZ (h67_.at 5) (sg (cX kO rfl rfl (st69.get 1 rfl) (i := 0) rfl rfl (aB (wp_block (wp_seq (aA (sg (fZ rfl rfl (sg (aF (v := .bool (decide ((r.tasks[k]'hif4d94).state = 1))) rfl ?_)))))))))))))))
 refine aB (aJ rfl (fun h78p => ?_) (fun h78p => ?_))
 ·refine wp_seq (aA (rn st69 3 h67_.put.put.put.put [] [(4, .bool (decide (0 < (dF r ((cF (bQ r.plan.edges (k : Int))).take i)))))] [.o] aD fun f80 h80_ => (aB (wr (aL results372 (h80_.at 4) ?_)))))
  exact ⟨(fB (qT tk_).symm), st69.bare⟩
 refine wp_seq (aA (sg (fZ rfl rfl (sg (aF (v := .bool (decide ((r.tasks[k]'hif4d94).state = 2))) rfl (aB (aJ rfl (fun h83p => ?_) (fun h83p => ?_))))))))
 ·refine wp_seq (aA (rg st69 11 h67_.put.put.put.put.put.put [] [(4, .bool ((decide ((dF r ((cF (bQ r.plan.edges (k : Int))).take i)) = 0)) && (decide ((r.tasks[k]'hif4d94).try_ < r.plan.most))))] [.o, qb 1 rfl 2, qb 2 rfl 2, .o] aD fun f85 W86 h85_ st87 hb88 => (aB (wr (aL results372 (h85_.at 4) ?_)))))
  exact ⟨(fB (qT tk_).symm), st87.bare⟩
 refine wp_seq (wp_seq (aA (sg (fZ rfl rfl (sg (aF (v := .bool (decide ((r.tasks[k]'hif4d94).state = 3))) rfl (aB (aJ rfl (fun h91p => ?_) (fun h91p => ?_)))))))))
 ·have h91 := decide_eq_true h91p
  refine wp_skip (lJ rfl h91 (wp_seq (aA (rg st69 8 h67_.put.put.put.put.put.put.put.put [] [(4, .bool ((decide ((dF r ((cF (bQ r.plan.edges (k : Int))).take i)) = 0)) && (decide (1 ≤ (r.tasks[k]'hif4d94).try_))))] [.o, qb 1 rfl 2, .o] aD fun f93 W94 h93_ st95 hb96 => (aB (wr (aL results372 (h93_.at 4) ?_)))))))
  exact ⟨(fB (qT tk_).symm), st95.bare⟩
 have h91 := decide_eq_false h91p
 refine wp_seq (aA (sg (fZ rfl rfl (sg (aF (v := .bool (decide ((r.tasks[k]'hif4d94).state = 4))) rfl (aB (aJ rfl (fun h99p => ?_) (fun h99p => ?_))))))))
 ·have h99 := decide_eq_true h99p
  refine wp_skip (lJ rfl h99 (wp_seq (aA (lw h67_.put.put.put.put.put.put.put.put.put.put [(5, pt_ b12), (6, I (dF r ((cF (bQ r.plan.edges (k : Int))).take i)))] aD fun h102_ => (rg st69 8 h102_ [] [(4, .bool ((decide ((dF r ((cF (bQ r.plan.edges (k : Int))).take i)) = 0)) && (decide (1 ≤ (r.tasks[k]'hif4d94).try_))))] [.o, qb 1 rfl 2, .o] aD fun f101 W103 h101_ st104 hb105 => (aB (wr (aL results372 (h101_.at 4) ?_))))))))
  exact ⟨(fB (qT tk_).symm), st104.bare⟩
 have h99 := decide_eq_false h99p
 refine aA (sg (fZ rfl rfl (sg (aF (v := .bool (decide ((r.tasks[k]'hif4d94).state = 5))) rfl (aB (aJ rfl (fun h108p => ?_) (fun h108p => ?_)))))))
 ·refine wp_seq (aA (lw h67_.put.put.put.put.put.put.put.put.put.put.put.put [(5, pt_ b12), (6, I (dF r ((cF (bQ r.plan.edges (k : Int))).take i)))] aD fun h111_ => (rg st69 8 h111_ [] [(4, .bool ((decide ((dF r ((cF (bQ r.plan.edges (k : Int))).take i)) = 0)) && (decide (1 ≤ (r.tasks[k]'hif4d94).try_))))] [.o, qb 1 rfl 2, .o] aD fun f110 W112 h110_ st113 hb114 => (aB (wr (aL results372 (h110_.at 4) ?_))))))
  exact ⟨(fB (qT tk_).symm), st113.bare⟩
 refine wp_skip (wp_seq (aA (lw h67_.put.put.put.put.put.put.put.put.put.put.put.put [(5, pt_ b12)] aD fun h117_ => (rn st69 4 h117_ [] [(4, .bool (decide ((r.tasks[k]'hif4d94).state = 6)))] [qb 1 rfl 0, .o] aD fun f116 h116_ => (aB (wr (aL results372 (h116_.at 4) ?_)))))))
 exact ⟨(fB (qT tk_).symm), st69.bare⟩
theorem aI7 {r : Run} (hc : Shape.C w cs r fp) (hS : ∀ t ∈ r.tasks, 1 ≤ t.state ∧ t.state ≤ 6) (hl : r.tasks.length ≤ 1048576) :
  Calls prog 373 #[.agg cs.toArray] w (rI_ (hU r.tasks) w) := by
 have hcap : r.tasks.length ≤ 9223372036854775807 := by have h0 := hc; obtain ⟨v1, v2, f1, f2, h0, hok, h1, h2, hfp⟩ := h0; exact h2.len_le
 refine dS func373 rfl ntmps373 aV (wp_seq (aA (sg (aI (cs := cs) rfl (St.start w) ?_)))); intro b1 W2 hb3 st4
 refine sg (aE (aB (wp_seq (aA (sg (aW (cs := [I 0, I 0, I 0, I 0, I 0, I 0, I 0]) (e := 3) (fQ (v := I 0) rfl (fQ (v := I 0) rfl (fQ (v := I 0) rfl (fQ (v := I 0) rfl (fQ (v := I 0) rfl (fQ (v := I 0) rfl (fQ (v := I 0) rfl kM))))))) (run_buildSliceN eZ _ rfl (kP rfl (kP rfl (kP rfl (kP rfl (kP rfl (kP rfl (kP rfl lc_nil)))))))) st4 ?_)))))); intro b8 W9 hb10 st11
 refine sg (aF (v := .slice (some ⟨b8, 0, none⟩) 7 7) rfl (aB (wp_seq (wp_seq (aA (sg (aE (aB (wp_block ?_)))))))))
 have st17 := St.row_lit (α := Int) (ys := [0, 0, 0, 0, 0, 0, 0]) st11 rfl gC (Elems.ic eC (Elems.ic eC (Elems.ic eC (Elems.ic eC (Elems.ic eC (Elems.ic eC (Elems.ic eC Elems.i0)))))))
 obtain ⟨fp18, st19⟩ := st17.shut
 refine aP (fun (m : Nat) (f : Nat → Value) (W : World) => ∃ (k : Nat) (fo20 : List Nat), k ≤ r.tasks.length ∧ m = r.tasks.length - k ∧ Ag [(1, pt_ b1), (3, (.slice (some ⟨b8, 0, none⟩) 7 7)), (4, I (k : Int))] f ∧ St w W ([Res.own (α := List Int) (.slice (some ⟨b8, 0, none⟩) 7 7) (cT (r.tasks.take k)) fo20, Res.bx b1 cs 55])) (r.tasks.length - 0) ?_ ?_
 ·exact ⟨0, fp18, aC, rfl, (Ag.nil.put.put.put.put.put.put.to aD), (by rw [take_zero, cnts_nil]; exact st19)⟩
 intro m21 f22 W23 hJ24
 obtain ⟨k, fo20, hk, rfl, hA26, st25⟩ := hJ24
 refine wp_seq (wp_seq (aA ?_))
 have hk28 := hc
 obtain ⟨v28_0, v28_1, g28_0, g28_1, rfl, hok28, h28_0, h28_1, rfl⟩ := hk28
 refine rn st25 5 hA26 [] [(11, .bool (decide ((k : Int) < (r.tasks.length : Int))))] [qb 1 rfl 7, ql h28_1, .o] aD fun f29 h29_ => (aB (aJ (h29_.at 11) (fun h30p => ?_) (fun h30p => ?_)))
 ·refine wp_skip (wp_seq (wp_block (aA ?_)))
  have hif4d94 : k < r.tasks.length := aC
  obtain ⟨b32, o32, cs32, f32, hp32, hr32, hc32, hm32⟩ := idx h28_1 (i := k) hif4d94
  have hk33 := hc32
  obtain ⟨he33, rfl, hok33⟩ := hk33
  have he33 : _ = [I (r.tasks[k]'hif4d94).state, I (r.tasks[k]'hif4d94).need, I (r.tasks[k]'hif4d94).try_, I (r.tasks[k]'hif4d94).until_] := he33
  subst he33
  refine rn st25 7 h29_ [] [(14, (.slice (some ⟨b8, 0, none⟩) 7 7)), (20, I (r.tasks[k]'hif4d94).state)] [qb 1 rfl 7, qx hp32, qr hr32 0] aD fun f34 h34_ => ?_
  have hsk := hS _ (getElem_mem (l := r.tasks) (n := k) aC)
  have hcl := pD (r.tasks.take k)
  have htl := length_take_le k r.tasks
  have hi2be82 : ((r.tasks[k]'hif4d94).state).toNat < (cT (r.tasks.take k)).length := aC
  obtain ⟨b35, o35, cs35, f35, hp35, hr35, hc35, hm35⟩ := idx (aS (st25.get 0 rfl)) (i := ((r.tasks[k]'hif4d94).state).toNat) hi2be82
  have hk35 := hc35
  obtain ⟨rfl, rfl, hok35⟩ := hk35
  refine sg (bG iJ (h34_.at 14) hp35 (h34_.at 20) aC ?_)
  have hcr := cnts_rng (r.tasks.take k) (r.tasks[k]'(by omega)).state.toNat aC
  refine rn st25 3 h34_.put [] [(23, I (((cT (r.tasks.take k))[((r.tasks[k]'hif4d94).state).toNat]'hi2be82) + 1)), (24, .pointer (some ⟨b35, o35, none⟩))] [qn hr35 0, qad ((cT (r.tasks.take k))[((r.tasks[k]'hif4d94).state).toNat]'hi2be82) 1, qxe hp35 (e := (r.tasks[k]'hif4d94).state) aC] aD fun f39 h39_ => (sgn (pI (α := Int) (z := ((cT (r.tasks.take k))[((r.tasks[k]'hif4d94).state).toNat]'hi2be82) + 1) rfl aD (h39_.at 24) hp35 hi2be82 (h39_.at 23) rfl rfl st25 (fun W => ⟨rfl, rfl, eC⟩) ?_)); intro fp40 W41 st42
  refine aB (aA (rn st42 3 h39_ [4] [(4, I ((k : Int) + 1))] [qad (k : Int) 1] aD fun f44 h44_ => (aB ?_)))
  exact ⟨_, r.tasks.length - (k + 1), aC, rfl, k + 1, fp40, aC, rfl, (h44_.to aD), (by rw [← cnts_set aC (hS _ (getElem_mem _)) (by rw [pD]; omega)]; exact st42)⟩
 refine wp_exit (wp_seq ?_)
 have hkl : k = r.tasks.length := by omega
 have hcl := pD (r.tasks.take k)
 have hso := mY r.tasks
 have hk0 : r.tasks.take k = r.tasks := by rw [hkl, take_length]
 have hq1 : (cT (r.tasks.take k))[1]'(by omega) = bP r.tasks 1 := (qB _ 1 _).trans (by rw [hk0]; rfl)
 have hq2 : (cT (r.tasks.take k))[2]'(by omega) = bP r.tasks 2 := (qB _ 2 _).trans (by rw [hk0]; rfl)
 have hq3 : (cT (r.tasks.take k))[3]'(by omega) = bP r.tasks 3 := (qB _ 3 _).trans (by rw [hk0]; rfl)
 have hq4 : (cT (r.tasks.take k))[4]'(by omega) = bP r.tasks 4 := (qB _ 4 _).trans (by rw [hk0]; rfl)
 have hq5 : (cT (r.tasks.take k))[5]'(by omega) = bP r.tasks 5 := (qB _ 5 _).trans (by rw [hk0]; rfl)
 have hq6 : (cT (r.tasks.take k))[6]'(by omega) = bP r.tasks 6 := (qB _ 6 _).trans (by rw [hk0]; rfl)
 have hnn1 := cQ r.tasks 1
 have hnn2 := cQ r.tasks 2
 have hnn3 := cQ r.tasks 3
 have hnn4 := cQ r.tasks 4
 have hnn5 := cQ r.tasks 5
 have hnn6 := cQ r.tasks 6
 have hll1 := kY r.tasks 1
 have hll2 := kY r.tasks 2
 have hll3 := kY r.tasks 3
 have hll4 := kY r.tasks 4
 have hll5 := kY r.tasks 5
 have hll6 := kY r.tasks 6
 have hi25f68 : 1 < (cT (r.tasks.take k)).length := aC
 obtain ⟨b46, o46, cs46, f46, hp46, hr46, hc46, hm46⟩ := idx (aS (st25.get 0 rfl)) (i := 1) hi25f68
 have hk46 := hc46
 obtain ⟨rfl, rfl, hok46⟩ := hk46
 have hi416b4 : 2 < (cT (r.tasks.take k)).length := aC
 obtain ⟨b47, o47, cs47, f47, hp47, hr47, hc47, hm47⟩ := idx (aS (st25.get 0 rfl)) (i := 2) hi416b4
 have hk47 := hc47
 obtain ⟨rfl, rfl, hok47⟩ := hk47
 have hi98b8f : 3 < (cT (r.tasks.take k)).length := aC
 obtain ⟨b48, o48, cs48, f48, hp48, hr48, hc48, hm48⟩ := idx (aS (st25.get 0 rfl)) (i := 3) hi98b8f
 have hk48 := hc48
 obtain ⟨rfl, rfl, hok48⟩ := hk48
 refine rd st25 h29_ [] [(5, I ((((cT (r.tasks.take k))[1]'hi25f68) + ((cT (r.tasks.take k))[2]'hi416b4)) + ((cT (r.tasks.take k))[3]'hi98b8f)))] [qx hp46, qn hr46 0, qx hp47, qn hr47 0, qad ((cT (r.tasks.take k))[1]'hi25f68) ((cT (r.tasks.take k))[2]'hi416b4), qx hp48, qn hr48 0, qad (((cT (r.tasks.take k))[1]'hi25f68) + ((cT (r.tasks.take k))[2]'hi416b4)) ((cT (r.tasks.take k))[3]'hi98b8f)] aD aD fun f49 W50 h49_ st51 hb52 => (wp_seq (wp_block (wp_seq ?_)))
 have hi7bb14 : 4 < (cT (r.tasks.take k)).length := aC
 obtain ⟨b54, o54, cs54, f54, hp54, hr54, hc54, hm54⟩ := idx (aS (st51.get 0 rfl)) (i := 4) hi7bb14
 have hk54 := hc54
 obtain ⟨rfl, rfl, hok54⟩ := hk54
 refine rd st51 h49_ [] [(36, .bool (decide (((cT (r.tasks.take k))[4]'hi7bb14) = (r.tasks.length : Int))))] [qx hp54, qn hr54 0, qb 1 rfl 7, ql h28_1, .o] aD aD fun f55 W56 h55_ st57 hb58 => (aJ (h55_.at 36) (fun h59p => ?_) (fun h59p => ?_))
 ·refine wp_seq (aA (sg (aE (aB (wr (aL results373 rfl ?_))))))
  exact ⟨(fI aC), st57.bare⟩
 refine wp_seq (aA ?_)
 have hi9ea3c : 5 < (cT (r.tasks.take k)).length := aC
 obtain ⟨b63, o63, cs63, f63, hp63, hr63, hc63, hm63⟩ := idx (aS (st57.get 0 rfl)) (i := 5) hi9ea3c
 have hk63 := hc63
 obtain ⟨rfl, rfl, hok63⟩ := hk63
 rcases nem (((cT (r.tasks.take k))[5]'hi9ea3c) = 1) with h64p | h64p
 ·have h64 := decide_eq_false h64p
  refine rn st57 9 h55_ [] [(44, .bool false)] [qx hp63, qn hr63 0, qk h64] aD fun f65 h65_ => (aB (kG (h65_.at 44) rfl (wp_seq (aA ?_))))
  rcases nem (((cT (r.tasks.take k))[5]'hi9ea3c) = 0) with h67p | h67p
  ·have h67 := decide_eq_false h67p
   refine rn st57 15 h65_ [] [(53, .bool false)] [qx hp63, qn hr63 0, qk h67] aD fun f68 h68_ => (aB (kG (h68_.at 53) rfl (wp_seq (aA (rn st57 11 h68_ [] [(68, .bool false)] [qx hp63, qn hr63 0, qk h67] aD fun f70 h70_ => (aB (kG (h70_.at 68) rfl (wp_skip (wp_seq (aA (sg (aE ?_))))))))))))
   refine aB (wr (aL results373 rfl ?_))
   exact ⟨(fI aC), st57.bare⟩
  have h67 := decide_eq_true h67p
  have hi05ed7 : 6 < (cT (r.tasks.take k)).length := aC
  obtain ⟨b73, o73, cs73, f73, hp73, hr73, hc73, hm73⟩ := idx (aS (st57.get 0 rfl)) (i := 6) hi05ed7
  have hk73 := hc73
  obtain ⟨rfl, rfl, hok73⟩ := hk73
  rcases nem (0 < ((cT (r.tasks.take k))[6]'hi05ed7)) with h74p | h74p
  ·have h74 := decide_eq_false h74p
   refine rn st57 15 h65_ [] [(53, .bool false)] [qx hp63, qn hr63 0, qk h67, qx hp73, qn hr73 0, qk h74] aD fun f75 h75_ => (aB (kG (h75_.at 53) rfl (wp_seq (aA (rn st57 11 h75_ [] [(68, .bool (decide (((cT (r.tasks.take k))[6]'hi05ed7) = 0)))] [qx hp63, qn hr63 0, qk h67, qx hp73, qn hr73 0, .o] aD fun f77 h77_ => (aB (aJ (h77_.at 68) (fun h78p => ?_) (fun h78p => ?_))))))))
   ·refine wp_seq (aA (sg (aE (aB (wr (aL results373 rfl ?_))))))
    exact ⟨(fI aC), st57.bare⟩
   refine wp_skip (wp_seq (aA (sg (aE (aB (wr (aL results373 rfl ?_)))))))
   exact ⟨(fI aC), st57.bare⟩
  have h74 := decide_eq_true h74p
  refine rn st57 15 h65_ [] [(53, .bool (decide (((((cT (r.tasks.take k))[1]'hi25f68) + ((cT (r.tasks.take k))[2]'hi416b4)) + ((cT (r.tasks.take k))[3]'hi98b8f)) = 0)))] [qx hp63, qn hr63 0, qk h67, qx hp73, qn hr73 0, qk h74, .o] aD fun f83 h83_ => (aB (aJ (h83_.at 53) (fun h84p => ?_) (fun h84p => ?_)))
  ·refine wp_seq (aA (sg (aE (aB (wr (aL results373 rfl ?_))))))
   exact ⟨(fI aC), st57.bare⟩
  refine wp_seq (aA (rn st57 11 h83_ [] [(68, .bool (decide (((cT (r.tasks.take k))[6]'hi05ed7) = 0)))] [qx hp63, qn hr63 0, qk h67, qx hp73, qn hr73 0, .o] aD fun f88 h88_ => (aB (aJ (h88_.at 68) (fun h89p => ?_) (fun h89p => ?_)))))
  ·refine wp_seq (aA (sg (aE (aB (wr (aL results373 rfl ?_))))))
   exact ⟨(fI aC), st57.bare⟩
  refine wp_skip (wp_seq (aA (sg (aE (aB (wr (aL results373 rfl ?_)))))))
  exact ⟨(fI aC), st57.bare⟩
 have h64 := decide_eq_true h64p
 refine rn st57 9 h55_ [] [(44, .bool (decide (((((cT (r.tasks.take k))[1]'hi25f68) + ((cT (r.tasks.take k))[2]'hi416b4)) + ((cT (r.tasks.take k))[3]'hi98b8f)) = 0)))] [qx hp63, qn hr63 0, qk h64, .o] aD fun f94 h94_ => (aB (aJ (h94_.at 44) (fun h95p => ?_) (fun h95p => ?_)))
 ·have h95 := decide_eq_true h95p
  refine wp_seq (aA (sg (aE (aB (wr (aL results373 rfl ?_))))))
  exact ⟨(fI aC), st57.bare⟩
 have h95 := decide_eq_false h95p
 refine wp_seq (aA ?_)
 rcases nem (((cT (r.tasks.take k))[5]'hi9ea3c) = 0) with h99p | h99p
 ·have h99 := decide_eq_false h99p
  refine rn st57 15 h94_ [] [(53, .bool false)] [qx hp63, qn hr63 0, qk h99] aD fun f100 h100_ => (aB (kG (h100_.at 53) rfl (wp_seq (aA (rn st57 11 h100_ [] [(68, .bool false)] [qx hp63, qn hr63 0, qk h99] aD fun f102 h102_ => (aB (kG (h102_.at 68) rfl (wp_skip (wp_seq (aA (sg (aE ?_))))))))))))
  refine aB (wr (aL results373 rfl ?_))
  exact ⟨(fI aC), st57.bare⟩
 have h99 := decide_eq_true h99p
 have hi05ed7 : 6 < (cT (r.tasks.take k)).length := aC
 obtain ⟨b105, o105, cs105, f105, hp105, hr105, hc105, hm105⟩ := idx (aS (st57.get 0 rfl)) (i := 6) hi05ed7
 have hk105 := hc105
 obtain ⟨rfl, rfl, hok105⟩ := hk105
 rcases nem (0 < ((cT (r.tasks.take k))[6]'hi05ed7)) with h106p | h106p
 ·have h106 := decide_eq_false h106p
  refine rn st57 15 h94_ [] [(53, .bool false)] [qx hp63, qn hr63 0, qk h99, qx hp105, qn hr105 0, qk h106] aD fun f107 h107_ => (aB (kG (h107_.at 53) rfl (wp_seq (aA (rn st57 11 h107_ [] [(68, .bool (decide (((cT (r.tasks.take k))[6]'hi05ed7) = 0)))] [qx hp63, qn hr63 0, qk h99, qx hp105, qn hr105 0, .o] aD fun f109 h109_ => (aB (aJ (h109_.at 68) (fun h110p => ?_) (fun h110p => ?_))))))))
  ·refine wp_seq (aA (sg (aE (aB (wr (aL results373 rfl ?_))))))
   exact ⟨(fI aC), st57.bare⟩
  refine wp_skip (wp_seq (aA (sg (aE (aB (wr (aL results373 rfl ?_)))))))
  exact ⟨(fI aC), st57.bare⟩
 have h106 := decide_eq_true h106p
 refine rn st57 15 h94_ [] [(53, .bool false)] [qx hp63, qn hr63 0, qk h99, qx hp105, qn hr105 0, qk h106, qk h95] aD fun f115 h115_ => (aB (kG (h115_.at 53) rfl (wp_seq (aA (rn st57 11 h115_ [] [(68, .bool (decide (((cT (r.tasks.take k))[6]'hi05ed7) = 0)))] [qx hp63, qn hr63 0, qk h99, qx hp105, qn hr105 0, .o] aD fun f117 h117_ => (aB (aJ (h117_.at 68) (fun h118p => ?_) (fun h118p => ?_))))))))
 ·refine wp_seq (aA (sg (aE (aB (wr (aL results373 rfl ?_))))))
  exact ⟨(fI aC), st57.bare⟩
 refine wp_skip (wp_seq (aA (sg (aE (aB (wr (aL results373 rfl ?_)))))))
 exact ⟨(fI aC), st57.bare⟩
theorem aI8 {r : Run} (hc : Shape.C w cs r fp) :
  Calls prog 290 #[.agg cs.toArray] w (rB_ (eY r) w) := by
 have hcap : r.tasks.length ≤ 9223372036854775807 := by have h0 := hc; obtain ⟨v1, v2, f1, f2, h0, hok, h1, h2, hfp⟩ := h0; exact h2.len_le
 refine dS func290 rfl ntmps290 aV (wp_seq (aA (sg (aI (cs := cs) rfl (St.start w) ?_)))); intro b1 W2 hb3 st4
 refine sg (aE (aB (wp_seq (wp_seq (aA ?_)))))
 have hk9 := hc
 obtain ⟨v9_0, v9_1, g9_0, g9_1, rfl, hok9, h9_0, h9_1, rfl⟩ := hk9
 rcases bd (!(inB r.id 1 9999)) with h10 | h10
 ·have h10p := inB_iff'.1 (bS h10)
  rcases Decidable.em ((bR r.plan) = 0) with h11p | h11p
  ·have h11 := gQ h11p
   refine rc st4 19 Ag.nil.put.put.put [] [(23, .bool (!decide ((r.tasks.length : Int) = r.plan.tasks)))] [qb 0 rfl 0, qc func138 rfl (fun W s b => bW W r.id 1 9999), qk h10, qb 0 rfl 1, qc func325 rfl (fun W s b => uC W (show Shape.C _ [I r.plan.prio, I r.plan.most, I r.plan.wait, I r.plan.tasks, v9_0] r.plan _ from ⟨_, _, rfl, qW, (h9_0.below s.below), rfl⟩)), qk h11, qb 0 rfl 7, ql h9_1, qb 0 rfl 4, .o] aD fun f12 W13 h12_ st14 hb15 => (aB (bH (h12_.at 23) (fun h16p => ?_) (fun h16p => ?_)))
   ·refine wp_seq (aA (sg (aE (aB (wr (aL results290 rfl ?_))))))
    exact ⟨(fB (by unfold eY; rw [dY (by rintro ⟨hz1, hz2, hz3, hz4, hz5, hz6⟩; omega)])), st14.bare⟩
   refine wp_skip (wp_seq (wp_seq (aA ?_)))
   have hP : bR r.plan = 0 := by omega
   have hMb := pM (qO hP).1
   refine sg (aE (aB (wp_block (aP (fun (m : Nat) (f : Nat → Value) (W : World) => ∃ (i : Nat), i ≤ r.tasks.length ∧ (∀ t ∈ r.tasks.take i, 1 ≤ t.state ∧ t.state ≤ 6) ∧ m = r.tasks.length - i ∧ Ag [(1, pt_ b1), (3, I (i : Int))] f ∧ St w W ([Res.bx b1 [I r.id, I r.plan.prio, I r.plan.most, I r.plan.wait, I r.plan.tasks, v9_0, I r.state, v9_1] 55])) (r.tasks.length - 0) ?_ ?_))))
   ·exact ⟨0, aC, (by simp), rfl, (h12_.put.to aD), st14⟩
   intro m21 f22 W23 hJ24
   obtain ⟨i, hk, hSk, rfl, hA26, st25⟩ := hJ24
   refine wp_seq (wp_seq (aA (rn st25 5 hA26 [] [(28, .bool (decide ((i : Int) < (r.tasks.length : Int))))] [qb 0 rfl 7, ql h9_1, .o] aD fun f28 h28_ => (aB (aJ (h28_.at 28) (fun h29p => ?_) (fun h29p => ?_))))))
   ·refine wp_skip (wp_seq (wp_block (wp_seq (aA ?_))))
    have hi4283f : i < r.tasks.length := aC
    obtain ⟨b31, o31, cs31, f31, hp31, hr31, hc31, hm31⟩ := idx h9_1 (i := i) hi4283f
    have hk32 := hc31
    obtain ⟨he32, rfl, hok32⟩ := hk32
    have he32 : _ = [I (r.tasks[i]'hi4283f).state, I (r.tasks[i]'hi4283f).need, I (r.tasks[i]'hi4283f).try_, I (r.tasks[i]'hi4283f).until_] := he32
    subst he32
    refine rc st25 8 h28_ [] [(38, .bool (!(inB (r.tasks[i]'hi4283f).state 1 6)))] [qb 0 rfl 7, qx hp31, qr hr31 0, qc (args := [I (r.tasks[i]'hi4283f).state, I 1, I 6]) (v := .bool (inB (r.tasks[i]'hi4283f).state 1 6)) func138 rfl (fun W s b => bW W (r.tasks[i]'hi4283f).state 1 6), .o] aD fun f33 W34 h33_ st35 hb36 => (aB (bU (h33_.at 38) (fun h37 => ?_) (fun h37 => ?_)))
    ·have h37p := dR (aN h37)
     refine wp_seq (aA (sg (aE (aB (wr (aL results290 rfl ?_))))))
     exact ⟨(fB (by unfold eY; rw [dY (fun hz => by have hz2 := (hz.2.2.2.1 i aC aC).1; omega)])), st35.bare⟩
    have h37p := inB_iff'.1 (bS h37)
    refine wp_skip (aA (sg (aG (h33_.at 3) (sg (bN rfl rfl eC (sg (aF (v := I ((i : Int) + 1)) rfl (aB ?_))))))))
    exact ⟨_, r.tasks.length - (i + 1), aC, rfl, i + 1, aC, (fun t ht => by rw [take_succ_eq_append_getElem aC] at ht; rcases mem_append.1 ht with h1 | h1; exact hSk t h1; rw [mem_singleton] at h1; subst h1; omega), rfl, (h33_.put.put.put.to aD), st35⟩
   refine wp_exit (wp_seq (wp_seq (aA ?_)))
   have hS : ∀ t ∈ r.tasks, 1 ≤ t.state ∧ t.state ≤ 6 := by rw [show i = r.tasks.length by omega, take_length] at hSk; exact hSk
   refine sg (aE (aB (wp_block (aP (fun (m : Nat) (f : Nat → Value) (W : World) => ∃ (k : Nat), k ≤ r.tasks.length ∧ (∀ j, j < k → jD r j) ∧ m = r.tasks.length - k ∧ Ag [(1, pt_ b1), (4, I (k : Int))] f ∧ St w W ([Res.bx b1 [I r.id, I r.plan.prio, I r.plan.most, I r.plan.wait, I r.plan.tasks, v9_0, I r.state, v9_1] 55])) (r.tasks.length - 0) ?_ ?_))))
   ·exact ⟨0, aC, (fun j hj => absurd hj (Nat.not_lt_zero j)), rfl, (h28_.put.to aD), st25⟩
   intro m46 f47 W48 hJ49
   obtain ⟨k, hk, hT, rfl, hA51, st50⟩ := hJ49
   refine wp_seq (wp_seq (aA (rn st50 5 hA51 [] [(43, .bool (decide ((k : Int) < (r.tasks.length : Int))))] [qb 0 rfl 7, ql h9_1, .o] aD fun f53 h53_ => (aB (aJ (h53_.at 43) (fun h54p => ?_) (fun h54p => ?_))))))
   ·refine wp_skip (wp_seq (wp_block (wp_seq (aA (rc st50 4 h53_ [] [(49, .bool (!(pB (jC r (iU r (k : Int)) (r.tasks[k]'(by omega))))))] [qb 0 rfl 0, qc (args := [.agg #[I r.id, I r.plan.prio, I r.plan.most, I r.plan.wait, I r.plan.tasks, v9_0, I r.state, v9_1], I (k : Int)]) (v := .bool (pB (jC r (iU r (k : Int)) (r.tasks[k]'(by omega))))) func372 rfl (fun W s b => TaskOkS W (aX hc s.below) (k := k) aC aC aC (hS _ (getElem_mem _))), .o] aD fun f56 W57 h56_ st58 hb59 => (aB (bU (h56_.at 49) (fun h60 => ?_) (fun h60 => ?_))))))))
    ·refine wp_seq (aA (sg (aE (aB (wr (aL results290 rfl ?_))))))
     exact ⟨(fB (by unfold eY; rw [dY (fun hz => yR (aN h60) (hz.2.2.2.1 k aC aC))])), st58.bare⟩
    refine wp_skip (aA (sg (aG (h56_.at 4) (sg (bN rfl rfl eC (sg (aF (v := I ((k : Int) + 1)) rfl (aB ?_))))))))
    exact ⟨_, r.tasks.length - (k + 1), aC, rfl, k + 1, aC, (fun j hj => by rcases Nat.lt_succ_iff_lt_or_eq.1 hj with h1 | rfl; exact hT j h1; exact fun _ => pB_iff.1 ((bS h60))), rfl, (h56_.put.put.put.to aD), st58⟩
   refine wp_exit (wp_seq ?_)
   rcases nem (r.state = (hU r.tasks)) with h68p | h68p
   ·have h68 := decide_eq_false h68p
    have hTk : ∀ j, j < r.tasks.length → jD r j := by rw [show k = r.tasks.length by omega] at hT; exact hT
    refine rd st50 h53_ [] [(2, .bool false)] [qb 0 rfl 6, qb 0 rfl 0, qc func373 rfl (fun W s b => aI7 W (aX hc s.below) hS aC), qk h68] aD aD fun f70 W71 h70_ st72 hb73 => (wr (aL results290 (h70_.at 2) ?_))
    exact ⟨(fB (by unfold eY; rw [dY (by rintro ⟨hz1, hz2, hz3, hz4, hz5, hz6⟩; omega)])), st72.bare⟩
   have h68 := decide_eq_true h68p
   have hTk : ∀ j, j < r.tasks.length → jD r j := by rw [show k = r.tasks.length by omega] at hT; exact hT
   refine rd st50 h53_ [] [(2, .bool (!decide (r.state = 0)))] [qb 0 rfl 6, qb 0 rfl 0, qc func373 rfl (fun W s b => aI7 W (aX hc s.below) hS aC), qk h68, qb 0 rfl 6, .o] aD aD fun f75 W76 h75_ st77 hb78 => ?_
   rcases Decidable.em (r.state = 0) with h79p | h79p
   ·have h79 := gQ h79p
    refine wr (aL results290 ((h75_.at 2).trans (congrArg Value.bool h79)) ?_)
    exact ⟨(fB (by unfold eY; rw [dY (by rintro ⟨hz1, hz2, hz3, hz4, hz5, hz6⟩; omega)])), st77.bare⟩
   have h79 := gP h79p
   refine wr (aL results290 ((h75_.at 2).trans (congrArg Value.bool h79)) ?_)
   exact ⟨(fB (by unfold eY; rw [lQ ⟨by omega, by omega, by omega, hTk, by omega, by omega⟩])), st77.bare⟩
  have h11 := gP h11p
  refine rc st4 19 Ag.nil.put.put.put [] [(23, .bool true)] [qb 0 rfl 0, qc func138 rfl (fun W s b => bW W r.id 1 9999), qk h10, qb 0 rfl 1, qc func325 rfl (fun W s b => uC W (show Shape.C _ [I r.plan.prio, I r.plan.most, I r.plan.wait, I r.plan.tasks, v9_0] r.plan _ from ⟨_, _, rfl, qW, (h9_0.below s.below), rfl⟩)), qk h11] aD fun f80 W81 h80_ st82 hb83 => (aB (lJ (h80_.at 23) rfl (wp_seq (aA (sg (aE (aB (wr (aL results290 rfl ?_)))))))))
  exact ⟨(fB (by unfold eY; rw [dY (by rintro ⟨hz1, hz2, hz3, hz4, hz5, hz6⟩; omega)])), st82.bare⟩
 have h10p := dR (aN h10)
 refine rc st4 19 Ag.nil.put.put.put [] [(23, .bool true)] [qb 0 rfl 0, qc func138 rfl (fun W s b => bW W r.id 1 9999), qk h10] aD fun f86 W87 h86_ st88 hb89 => (aB (lJ (h86_.at 23) rfl (wp_seq (aA (sg (aE (aB (wr (aL results290 rfl ?_)))))))))
 exact ⟨(fB (by unfold eY; rw [dY (by rintro ⟨hz1, hz2, hz3, hz4, hz5, hz6⟩; omega)])), st88.bare⟩
def mH (y : Yard) (j : Nat) : Prop := ∀ h : j < y.runs.length, eY y.runs[j] = true ∧ gU y y.runs[j].id = (j : Int) ∧ eQ y.now y.runs[j] y.shelf.flatten = true
noncomputable def cA (y : Yard) : Bool := pB ((0 ≤ y.now ∧ y.now ≤ 999999980) ∧ (1 ≤ y.seq ∧ y.seq ≤ 1000000000) ∧ y.shelf.length = 4 ∧ y.runs.length ≤ 8 ∧ (∀ l ∈ y.shelf, dN l = true) ∧
 (∀ e ∈ y.shelf.flatten, 1 ≤ e.seq ∧ e.seq ≤ y.seq - 1) ∧ (y.shelf.flatten.map (·.seq)).Nodup ∧ (∀ j, j < y.runs.length → mH y j) ∧ hX y ≤ 40)
theorem nI {r : Run} (h : eY r = true) : (0 ≤ r.plan.wait ∧ r.plan.wait ≤ 20) ∧ r.tasks.length ≤ 12 := by
 have h1 := pB_iff.1 h
 have h2 := (qO h1.2.1).1
 have h3 := h1.2.2.1
 unfold bZ at h2
 omega
theorem pF {α : Type} {p : α → Prop} {xs : List α} {k : Nat} (hk : k < xs.length) (h : ∀ x ∈ xs.take k, p x) (h1 : p xs[k]) : ∀ x ∈ xs.take (k + 1), p x := by
 intro x hx
 rw [take_succ_eq_append_getElem hk] at hx
 rcases mem_append.1 hx with hx | hx
 ·exact h x hx
 rw [mem_singleton] at hx; subst hx; exact h1
theorem oS {α β : Type} (f : α → β) {xs : List α} {k : Nat} (hk : k < xs.length) : (xs.take (k + 1)).map f = (xs.take k).map f ++ [f xs[k]] := by
 rw [take_succ_eq_append_getElem hk, map_append]; rfl
theorem lT {xs : List Entry} {k : Nat} (hk : k < xs.length) (h : ((xs.take k).map (·.seq)).Nodup) (hn : xs[k].seq ∉ (xs.take k).map (·.seq)) : ((xs.take (k + 1)).map (·.seq)).Nodup := by
 rw [oS _ hk, nodup_append]
 exact ⟨h, by simp, fun a ha b hb => by simp at hb; subst hb; exact fun e => hn (e ▸ ha)⟩
theorem nB {xs : List Entry} {k : Nat} (hk : k < xs.length) (hm : xs[k].seq ∈ (xs.take k).map (·.seq)) : ¬ (xs.map (·.seq)).Nodup := by
 intro h
 have h2 : ((xs.take (k + 1)).map (·.seq)).Nodup := h.sublist ((take_sublist _ _).map _)
 rw [oS _ hk, nodup_append] at h2
 exact h2.2.2 _ hm _ (by simp) rfl

theorem YardOkI {y : Yard} (hc : Shape.C w cs y fp) (hw : y.wt ≤ 1048576) :
  Calls prog 118 #[.agg cs.toArray] w (rB_ (cA y) w) := by
 have hyr : y.runs.length ≤ y.wt := by unfold Yard.wt wtL; omega
 have hys : y.shelf.length ≤ y.wt := by unfold Yard.wt wtL; omega
 have hfw := oV y
 refine dS func118 rfl ntmps118 aV (wp_seq (aA (sg (aI (cs := cs) rfl (St.start w) ?_)))); intro b1 W2 hb3 st4
 refine sg (aE (aB (wp_seq (wp_seq (aA ?_)))))
 have hk9 := hc
 obtain ⟨v9_0, v9_1, g9_0, g9_1, rfl, hok9, h9_0, h9_1, rfl⟩ := hk9
 refine rg st4 22 Ag.nil.put.put.put [] [(32, .bool ((((!(inB y.now 0 999999980)) || (!(inB y.seq 1 1000000000))) || (!decide ((y.shelf.length : Int) = 4))) || (decide (8 < (y.runs.length : Int)))))] [qb 0 rfl 0, qc func92 rfl (fun W s b => cV W y.now 0 999999980), .o, qb 0 rfl 1, qc func92 rfl (fun W s b => cV W y.seq 1 1000000000), .o, qb 0 rfl 2, ql h9_0, .o, qb 0 rfl 3, ql h9_1, .o] aD fun f10 W11 h10_ st12 hb13 => (aB (bU (h10_.at 32) (fun h14 => ?_) (fun h14 => ?_)))
 ·have h14p := h14
  simp [inB] at h14p
  refine wp_seq (aA (sg (aE (aB (wr (aL results118 rfl ?_))))))
  exact ⟨(fB (by unfold cA; rw [dY (by rintro ⟨hz1, hz2, hz3, hz4, hz5, hz6, hz7, hz8, hz9⟩; omega)])), st12.bare⟩
 have h14p := h14
 simp [inB] at h14p
 refine wp_skip (wp_seq (wp_seq (aA (rn st12 4 h10_ [] [(34, v9_0), (35, I (y.shelf.length : Int)), (36, I 0)] [qb 0 rfl 2, ql h9_0] aD fun f18 h18_ => (aB (wp_block (aP (fun (m : Nat) (f : Nat → Value) (W : World) => ∃ (k : Nat), k ≤ y.shelf.length ∧ (∀ l ∈ y.shelf.take k, dN l = true) ∧ m = y.shelf.length - k ∧ Ag [(1, pt_ b1), (34, v9_0), (35, I (y.shelf.length : Int)), (36, I (k : Int))] f ∧ St w W ([Res.bx b1 [I y.now, I y.seq, v9_0, v9_1] 27])) (y.shelf.length - 0) ?_ ?_)))))))
 ·exact ⟨0, aC, (by simp), rfl, (h18_.to aD), st12⟩
 intro m19 f20 W21 hJ22
 obtain ⟨k, hk, hS1, rfl, hA24, st23⟩ := hJ22
 refine wp_seq (aA (sg (bL (hA24.at 36) (hA24.at 35) (aB (wp_seq (aJ rfl (fun h27p => ?_) (fun h27p => ?_)))))))
 ·refine wp_skip (wp_seq (wp_block (wp_seq (aA ?_))))
  have hi019db : k < y.shelf.length := aC
  obtain ⟨b28, o28, cs28, f28, hp28, hr28, hc28, hm28⟩ := idx h9_0 (i := k) hi019db
  have hk28 := hc28
  obtain ⟨v29, rfl, h30⟩ := hk28
  refine rn st23 3 hA24.put [] [(4, v29)] [qx hp28, qr hr28 0] aD fun f32 h32_ => (aB (wp_seq (aA (rc st23 3 h32_ [] [(42, .bool (!(dN (y.shelf[k]'hi019db))))] [qc (args := [v29]) (v := .bool (dN (y.shelf[k]'hi019db))) func228 rfl (fun W s b => ShelfOkI W (h30.below s.below)), .o] aD fun f34 W35 h34_ st36 hb37 => (aB (bU (h34_.at 42) (fun h38 => ?_) (fun h38 => ?_)))))))
  ·refine wp_seq (aA (sg (aE (aB (wr (aL results118 rfl ?_))))))
   exact ⟨(fB (by unfold cA; rw [dY (by rintro ⟨hz1, hz2, hz3, hz4, hz5, hz6, hz7, hz8, hz9⟩; have hq := hz5 _ (getElem_mem (n := k) aC); rw [(aN h38)] at hq; cases hq)])), st36.bare⟩
  refine wp_skip (aA (sg (bN (h34_.at 36) rfl eC (sg (aG (v := I ((k : Int) + 1)) rfl (aB ?_))))))
  exact ⟨_, y.shelf.length - (k + 1), aC, rfl, k + 1, aC, (pF aC hS1 (bS h38)), rfl, (h34_.put.put.to aD), st36⟩
 refine wp_exit (wp_seq (aA ?_))
 have hS1 : ∀ l ∈ y.shelf, dN l = true := by rw [show k = y.shelf.length by omega, take_length] at hS1; exact hS1
 refine sg (cE (cs := [I y.now, I y.seq, v9_0, v9_1]) fM rfl (hA24.at 1) (st23.get 0 rfl) rfl rfl (sg (dD func229 rfl rfl ((yH W21 (aX hc st23.below) aC).mono ?_)))); rintro _ W47 ⟨v45, fp45, rfl, hk48⟩; refine ⟨_, rfl, ?_⟩
 have st49 := St.call st23 hk48
 refine sg (aF (v := v45) rfl (aB (wp_seq (aA (sg (aF (v := .slice none 0 0) rfl (aB (wp_seq (wp_seq (aA (rn st49 3 hA24.put.put.put.put.put [] [(46, v45), (47, I ((y.shelf).flatten.length : Int)), (48, I 0)] [ql (aS (st49.get 0 rfl))] aD fun f56 h56_ => (aB (wp_block ?_)))))))))))))
 have st58 := st49.row_nil (α := Int) 3
 refine aP (fun (m : Nat) (f : Nat → Value) (W : World) => ∃ (k2 : Nat) (v57 : Value), k2 ≤ y.shelf.flatten.length ∧ (∀ e ∈ y.shelf.flatten.take k2, 1 ≤ e.seq ∧ e.seq ≤ y.seq - 1) ∧ ((y.shelf.flatten.take k2).map (·.seq)).Nodup ∧ m = y.shelf.flatten.length - k2 ∧ Ag [(1, pt_ b1), (5, v45), (6, v57), (46, v45), (47, I ((y.shelf).flatten.length : Int)), (48, I (k2 : Int))] f ∧ St w W ([Res.row (α := Int) 3 v57 ((y.shelf.flatten.take k2).map (·.seq)) [], Res.own (α := List Entry) v45 (y.shelf).flatten fp45, Res.bx b1 [I y.now, I y.seq, v9_0, v9_1] 27])) (y.shelf.flatten.length - 0) ?_ ?_
 ·exact ⟨0, (.slice none 0 0), aC, (by simp), (by simp), rfl, (h56_.to aD), st58⟩
 intro m60 f61 W62 hJ63
 obtain ⟨k2, v57, hk2, hS2, hS3, rfl, hA65, st64⟩ := hJ63
 have hml : ((y.shelf.flatten.take k2).map (·.seq)).length ≤ y.shelf.flatten.length := by rw [length_map]; exact length_take_le' _ _
 refine wp_seq (aA (sg (bL (hA65.at 48) (hA65.at 47) (aB (wp_seq (aJ rfl (fun h68p => ?_) (fun h68p => ?_)))))))
 ·refine wp_skip (wp_seq (wp_block (wp_seq (aA ?_))))
  have hi3bcf4 : k2 < (y.shelf).flatten.length := aC
  obtain ⟨b69, o69, cs69, f69, hp69, hr69, hc69, hm69⟩ := idx (aS (st64.get 1 rfl)) (i := k2) hi3bcf4
  refine sg (bG jN (hA65.at 46) hp69 (hA65.at 48) rfl (sg (eN jS rfl rfl hr69 (Below.refl _ _) (Shape.len hc69) (sg (bO rT st64 ?_))))); intro b72 W73 hb74 st75
  refine sgn (bC (cs := cs69) jS hc69 rfl rfl st75 rfl ?_); intro W77 st78
  refine aB (wp_seq (wp_seq (aA ?_)))
  have hk80 := hc69
  obtain ⟨he80, rfl, hok80⟩ := hk80
  have he80 : _ = [I ((y.shelf).flatten[k2]'hi3bcf4).prio, I ((y.shelf).flatten[k2]'hi3bcf4).seq, I ((y.shelf).flatten[k2]'hi3bcf4).run, I ((y.shelf).flatten[k2]'hi3bcf4).task] := he80
  subst he80
  rcases bd (!(inB ((y.shelf).flatten[k2]'hi3bcf4).seq 1 (y.seq - 1))) with h81 | h81
  ·have h81p := inB_iff'.1 (bS h81)
   refine rc st78 13 hA65.put.put.put.put [] [(64, .bool (decide (((y.shelf).flatten[k2]'hi3bcf4).seq ∈ ((y.shelf.flatten.take k2).map (·.seq)))))] [qb 0 rfl 1, qb 3 rfl 1, qsb y.seq 1, qc (args := [I ((y.shelf).flatten[k2]'hi3bcf4).seq, I 1, I (y.seq - 1)]) (v := .bool (inB ((y.shelf).flatten[k2]'hi3bcf4).seq 1 (y.seq - 1))) func92 rfl (fun W s b => cV W ((y.shelf).flatten[k2]'hi3bcf4).seq 1 (y.seq - 1)), qk h81, qb 0 rfl 1, qc (args := [v57, I ((y.shelf).flatten[k2]'hi3bcf4).seq]) (v := .bool (decide (((y.shelf).flatten[k2]'hi3bcf4).seq ∈ ((y.shelf.flatten.take k2).map (·.seq))))) func230 rfl (fun W s b => ContN W (gB (s.get 1 rfl)) ((y.shelf).flatten[k2]'hi3bcf4).seq)] aD fun f82 W83 h82_ st84 hb85 => (aB (aJ (h82_.at 64) (fun h86p => ?_) (fun h86p => ?_)))
   ·have h86 := decide_eq_true h86p
    refine wp_seq (aA (sg (aE (aB (wr (aL results118 rfl ?_))))))
    exact ⟨(fB (by unfold cA; rw [dY (by rintro ⟨hz1, hz2, hz3, hz4, hz5, hz6, hz7, hz8, hz9⟩; exact nB (k := k2) aC (of_decide_eq_true h86) hz7)])), st84.bare⟩
   have h86 := decide_eq_false h86p
   refine wp_skip (aA (rn st84 3 h82_ [] [(65, v57), (67, I ((y.shelf).flatten[k2]'hi3bcf4).seq)] [qb 0 rfl 1] aD fun f90 h90_ => (sg (aW (cs := [I ((y.shelf).flatten[k2]'hi3bcf4).seq]) (e := 3) (fQ (h90_.at 67) kM) (bT eZ _ _ rfl rfl aV) st84 ?_)))); intro b91 W92 hb93 st94
   refine sg (cU (ys := [((y.shelf).flatten[k2]'hi3bcf4).seq]) eZ (h90_.at 65) rfl rfl st94.f2 (Elems.ic (by simp only [I64]; omega) Elems.i0) (by unfold maxLen; omega) aC ?_); intro v97 W98 st99
   refine sg (aF (v := v97) rfl (aB (aA (sg (bN (h90_.at 48) rfl eC (sg (aG (v := I ((k2 : Int) + 1)) rfl (aB ?_))))))))
   exact ⟨_, y.shelf.flatten.length - (k2 + 1), aC, rfl, k2 + 1, v97, aC, (pF aC hS2 aC), (lT aC hS3 (of_decide_eq_false h86)), rfl, (h90_.put.put.put.put.put.to aD), (by rw [oS _ aC]; exact st99.f3.f3.f2.d3)⟩
  have h81p := dR (aN h81)
  refine rc st78 13 hA65.put.put.put.put [] [(64, .bool true)] [qb 0 rfl 1, qb 3 rfl 1, qsb y.seq 1, qc (args := [I ((y.shelf).flatten[k2]'hi3bcf4).seq, I 1, I (y.seq - 1)]) (v := .bool (inB ((y.shelf).flatten[k2]'hi3bcf4).seq 1 (y.seq - 1))) func92 rfl (fun W s b => cV W ((y.shelf).flatten[k2]'hi3bcf4).seq 1 (y.seq - 1)), qk h81] aD fun f108 W109 h108_ st110 hb111 => (aB (lJ (h108_.at 64) rfl (wp_seq (aA (sg (aE (aB (wr (aL results118 rfl ?_)))))))))
  exact ⟨(fB (by unfold cA; rw [dY (by rintro ⟨hz1, hz2, hz3, hz4, hz5, hz6, hz7, hz8, hz9⟩; have hq := hz6 _ (getElem_mem (n := k2) aC); omega)])), st110.bare⟩
 refine wp_exit (wp_seq (wp_seq (aA ?_)))
 have hS2 : ∀ e ∈ y.shelf.flatten, 1 ≤ e.seq ∧ e.seq ≤ y.seq - 1 := by rw [show k2 = y.shelf.flatten.length by omega, take_length] at hS2; exact hS2
 have hS3 : (y.shelf.flatten.map (·.seq)).Nodup := by rw [show k2 = y.shelf.flatten.length by omega, take_length] at hS3; exact hS3
 refine rn st64 4 hA65.put [] [(72, v9_1), (73, I (y.runs.length : Int)), (74, I 0)] [qb 2 rfl 3, ql h9_1] aD fun f115 h115_ => (aB (wp_block (aP (fun (m : Nat) (f : Nat → Value) (W : World) => ∃ (k3 : Nat), k3 ≤ y.runs.length ∧ (∀ j, j < k3 → mH y j) ∧ m = y.runs.length - k3 ∧ Ag [(1, pt_ b1), (5, v45), (72, v9_1), (73, I (y.runs.length : Int)), (74, I (k3 : Int))] f ∧ St w W ([Res.row (α := Int) 3 v57 ((y.shelf.flatten.take k2).map (·.seq)) [], Res.own (α := List Entry) v45 (y.shelf).flatten fp45, Res.bx b1 [I y.now, I y.seq, v9_0, v9_1] 27])) (y.runs.length - 0) ?_ ?_)))
 ·exact ⟨0, aC, (fun j hj => absurd hj (Nat.not_lt_zero j)), rfl, (h115_.to aD), st64⟩
 intro m116 f117 W118 hJ119
 obtain ⟨k3, hk3, hS4, rfl, hA121, st120⟩ := hJ119
 refine wp_seq (aA (sg (bL (hA121.at 74) (hA121.at 73) (aB (wp_seq (aJ rfl (fun h124p => ?_) (fun h124p => ?_)))))))
 ·refine wp_skip (wp_seq (wp_block (wp_seq (aA ?_))))
  have hi7dcb8 : k3 < y.runs.length := aC
  obtain ⟨b126, o126, cs126, f126, hp126, hr126, hc126, hm126⟩ := idx h9_1 (i := k3) hi7dcb8
  refine rn st120 3 hA121.put [] [(76, I (k3 : Int)), (78, .agg cs126.toArray)] [qx hp126, qrw hr126 (Shape.len hc126)] aD fun f127 h127_ => (sg (bO aE3 st120 ?_)); intro b128 W129 hb130 st131
  refine sg (aF (h127_.at 76) (sgn (bC (cs := cs126) pV hc126 rfl (h127_.at 78) st131 rfl ?_))); intro W135 st136
  refine aB (wp_seq (aA ?_))
  rcases bd (!(eY (y.runs[k3]'hi7dcb8))) with h138 | h138
  ·have hk139 := hc126
   obtain ⟨v139_0, v139_1, g139_0, g139_1, rfl, hok139, h139_0, h139_1, rfl⟩ := hk139
   rcases Decidable.em ((gU y (y.runs[k3]'hi7dcb8).id) = (k3 : Int)) with h140p | h140p
   ·have h140 := gQ h140p
    refine rc st136 15 h127_.put.put [] [(90, .bool false), (91, .agg #[I y.now, I y.seq, v9_0, v9_1]), (92, .agg #[I (y.runs[k3]'hi7dcb8).id, I (y.runs[k3]'hi7dcb8).plan.prio, I (y.runs[k3]'hi7dcb8).plan.most, I (y.runs[k3]'hi7dcb8).plan.wait, I (y.runs[k3]'hi7dcb8).plan.tasks, v139_0, I (y.runs[k3]'hi7dcb8).state, v139_1]), (93, v45)] [qb 0 rfl 0, qc (args := [.agg #[I (y.runs[k3]'hi7dcb8).id, I (y.runs[k3]'hi7dcb8).plan.prio, I (y.runs[k3]'hi7dcb8).plan.most, I (y.runs[k3]'hi7dcb8).plan.wait, I (y.runs[k3]'hi7dcb8).plan.tasks, v139_0, I (y.runs[k3]'hi7dcb8).state, v139_1]]) (v := .bool (eY (y.runs[k3]'hi7dcb8))) func231 rfl (fun W s b => zI W (aX hc126 s.below)), qk h138, qb 3 rfl 0, qb 0 rfl 0, qc (args := [.agg #[I y.now, I y.seq, v9_0, v9_1], I (y.runs[k3]'hi7dcb8).id]) (v := I (gU y (y.runs[k3]'hi7dcb8).id)) func232 rfl (fun W s b => wW W (aX hc s.below) (y.runs[k3]'hi7dcb8).id aC), qk h140, qb 3 rfl 0, qb 0 rfl 0] aD fun f141 W142 h141_ st143 hb144 => ?_
    have hwt := nI (bS h138)
    refine rc st143 3 h141_ [] [(96, .bool (!(eQ y.now (y.runs[k3]'hi7dcb8) (y.shelf).flatten)))] [qc (args := [.agg #[I y.now, I y.seq, v9_0, v9_1], .agg #[I (y.runs[k3]'hi7dcb8).id, I (y.runs[k3]'hi7dcb8).plan.prio, I (y.runs[k3]'hi7dcb8).plan.most, I (y.runs[k3]'hi7dcb8).plan.wait, I (y.runs[k3]'hi7dcb8).plan.tasks, v139_0, I (y.runs[k3]'hi7dcb8).state, v139_1], v45]) (v := .bool (eQ y.now (y.runs[k3]'hi7dcb8) (y.shelf).flatten)) func233 rfl (fun W s b => RunsOkI W (aX hc s.below) (aX hc126 s.below) (aS (s.get 2 rfl)) aC aC aC), .o] aD fun f146 W147 h146_ st148 hb149 => (aB (bU (h146_.at 96) (fun h150 => ?_) (fun h150 => ?_)))
    ·refine wp_seq (aA (sg (aE (aB (wr (aL results118 rfl ?_))))))
     exact ⟨(fB (by unfold cA; rw [dY (by rintro ⟨hz1, hz2, hz3, hz4, hz5, hz6, hz7, hz8, hz9⟩; have hq := (hz8 k3 aC aC).2.2; rw [(aN h150)] at hq; cases hq)])), st148.bare⟩
    refine wp_skip (aA (sg (bN (h146_.at 74) rfl eC (sg (aG (v := I ((k3 : Int) + 1)) rfl (aB ?_))))))
    have st155 := st148.f3
    exact ⟨_, y.runs.length - (k3 + 1), aC, rfl, k3 + 1, aC, (fun j hj => by rcases Nat.lt_succ_iff_lt_or_eq.1 hj with h1 | rfl; exact hS4 j h1; exact fun _ => ⟨(bS h138), by omega, (bS h150)⟩), rfl, (h146_.put.put.to aD), st155.f3.f3.d3⟩
   have h140 := gP h140p
   refine rc st136 15 h127_.put.put [] [(90, .bool true)] [qb 0 rfl 0, qc (args := [.agg #[I (y.runs[k3]'hi7dcb8).id, I (y.runs[k3]'hi7dcb8).plan.prio, I (y.runs[k3]'hi7dcb8).plan.most, I (y.runs[k3]'hi7dcb8).plan.wait, I (y.runs[k3]'hi7dcb8).plan.tasks, v139_0, I (y.runs[k3]'hi7dcb8).state, v139_1]]) (v := .bool (eY (y.runs[k3]'hi7dcb8))) func231 rfl (fun W s b => zI W (aX hc126 s.below)), qk h138, qb 3 rfl 0, qb 0 rfl 0, qc (args := [.agg #[I y.now, I y.seq, v9_0, v9_1], I (y.runs[k3]'hi7dcb8).id]) (v := I (gU y (y.runs[k3]'hi7dcb8).id)) func232 rfl (fun W s b => wW W (aX hc s.below) (y.runs[k3]'hi7dcb8).id aC), qk h140] aD fun f159 W160 h159_ st161 hb162 => ?_
   have hwt := nI (bS h138)
   refine rn st161 3 h159_ [] [(96, .bool true)] [] aD fun f164 h164_ => (aB (lJ (h164_.at 96) rfl (wp_seq (aA (sg (aE (aB (wr (aL results118 rfl ?_)))))))))
   exact ⟨(fB (by unfold cA; rw [dY (by rintro ⟨hz1, hz2, hz3, hz4, hz5, hz6, hz7, hz8, hz9⟩; have hq := (hz8 k3 aC aC).2.1; omega)])), st161.bare⟩
  refine rc st136 15 h127_.put.put [] [(90, .bool true)] [qw 0 rfl (Shape.len hc126), qc (args := [.agg cs126.toArray]) (v := .bool (eY (y.runs[k3]'hi7dcb8))) func231 rfl (fun W s b => zI W (aX hc126 s.below)), qk h138] aD fun f167 W168 h167_ st169 hb170 => (rn st169 3 h167_ [] [(96, .bool true)] [] aD fun f172 h172_ => (aB (lJ (h172_.at 96) rfl (wp_seq (aA (sg (aE (aB (wr (aL results118 rfl ?_))))))))))
  exact ⟨(fB (by unfold cA; rw [dY (by rintro ⟨hz1, hz2, hz3, hz4, hz5, hz6, hz7, hz8, hz9⟩; have hq := (hz8 k3 aC aC).1; rw [(aN h138)] at hq; cases hq)])), st169.bare⟩
 refine wp_exit (wp_seq (aA ?_))
 have hS4 : ∀ j, j < y.runs.length → mH y j := by rw [show k3 = y.runs.length by omega] at hS4; exact hS4
 refine rc st120 4 hA121.put [] [(2, .bool (decide ((hX y) ≤ 40)))] [qb 2 rfl 0, qc func234 rfl (fun W s b => SlotsOfI W (aX hc s.below) aC), .o] aD fun f176 W177 h176_ st178 hb179 => (aB ?_)
 rcases nem ((hX y) ≤ 40) with h180p | h180p
 ·have h180 := decide_eq_false h180p
  refine wr (aL results118 ((h176_.at 2).trans (congrArg Value.bool h180)) ?_)
  exact ⟨(fB (by unfold cA; rw [dY (by rintro ⟨hz1, hz2, hz3, hz4, hz5, hz6, hz7, hz8, hz9⟩; omega)])), st178.bare⟩
 have h180 := decide_eq_true h180p
 refine wr (aL results118 ((h176_.at 2).trans (congrArg Value.bool h180)) ?_)
 exact ⟨(fB (by unfold cA; rw [lQ ⟨by omega, by omega, by omega, by omega, hS1, hS2, hS3, hS4, by omega⟩])), st178.bare⟩
theorem ShelvesS {y : Yard} (hc : Shape.C w cs y fp) (hsq : 1 ≤ y.seq ∧ y.seq ≤ 1000000000) (hw : y.wt ≤ 1048576) :
  Calls prog 289 #[.agg cs.toArray] w (rB_ (pB (y.shelf.length = 4 ∧ (∀ l ∈ y.shelf, dN l = true) ∧ (∀ e ∈ y.shelf.flatten, 1 ≤ e.seq ∧ e.seq ≤ y.seq - 1) ∧ (y.shelf.flatten.map (·.seq)).Nodup)) w) := by
 have hyr : y.runs.length ≤ y.wt := by unfold Yard.wt wtL; omega
 have hys : y.shelf.length ≤ y.wt := by unfold Yard.wt wtL; omega
 have hfw := oV y
 refine dS func289 rfl ntmps289 aV (wp_seq (aA (sg (aI (cs := cs) rfl (St.start w) ?_)))); intro b1 W2 hb3 st4
 refine sg (aE (aB (wp_seq (wp_seq (aA ?_)))))
 have hk9 := hc
 obtain ⟨v9_0, v9_1, g9_0, g9_1, rfl, hok9, h9_0, h9_1, rfl⟩ := hk9
 refine rn st4 4 Ag.nil.put.put.put [] [(10, .bool (!decide ((y.shelf.length : Int) = 4)))] [qb 0 rfl 2, ql h9_0, .o] aD fun f10 h10_ => (aB (bH (h10_.at 10) (fun h11p => ?_) (fun h11p => ?_)))
 ·refine wp_seq (aA (sg (aE (aB (wr (aL results289 rfl ?_))))))
  exact ⟨(fB (by rw [dY (by rintro ⟨hz3, hz5, hz6, hz7⟩; omega)])), st4.bare⟩
 refine wp_skip (wp_seq (wp_seq (aA (sg (aE (aB (wp_block (aP (fun (m : Nat) (f : Nat → Value) (W : World) => ∃ (k : Nat), k ≤ y.shelf.length ∧ (∀ l ∈ y.shelf.take k, dN l = true) ∧ m = y.shelf.length - k ∧ Ag [(1, pt_ b1), (3, I (k : Int))] f ∧ St w W ([Res.bx b1 [I y.now, I y.seq, v9_0, v9_1] 27])) (y.shelf.length - 0) ?_ ?_))))))))
 ·exact ⟨0, aC, (by simp), rfl, (h10_.put.to aD), st4⟩
 intro m16 f17 W18 hJ19
 obtain ⟨k, hk, hS1, rfl, hA21, st20⟩ := hJ19
 refine wp_seq (wp_seq (aA (rn st20 5 hA21 [] [(15, .bool (decide ((k : Int) < (y.shelf.length : Int))))] [qb 0 rfl 2, ql h9_0, .o] aD fun f23 h23_ => (aB (aJ (h23_.at 15) (fun h24p => ?_) (fun h24p => ?_))))))
 ·refine wp_skip (wp_seq (wp_block (wp_seq (aA ?_))))
  have hi019db : k < y.shelf.length := aC
  obtain ⟨b26, o26, cs26, f26, hp26, hr26, hc26, hm26⟩ := idx h9_0 (i := k) hi019db
  have hk26 := hc26
  obtain ⟨v27, rfl, h28⟩ := hk26
  refine rc st20 7 h23_ [] [(24, .bool (!(dN (y.shelf[k]'hi019db))))] [qb 0 rfl 2, qx hp26, qr hr26 0, qc (args := [v27]) (v := .bool (dN (y.shelf[k]'hi019db))) func371 rfl (fun W s b => ShelfOkS W (h28.below s.below)), .o] aD fun f29 W30 h29_ st31 hb32 => (aB (bU (h29_.at 24) (fun h33 => ?_) (fun h33 => ?_)))
  ·refine wp_seq (aA (sg (aE (aB (wr (aL results289 rfl ?_))))))
   exact ⟨(fB (by rw [dY (by rintro ⟨hz3, hz5, hz6, hz7⟩; have hq := hz5 _ (getElem_mem (n := k) aC); rw [(aN h33)] at hq; cases hq)])), st31.bare⟩
  refine wp_skip (aA (rn st31 3 h29_ [3] [(3, I ((k : Int) + 1))] [qad (k : Int) 1] aD fun f37 h37_ => (aB ?_)))
  exact ⟨_, y.shelf.length - (k + 1), aC, rfl, k + 1, aC, (pF aC hS1 (bS h33)), rfl, (h37_.to aD), st31⟩
 refine wp_exit (wp_seq (aA ?_))
 have hS1 : ∀ l ∈ y.shelf, dN l = true := by rw [show k = y.shelf.length by omega, take_length] at hS1; exact hS1
 refine sg (cE (cs := [I y.now, I y.seq, v9_0, v9_1]) fM rfl (h23_.at 1) (st20.get 0 rfl) rfl rfl (sg (dD func292 rfl rfl ((yG W18 (aX hc st20.below) aC).mono ?_)))); rintro _ W42 ⟨v40, fp40, rfl, hk43⟩; refine ⟨_, rfl, ?_⟩
 have st44 := St.call st20 hk43
 refine sg (aF (v := v40) rfl (aB (wp_seq (wp_seq (aA (sg (aE (aB (wp_block (aP (fun (m : Nat) (f : Nat → Value) (W : World) => ∃ (k2 : Nat), k2 ≤ y.shelf.flatten.length ∧ (∀ e ∈ y.shelf.flatten.take k2, 1 ≤ e.seq ∧ e.seq ≤ y.seq - 1) ∧ ((y.shelf.flatten.take k2).map (·.seq)).Nodup ∧ m = y.shelf.flatten.length - k2 ∧ Ag [(1, pt_ b1), (4, v40), (5, I (k2 : Int))] f ∧ St w W ([Res.own (α := List Entry) v40 (y.shelf).flatten fp40, Res.bx b1 [I y.now, I y.seq, v9_0, v9_1] 27])) (y.shelf.flatten.length - 0) ?_ ?_))))))))))
 ·exact ⟨0, aC, (by simp), (by simp), rfl, (h23_.put.put.put.put.to aD), st44⟩
 intro m50 f51 W52 hJ53
 obtain ⟨k2, hk2, hS2, hS3, rfl, hA55, st54⟩ := hJ53
 refine wp_seq (wp_seq (aA (rn st54 4 hA55 [] [(30, .bool (decide ((k2 : Int) < ((y.shelf).flatten.length : Int))))] [ql (aS (st54.get 0 rfl)), .o] aD fun f57 h57_ => (aB (aJ (h57_.at 30) (fun h58p => ?_) (fun h58p => ?_))))))
 ·refine wp_skip (wp_seq (wp_block (wp_seq (wp_seq ?_))))
  have hi3bcf4 : k2 < (y.shelf).flatten.length := aC
  obtain ⟨b60, o60, cs60, f60, hp60, hr60, hc60, hm60⟩ := idx (aS (st54.get 0 rfl)) (i := k2) hi3bcf4
  have hk61 := hc60
  obtain ⟨he61, rfl, hok61⟩ := hk61
  have he61 : _ = [I ((y.shelf).flatten[k2]'hi3bcf4).prio, I ((y.shelf).flatten[k2]'hi3bcf4).seq, I ((y.shelf).flatten[k2]'hi3bcf4).run, I ((y.shelf).flatten[k2]'hi3bcf4).task] := he61
  subst he61
  refine rd st54 h57_ [] [(42, .bool (!(inB ((y.shelf).flatten[k2]'hi3bcf4).seq 1 (y.seq - 1))))] [qx hp60, qn hr60 1, qb 1 rfl 1, qsb y.seq 1, qc (args := [I ((y.shelf).flatten[k2]'hi3bcf4).seq, I 1, I (y.seq - 1)]) (v := .bool (inB ((y.shelf).flatten[k2]'hi3bcf4).seq 1 (y.seq - 1))) func138 rfl (fun W s b => bW W ((y.shelf).flatten[k2]'hi3bcf4).seq 1 (y.seq - 1)), .o] aD aD fun f62 W63 h62_ st64 hb65 => (bU (h62_.at 42) (fun h66 => ?_) (fun h66 => ?_))
  ·have h66p := dR (aN h66)
   refine wp_seq (aA (sg (aE (aB (wr (aL results289 rfl ?_))))))
   exact ⟨(fB (by rw [dY (by rintro ⟨hz3, hz5, hz6, hz7⟩; have hq := hz6 _ (getElem_mem (n := k2) aC); omega)])), st64.bare⟩
  have h66p := inB_iff'.1 (bS h66)
  refine wp_skip (wp_seq (aA (sg (aE (aB (wp_block (aP (fun (m : Nat) (f : Nat → Value) (W : World) => ∃ (j : Nat), k2 < y.shelf.flatten.length ∧ j ≤ k2 ∧ (y.shelf.flatten[k2]'(by omega)).seq ∉ (y.shelf.flatten.take j).map (·.seq) ∧ m = k2 - j ∧ Ag [(1, pt_ b1), (4, v40), (5, I (k2 : Int)), (6, I (j : Int))] f ∧ St w W ([Res.own (α := List Entry) v40 (y.shelf).flatten fp40, Res.bx b1 [I y.now, I y.seq, v9_0, v9_1] 27])) (k2 - 0) ?_ ?_)))))))
  ·exact ⟨0, aC, aC, (by simp), rfl, (h62_.put.to aD), st64⟩
  intro m71 f72 W73 hJ74
  obtain ⟨j, hk2b, hj, hJ, rfl, hA76, st75⟩ := hJ74
  refine wp_seq (wp_seq (aA (rn st75 3 hA76 [] [(45, .bool (decide ((j : Int) < (k2 : Int))))] [.o] aD fun f78 h78_ => (aB (aJ (h78_.at 45) (fun h79p => ?_) (fun h79p => ?_))))))
  ·refine wp_skip (wp_seq (wp_block (wp_seq ?_)))
   have hi2a04a : j < (y.shelf).flatten.length := aC
   obtain ⟨b81, o81, cs81, f81, hp81, hr81, hc81, hm81⟩ := idx (aS (st75.get 0 rfl)) (i := j) hi2a04a
   have hk82 := hc81
   obtain ⟨he82, rfl, hok82⟩ := hk82
   have he82 : _ = [I ((y.shelf).flatten[j]'hi2a04a).prio, I ((y.shelf).flatten[j]'hi2a04a).seq, I ((y.shelf).flatten[j]'hi2a04a).run, I ((y.shelf).flatten[j]'hi2a04a).task] := he82
   subst he82
   have hi3bcf4 : k2 < (y.shelf).flatten.length := aC
   obtain ⟨b83, o83, cs83, f83, hp83, hr83, hc83, hm83⟩ := idx (aS (st75.get 0 rfl)) (i := k2) hi3bcf4
   have hk84 := hc83
   obtain ⟨he84, rfl, hok84⟩ := hk84
   have he84 : _ = [I ((y.shelf).flatten[k2]'hi3bcf4).prio, I ((y.shelf).flatten[k2]'hi3bcf4).seq, I ((y.shelf).flatten[k2]'hi3bcf4).run, I ((y.shelf).flatten[k2]'hi3bcf4).task] := he84
   subst he84
   refine rd st75 h78_ [] [(58, .bool (decide (((y.shelf).flatten[j]'hi2a04a).seq = ((y.shelf).flatten[k2]'hi3bcf4).seq)))] [qx hp81, qn hr81 1, qx hp83, qn hr83 1, .o] aD aD fun f85 W86 h85_ st87 hb88 => (aJ (h85_.at 58) (fun h89p => ?_) (fun h89p => ?_))
   ·refine wp_seq (aA (sg (aE (aB (wr (aL results289 rfl ?_))))))
    exact ⟨(fB (by rw [dY (by rintro ⟨hz3, hz5, hz6, hz7⟩; exact nB (k := k2) aC (by rw [← h89p]; exact mem_map_of_mem (qP aC aC)) hz7)])), st87.bare⟩
   refine wp_skip (aA (rn st87 3 h85_ [6] [(6, I ((j : Int) + 1))] [qad (j : Int) 1] aD fun f93 h93_ => (aB ?_)))
   exact ⟨_, k2 - (j + 1), aC, rfl, j + 1, aC, aC, (by rw [oS _ aC, mem_append]; rintro (hq | hq); exact hJ hq; rw [mem_singleton] at hq; exact h89p hq.symm), rfl, (h93_.to aD), st87⟩
  refine wp_exit (aA (rn st75 3 h78_ [5] [(5, I ((k2 : Int) + 1))] [qad (k2 : Int) 1] aD fun f95 h95_ => (aB ?_)))
  exact ⟨_, y.shelf.flatten.length - (k2 + 1), aC, rfl, k2 + 1, aC, (pF aC hS2 aC), (lT aC hS3 (by rw [show j = k2 by omega] at hJ; exact hJ)), rfl, (h95_.to aD), st75⟩
 refine wp_exit (wp_seq (aA (sg (aE (aB (wr (aL results289 rfl ?_)))))))
 have hS2 : ∀ e ∈ y.shelf.flatten, 1 ≤ e.seq ∧ e.seq ≤ y.seq - 1 := by rw [show k2 = y.shelf.flatten.length by omega, take_length] at hS2; exact hS2
 have hS3 : (y.shelf.flatten.map (·.seq)).Nodup := by rw [show k2 = y.shelf.flatten.length by omega, take_length] at hS3; exact hS3
 exact ⟨(fB (by rw [lQ ⟨by omega, hS1, hS2, hS3⟩])), st54.bare⟩
theorem YardOkS {y : Yard} (hc : Shape.C w cs y fp) (hw : y.wt ≤ 1048576) :
  Calls prog 185 #[.agg cs.toArray] w (rB_ (cA y) w) := by
 have hyr : y.runs.length ≤ y.wt := by unfold Yard.wt wtL; omega
 have hys : y.shelf.length ≤ y.wt := by unfold Yard.wt wtL; omega
 have hfw := oV y
 refine dS func185 rfl ntmps185 aV (wp_seq (aA (sg (aI (cs := cs) rfl (St.start w) ?_)))); intro b1 W2 hb3 st4
 refine sg (aE (aB (wp_seq (wp_seq (aA ?_)))))
 have hk9 := hc
 obtain ⟨v9_0, v9_1, g9_0, g9_1, rfl, hok9, h9_0, h9_1, rfl⟩ := hk9
 rcases bd (!(inB y.now 0 999999980)) with h10 | h10
 ·have h10p := inB_iff'.1 (bS h10)
  rcases bd (!(inB y.seq 1 1000000000)) with h11 | h11
  ·have h11p := inB_iff'.1 (bS h11)
   rcases nem (8 < (y.runs.length : Int)) with h12p | h12p
   ·have h12 := decide_eq_false h12p
    refine rc st4 21 Ag.nil.put.put.put [] [(26, .bool (!(pB (y.shelf.length = 4 ∧ (∀ l ∈ y.shelf, dN l = true) ∧ (∀ e ∈ y.shelf.flatten, 1 ≤ e.seq ∧ e.seq ≤ y.seq - 1) ∧ (y.shelf.flatten.map (·.seq)).Nodup))))] [qb 0 rfl 0, qc func138 rfl (fun W s b => bW W y.now 0 999999980), qk h10, qb 0 rfl 1, qc func138 rfl (fun W s b => bW W y.seq 1 1000000000), qk h11, qb 0 rfl 3, ql h9_1, qk h12, qb 0 rfl 0, qc func289 rfl (fun W s b => ShelvesS W (aX hc s.below) aC aC), .o] aD fun f13 W14 h13_ st15 hb16 => (aB (bU (h13_.at 26) (fun h17 => ?_) (fun h17 => ?_)))
    ·refine wp_seq (aA (sg (aE (aB (wr (aL results185 rfl ?_))))))
     exact ⟨(fB (by unfold cA; rw [dY (by rintro ⟨hz1, hz2, hz3, hz4, hz5, hz6, hz7, hz8, hz9⟩; exact yR (aN h17) ⟨hz3, hz5, hz6, hz7⟩)])), st15.bare⟩
    refine wp_skip (wp_seq (wp_seq (aA ?_)))
    have hSH := pB_iff.1 (bS h17)
    refine sg (aE (aB (wp_block (aP (fun (m : Nat) (f : Nat → Value) (W : World) => ∃ (k3 : Nat), k3 ≤ y.runs.length ∧ (∀ j, j < k3 → ∀ h : j < y.runs.length, eY y.runs[j] = true ∧ gU y y.runs[j].id = (j : Int)) ∧ m = y.runs.length - k3 ∧ Ag [(1, pt_ b1), (3, I (k3 : Int))] f ∧ St w W ([Res.bx b1 [I y.now, I y.seq, v9_0, v9_1] 27])) (y.runs.length - 0) ?_ ?_))))
    ·exact ⟨0, aC, (fun j hj => absurd hj (Nat.not_lt_zero j)), rfl, (h13_.put.to aD), st15⟩
    intro m22 f23 W24 hJ25
    obtain ⟨k3, hk3, hS3, rfl, hA27, st26⟩ := hJ25
    refine wp_seq (wp_seq (aA (rn st26 5 hA27 [] [(31, .bool (decide ((k3 : Int) < (y.runs.length : Int))))] [qb 0 rfl 3, ql h9_1, .o] aD fun f29 h29_ => (aB (aJ (h29_.at 31) (fun h30p => ?_) (fun h30p => ?_))))))
    ·refine wp_skip (wp_seq (wp_block (wp_seq ?_)))
     have hi7dcb8 : k3 < y.runs.length := aC
     rcases bd (!(eY (y.runs[k3]'hi7dcb8))) with h34 | h34
     ·have hi7dcb8 : k3 < y.runs.length := aC
      obtain ⟨b36, o36, cs36, f36, hp36, hr36, hc36, hm36⟩ := idx h9_1 (i := k3) hi7dcb8
      have hk37 := hc36
      obtain ⟨v37_0, v37_1, g37_0, g37_1, rfl, hok37, h37_0, h37_1, rfl⟩ := hk37
      refine rd st26 h29_ [] [(52, .bool (!decide ((gU y (y.runs[k3]'hi7dcb8).id) = (k3 : Int))))] [qb 0 rfl 3, qx hp36, qr hr36 0, qc (args := [.agg #[I (y.runs[k3]'hi7dcb8).id, I (y.runs[k3]'hi7dcb8).plan.prio, I (y.runs[k3]'hi7dcb8).plan.most, I (y.runs[k3]'hi7dcb8).plan.wait, I (y.runs[k3]'hi7dcb8).plan.tasks, v37_0, I (y.runs[k3]'hi7dcb8).state, v37_1]]) (v := .bool (eY (y.runs[k3]'hi7dcb8))) func290 rfl (fun W s b => aI8 W (aX hc36 s.below)), qk h34, qb 0 rfl 0, qb 0 rfl 3, qx hp36, qr hr36 0, qc (args := [.agg #[I y.now, I y.seq, v9_0, v9_1], I (y.runs[k3]'hi7dcb8).id]) (v := I (gU y (y.runs[k3]'hi7dcb8).id)) func291 rfl (fun W s b => zJ W (aX hc s.below) (y.runs[k3]'hi7dcb8).id aC), .o] aD aD fun f38 W39 h38_ st40 hb41 => (bH (h38_.at 52) (fun h42p => ?_) (fun h42p => ?_))
      ·refine wp_seq (aA (sg (aE (aB (wr (aL results185 rfl ?_))))))
       exact ⟨(fB (by unfold cA; rw [dY (by rintro ⟨hz1, hz2, hz3, hz4, hz5, hz6, hz7, hz8, hz9⟩; have hq := (hz8 k3 aC aC).2.1; omega)])), st40.bare⟩
      refine wp_skip (aA (sg (aG (h38_.at 3) (sg (bN rfl rfl eC (sg (aF (v := I ((k3 : Int) + 1)) rfl (aB ?_))))))))
      exact ⟨_, y.runs.length - (k3 + 1), aC, rfl, k3 + 1, aC, (fun j hj => by rcases Nat.lt_succ_iff_lt_or_eq.1 hj with h1 | rfl; exact hS3 j h1; exact fun _ => ⟨(bS h34), by omega⟩), rfl, (h38_.put.put.put.to aD), st40⟩
     have hi7dcb8 : k3 < y.runs.length := aC
     obtain ⟨b50, o50, cs50, f50, hp50, hr50, hc50, hm50⟩ := idx h9_1 (i := k3) hi7dcb8
     have hk51 := hc50
     obtain ⟨v51_0, v51_1, g51_0, g51_1, rfl, hok51, h51_0, h51_1, rfl⟩ := hk51
     refine rd st26 h29_ [] [(52, .bool true)] [qb 0 rfl 3, qx hp50, qr hr50 0, qc (args := [.agg #[I (y.runs[k3]'hi7dcb8).id, I (y.runs[k3]'hi7dcb8).plan.prio, I (y.runs[k3]'hi7dcb8).plan.most, I (y.runs[k3]'hi7dcb8).plan.wait, I (y.runs[k3]'hi7dcb8).plan.tasks, v51_0, I (y.runs[k3]'hi7dcb8).state, v51_1]]) (v := .bool (eY (y.runs[k3]'hi7dcb8))) func290 rfl (fun W s b => aI8 W (aX hc50 s.below)), qk h34] aD aD fun f52 W53 h52_ st54 hb55 => (lJ (h52_.at 52) rfl (wp_seq (aA (sg (aE (aB (wr (aL results185 rfl ?_))))))))
     exact ⟨(fB (by unfold cA; rw [dY (by rintro ⟨hz1, hz2, hz3, hz4, hz5, hz6, hz7, hz8, hz9⟩; have hq := (hz8 k3 aC aC).1; rw [(aN h34)] at hq; cases hq)])), st54.bare⟩
    refine wp_exit (wp_seq (aA (sg (cE (cs := [I y.now, I y.seq, v9_0, v9_1]) fM rfl (h29_.at 1) (st26.get 0 rfl) rfl rfl (sg (dD func292 rfl rfl ((yG W24 (aX hc st26.below) aC).mono ?_))))))); rintro _ W62 ⟨v60, fp60, rfl, hk63⟩; refine ⟨_, rfl, ?_⟩
    have st64 := St.call st26 hk63
    refine sg (aF (v := v60) rfl (aB (wp_seq (wp_seq (aA (sg (aE (aB (wp_block (aP (fun (m : Nat) (f : Nat → Value) (W : World) => ∃ (k4 : Nat), k4 ≤ y.runs.length ∧ (∀ j, j < k4 → mH y j) ∧ m = y.runs.length - k4 ∧ Ag [(1, pt_ b1), (4, v60), (5, I (k4 : Int))] f ∧ St w W ([Res.own (α := List Entry) v60 (y.shelf).flatten fp60, Res.bx b1 [I y.now, I y.seq, v9_0, v9_1] 27])) (y.runs.length - 0) ?_ ?_))))))))))
    ·exact ⟨0, aC, (fun j hj => absurd hj (Nat.not_lt_zero j)), rfl, (h29_.put.put.put.put.to aD), st64⟩
    intro m70 f71 W72 hJ73
    obtain ⟨k4, hk4, hS4, rfl, hA75, st74⟩ := hJ73
    refine wp_seq (wp_seq (aA (rn st74 5 hA75 [] [(59, .bool (decide ((k4 : Int) < (y.runs.length : Int))))] [qb 1 rfl 3, ql h9_1, .o] aD fun f77 h77_ => (aB (aJ (h77_.at 59) (fun h78p => ?_) (fun h78p => ?_))))))
    ·refine wp_skip (wp_seq (wp_block (wp_seq ?_)))
     have hwt := nI (hS3 k4 aC aC).1
     have hi68dc9 : k4 < y.runs.length := aC
     obtain ⟨b80, o80, cs80, f80, hp80, hr80, hc80, hm80⟩ := idx h9_1 (i := k4) hi68dc9
     refine rd st74 h77_ [] [(70, .bool (!(eQ y.now (y.runs[k4]'hi68dc9) (y.shelf).flatten)))] [qb 1 rfl 0, qb 1 rfl 3, qx hp80, qrw hr80 (Shape.len hc80), qc (args := [.agg #[I y.now, I y.seq, v9_0, v9_1], .agg cs80.toArray, v60]) (v := .bool (eQ y.now (y.runs[k4]'hi68dc9) (y.shelf).flatten)) func293 rfl (fun W s b => RunsOkS W (aX hc s.below) (aX hc80 s.below) (aS (s.get 0 rfl)) aC aC aC), .o] aD aD fun f81 W82 h81_ st83 hb84 => (bU (h81_.at 70) (fun h85 => ?_) (fun h85 => ?_))
     ·refine wp_seq (aA (sg (aE (aB (wr (aL results185 rfl ?_))))))
      exact ⟨(fB (by unfold cA; rw [dY (by rintro ⟨hz1, hz2, hz3, hz4, hz5, hz6, hz7, hz8, hz9⟩; have hq := (hz8 k4 aC aC).2.2; rw [(aN h85)] at hq; cases hq)])), st83.bare⟩
     refine wp_skip (aA (rn st83 3 h81_ [5] [(5, I ((k4 : Int) + 1))] [qad (k4 : Int) 1] aD fun f89 h89_ => (aB ?_)))
     exact ⟨_, y.runs.length - (k4 + 1), aC, rfl, k4 + 1, aC, (fun j hj => by rcases Nat.lt_succ_iff_lt_or_eq.1 hj with h1 | rfl; exact hS4 j h1; exact fun _ => ⟨(hS3 _ aC aC).1, (hS3 _ aC aC).2, (bS h85)⟩), rfl, (h89_.to aD), st83⟩
    refine wp_exit (wp_seq (aA ?_))
    have hS4 : ∀ j, j < y.runs.length → mH y j := by rw [show k4 = y.runs.length by omega] at hS4; exact hS4
    refine rc st74 4 h77_ [] [(2, .bool (decide ((hX y) ≤ 40)))] [qb 1 rfl 0, qc func294 rfl (fun W s b => SlotsOfS W (aX hc s.below) aC), .o] aD fun f91 W92 h91_ st93 hb94 => (aB ?_)
    rcases nem ((hX y) ≤ 40) with h95p | h95p
    ·have h95 := decide_eq_false h95p
     refine wr (aL results185 ((h91_.at 2).trans (congrArg Value.bool h95)) ?_)
     exact ⟨(fB (by unfold cA; rw [dY (by rintro ⟨hz1, hz2, hz3, hz4, hz5, hz6, hz7, hz8, hz9⟩; omega)])), st93.bare⟩
    have h95 := decide_eq_true h95p
    refine wr (aL results185 ((h91_.at 2).trans (congrArg Value.bool h95)) ?_)
    exact ⟨(fB (by unfold cA; rw [lQ ⟨by omega, by omega, hSH.1, by omega, hSH.2.1, hSH.2.2.1, hSH.2.2.2, hS4, by omega⟩])), st93.bare⟩
   have h12 := decide_eq_true h12p
   refine rc st4 21 Ag.nil.put.put.put [] [(26, .bool true)] [qb 0 rfl 0, qc func138 rfl (fun W s b => bW W y.now 0 999999980), qk h10, qb 0 rfl 1, qc func138 rfl (fun W s b => bW W y.seq 1 1000000000), qk h11, qb 0 rfl 3, ql h9_1, qk h12] aD fun f96 W97 h96_ st98 hb99 => (aB (lJ (h96_.at 26) rfl (wp_seq (aA (sg (aE (aB (wr (aL results185 rfl ?_)))))))))
   exact ⟨(fB (by unfold cA; rw [dY (by rintro ⟨hz1, hz2, hz3, hz4, hz5, hz6, hz7, hz8, hz9⟩; omega)])), st98.bare⟩
  have h11p := dR (aN h11)
  refine rc st4 21 Ag.nil.put.put.put [] [(26, .bool true)] [qb 0 rfl 0, qc func138 rfl (fun W s b => bW W y.now 0 999999980), qk h10, qb 0 rfl 1, qc func138 rfl (fun W s b => bW W y.seq 1 1000000000), qk h11] aD fun f102 W103 h102_ st104 hb105 => (aB (lJ (h102_.at 26) rfl (wp_seq (aA (sg (aE (aB (wr (aL results185 rfl ?_)))))))))
  exact ⟨(fB (by unfold cA; rw [dY (by rintro ⟨hz1, hz2, hz3, hz4, hz5, hz6, hz7, hz8, hz9⟩; omega)])), st104.bare⟩
 have h10p := dR (aN h10)
 refine rc st4 21 Ag.nil.put.put.put [] [(26, .bool true)] [qb 0 rfl 0, qc func138 rfl (fun W s b => bW W y.now 0 999999980), qk h10] aD fun f108 W109 h108_ st110 hb111 => (aB (lJ (h108_.at 26) rfl (wp_seq (aA (sg (aE (aB (wr (aL results185 rfl ?_)))))))))
 exact ⟨(fB (by unfold cA; rw [dY (by rintro ⟨hz1, hz2, hz3, hz4, hz5, hz6, hz7, hz8, hz9⟩; omega)])), st110.bare⟩
def aD7 (n : Int) : List UInt8 := (dG n).data.toList
def fE (l : List Int) : List UInt8 := l.flatMap aD7
theorem xB {n : Nat} (h : n ≤ 1000000000) : aD7 (n : Int) = aR n := by
 unfold aD7 dG
 rw [if_pos (inB_iff'.2 ⟨by omega, by omega⟩)]
 simp
theorem lG : ∀ {ns : List Nat}, fG ns → fE (iF ns) = cS ns
 | [], _ => rfl
 | n :: ns, h => by
  have ih := lG (ns := ns) fun m hm => h m (mem_cons_of_mem _ hm)
  show aD7 (n : Int) ++ fE (iF ns) = aR n ++ cS ns
  rw [ih, xB (h n mem_cons_self)]
theorem castN_pre {a b : List Int} {ns : List Nat} (h : a ++ b = iF ns) : ∃ ms ks, ns = ms ++ ks ∧ a = iF ms ∧ b = iF ks := by
 refine ⟨ns.take a.length, ns.drop a.length, (take_append_drop _ _).symm, ?_, ?_⟩
 ·have := congrArg (List.take a.length) h
  rw [take_left] at this
  rw [this]; simp [iF, map_take]
 have := congrArg (List.drop a.length) h
 rw [drop_left] at this
 rw [this]; simp [iF, map_drop]
theorem zM {y : Yard} (h : cA y = true) : (0 ≤ y.now ∧ y.now ≤ 999999980) ∧ (1 ≤ y.seq ∧ y.seq ≤ 1000000000) ∧ y.shelf.length = 4 ∧ y.runs.length ≤ 8 ∧ (∀ l ∈ y.shelf, dN l = true) ∧
  (∀ e ∈ y.shelf.flatten, 1 ≤ e.seq ∧ e.seq ≤ y.seq - 1) ∧ (y.shelf.flatten.map (·.seq)).Nodup ∧ (∀ j, j < y.runs.length → mH y j) ∧ hX y ≤ 40 := pB_iff.1 h
theorem tN {y : Yard} (h : cA y = true) : YFits y := by
 obtain ⟨_, _, h3, h4, h5, _, _, h8, _⟩ := zM h
 refine ⟨h3, fun l hl => (pB_iff.1 (h5 l hl)).1, h4, fun q hq => ?_⟩
 obtain ⟨j, hj, rfl⟩ := getElem_of_mem hq
 obtain ⟨hr, _⟩ := h8 j hj hj
 obtain ⟨_, hp, ht, _⟩ := pB_iff.1 hr
 obtain ⟨hm, _⟩ := qO hp
 have hm := pM hm
 exact ⟨by omega, by omega, ht⟩
noncomputable def fT (y : Yard) : ByteArray := if cA y = true then ⟨(fE (dJ y)).toArray⟩ else ⟨#[]⟩
noncomputable def fO (s : ByteArray) : Numb × Yard := lD eR (fun _ => false) ⟨(dZ s).1, false⟩
noncomputable def fC (s : ByteArray) : LIn × Yard := lD linR LIn.bad ⟨s, 0, false⟩
noncomputable def cY (s : ByteArray) : Yard × Bool := if (dZ s).2 = true ∧ (fO s).1.bad = false ∧ cA (fO s).2 = true ∧ fT (fO s).2 = s then ((fO s).2, true) else (yard0, false)
noncomputable def dE (s : ByteArray) : Yard × Bool := if s.size ≤ 60000 ∧ (fC s).1.bad = false ∧ (fC s).1.at_ = s.size ∧ cA (fC s).2 = true then ((fC s).2, true) else (yard0, false)
def YTx (y : Yard) (s : ByteArray) : Prop := cA y = true ∧ ∃ ns, fG ns ∧ dJ y = iF ns ∧ cS ns = s.data.toList
theorem xC (s : ByteArray) : Numb.in_ ⟨(dZ s).1, false⟩ := by
 intro n hn
 have hn : n ∈ (dZ s).1 := hn
 cases h : (dZ s).2 with
 | false =>
  unfold dZ at h hn
  split at h
  ·cases h
  next hx => rw [dif_neg hx] at hn; cases hn
 | true =>
  obtain ⟨ns, h1, _, h3⟩ := rW (s := s) (l := (dZ s).1) (by rw [← h])
  rw [h3] at hn
  obtain ⟨m, hm, rfl⟩ := mem_map.1 hn
  have := h1 m hm
  exact ⟨by omega, by omega⟩
theorem uN {s : ByteArray} (h1 : (dZ s).2 = true) (h2 : (fO s).1.bad = false) : ∃ ns ms, fG (ns ++ ms) ∧ dJ (fO s).2 = iF ns ∧ cS (ns ++ ms) = s.data.toList := by
 obtain ⟨ns, k1, k2, k3⟩ := rW (s := s) (l := (dZ s).1) (by rw [← h1])
 obtain ⟨_, hc⟩ := wY numB (sb := fun _ => false) (fun h => by cases h) _ (xC s) h2
 have hc : (dZ s).1 = dJ (fO s).2 ++ (fO s).1.list := hc
 rw [k3] at hc
 obtain ⟨a, b, rfl, e1, _⟩ := castN_pre hc.symm
 exact ⟨a, b, k1, e1, k2⟩
theorem wV {a b : ByteArray} (h : a.data.toList = b.data.toList) : a = b := by
 cases a; cases b
 simp only [ByteArray.mk.injEq]
 exact Array.toList_inj.1 h
theorem readYI_iff {s : ByteArray} {y : Yard} : cY s = (y, true) ↔ YTx y s := by
 constructor
 ·intro h
  unfold cY at h
  split at h
  ·next hc =>
   obtain ⟨h1, h2, h3, h4⟩ := hc
   simp only [Prod.mk.injEq, and_true] at h
   subst h
   obtain ⟨ns, ms, k1, k2, k3⟩ := uN h1 h2
   have k1' : fG ns := fun m hm => k1 m (mem_append_left _ hm)
   refine ⟨h3, ns, k1', k2, ?_⟩
   have h5 : (fT (fO s).2).data.toList = s.data.toList := congrArg (fun b : ByteArray => b.data.toList) h4
   rw [← h5]
   unfold fT
   rw [if_pos h3, k2, lG k1']
  cases h
 rintro ⟨h, ns, h1, h2, h3⟩
 have e : (iF ns, true) = dZ s := rX h1 h3
 have hf := wX numF (sb := fun _ => false) (fun _ => rfl) (tN h) (x := ⟨(dZ s).1, false⟩) (ns := []) ⟨rfl, by rw [← e, h2, append_nil]⟩
 have e1 : (fO s).2 = y := hf.1
 have e2 : (fO s).1.bad = false := hf.2.1
 unfold cY
 have e3 : fT (fO s).2 = s := by
  rw [e1]
  refine wV ?_
  unfold fT
  rw [if_pos h, ← h3, h2]
  exact lG h1
 rw [if_pos ⟨by rw [← e], e2, by rw [e1]; exact h, e3⟩, e1]
theorem yardL_in {s : ByteArray} (hs : s.size ≤ 1048576) : (fC s).1.in_ :=
 (iM (wF linB) (linB.limI (linB.inn (iM (sb := LIn.bad) (gK linB) (linB.inn (linB.inn (x := ⟨s, 0, false⟩) ⟨hs, Nat.zero_le _⟩).1).1 4).1).1) _).1
theorem pH {s : ByteArray} (hs : s.size ≤ 1048576) (h2 : (fC s).1.bad = false) : (fC s).1.s = s ∧ ∃ ns, fG ns ∧ dJ (fC s).2 = iF ns ∧ s.data.toList = cS ns ++ s.data.toList.drop (fC s).1.at_ := by
 obtain ⟨_, hc⟩ := wY linB (sb := LIn.bad) (fun h => h) ⟨s, 0, false⟩ ⟨hs, Nat.zero_le _⟩ h2
 exact hc
theorem sR {s : ByteArray} {y : Yard} (hs : s.size ≤ 60000) : dE s = (y, true) ↔ YTx y s := by
 constructor
 ·intro h
  unfold dE at h
  split at h
  ·next hc =>
   obtain ⟨h1, h2, h3, h4⟩ := hc
   simp only [Prod.mk.injEq, and_true] at h
   subst h
   obtain ⟨_, ns, k1, k2, k3⟩ := pH aC h2
   refine ⟨h4, ns, k1, k2, ?_⟩
   have hd : s.data.toList.drop s.size = [] := drop_eq_nil_of_le (Nat.le_of_eq rfl)
   rw [h3, hd, append_nil] at k3
   exact k3.symm
  cases h
 rintro ⟨h, ns, h1, h2, h3⟩
 have hf := wX linF (sb := LIn.bad) (fun h => h.1) (tN h) (x := ⟨s, 0, false⟩) (ns := []) ⟨rfl, ns, h1, by rw [h2, append_nil], by rw [h3]; rfl⟩
 have e1 : (fC s).2 = y := hf.1
 obtain ⟨e2, ms, _, e3, e4⟩ := hf.2
 have hin := yardL_in (s := s) aC
 have e2 : (fC s).1.bad = false := e2
 have es := (pH aC e2).1
 cases ms with
 | cons m ms => cases e3
 | nil =>
  have e4 : [] = (fC s).1.s.data.toList.drop (fC s).1.at_ := e4
  have e5 := congrArg List.length e4
  rw [gM] at e5
  have hle := hin.2
  rw [es] at e5 hle
  unfold dE
  rw [if_pos ⟨hs, e2, by simp at e5; omega, by rw [e1]; exact h⟩, e1]
theorem xL {s : ByteArray} (hs : s.size ≤ 60000) : cY s = dE s := by
 have z1 : ∀ {b : Bool}, (cY s).2 = b → b = false → cY s = (yard0, false) := fun {b} h hb => by
  subst hb
  unfold cY at h ⊢
  split at h
  ·cases h
  next hc => rw [if_neg hc]
 have z2 : ∀ {b : Bool}, (dE s).2 = b → b = false → dE s = (yard0, false) := fun {b} h hb => by
  subst hb
  unfold dE at h ⊢
  split at h
  ·cases h
  next hc => rw [if_neg hc]
 cases h : (cY s).2 with
 | true =>
  have e : cY s = ((cY s).1, true) := by rw [← h]
  rw [(sR hs).2 (readYI_iff.1 e)]
  exact e
 | false =>
  rw [z1 h rfl]
  cases h2 : (dE s).2 with
  | false => rw [z2 h2 rfl]
  | true =>
   have e : dE s = ((dE s).1, true) := by rw [← h2]
   have := readYI_iff.2 ((sR hs).1 e)
   rw [this] at h; cases h
/-! ### How much it weighs -/
theorem rM {α β : Type} {f : α → List β} {g : α → Nat} (h : ∀ x, g x + 1 ≤ (f x).length) : ∀ xs : List α, xs.length + (xs.map g).sum ≤ (xs.flatMap f).length
 | [] => by simp
 | x :: xs => by
  have ih := rM h xs
  have := h x
  rw [flatMap_cons, length_append, map_cons, sum_cons, length_cons]
  omega
theorem oY {α β : Type} {f : α → List β} (h : ∀ x, 1 ≤ (f x).length) (xs : List α) : xs.length ≤ (xs.flatMap f).length := by
 have := rM (f := f) (g := fun _ => 0) h xs
 omega
theorem wt_le (y : Yard) : y.wt ≤ (dJ y).length := by
 have h1 : y.shelf.length + (y.shelf.map fun l => l.length).sum ≤ (y.shelf.flatMap eP).length := rM (fun l => by
  have := oY (f := eD) (fun _ => by simp [eD]) l
  simp only [eP, length_cons]; omega) _
 have h2 : y.runs.length + (y.runs.map fun q : Run => q.wt).sum ≤ (y.runs.flatMap gT).length := rM (fun q => by
  have a := oY (f := eM) (fun _ => by simp [eM]) q.tasks
  have b := oY (f := kW) (fun _ => by simp [kW]) q.plan.edges
  rw [gT, oJ]
  simp only [Run.wt, Plan.wt, length_cons, length_append]; omega) _
 unfold Yard.wt wtL dJ
 simp only [length_cons, length_append]
 omega
theorem uS (ns : List Nat) : ns.length ≤ (cS ns).length := oY (fun n => length_pos_iff.2 (lE (bF n).1)) ns
theorem vU (ns : List Nat) : (iF ns).length = ns.length := by simp [iF]
theorem xA {s : ByteArray} (h1 : (dZ s).2 = true) (h2 : (fO s).1.bad = false) : (fO s).2.wt ≤ s.size := by
 obtain ⟨ns, ms, _, k2, k3⟩ := uN h1 h2
 have a := wt_le (fO s).2
 have b := uS (ns ++ ms)
 have c : s.data.toList.length = s.size := rfl
 rw [k2, vU] at a
 rw [k3, length_append] at b
 omega
theorem wZ {s : ByteArray} (hs : s.size ≤ 1048576) (h2 : (fC s).1.bad = false) : (fC s).2.wt ≤ s.size := by
 obtain ⟨_, ns, _, k2, k3⟩ := pH hs h2
 have a := wt_le (fC s).2
 have b := uS ns
 have c : s.data.toList.length = s.size := rfl
 rw [k2, vU] at a
 have d := congrArg List.length k3
 rw [length_append, c] at d
 omega
theorem readYI_wt {s : ByteArray} (h : (cY s).2 = true) : (cY s).1.wt ≤ s.size := by
 unfold cY at h ⊢
 split at h
 ·next hc => rw [if_pos hc]; exact xA hc.1 hc.2.1
 cases h
/-! ### Marks -/
theorem fourB_L {a b c d : UInt8} : iE (fJ [a, b, c, d] : Int) = [a, b, c, d] := by
 have ha := fN a
 have hb := fN b
 have hc := fN c
 have hd := fN d
 have e : (fJ [a, b, c, d] : Int) = 256 * (256 * (256 * (a.toNat : Int) + b.toNat) + c.toNat) + d.toNat := by
  show ((256 * (256 * (256 * (256 * 0 + a.toNat) + b.toNat) + c.toNat) + d.toNat : Nat) : Int) = _
  omega
 have key : ∀ (x : Int) (u : UInt8), x % 256 = u.toNat → gO x = u := fun x u h => by
  have := hH x
  rw [h] at this
  exact UInt8.toNat_inj.1 aC
 unfold iE
 rw [e, key _ a aC, key _ b aC, key _ c aC, key _ d aC]
theorem vJ {s : ByteArray} {a : Nat} (h : (bX s a).2 = true) : (0 ≤ (bX s a).1 ∧ (bX s a).1 ≤ 4294967295) ∧ dK (bX s a).1 = s.extract a (a + 4) := by
 have hl := mO h
 have e4 := rN hl
 rw [oZ] at e4
 have e : bX s a = ((fJ ((s.data.toList.drop a).take 4) : Int), true) := by unfold bX; rw [if_pos hl]
 rw [e]
 have hb := kU (s.data.toList.drop a) (Nat.le_refl 4)
 have hr : 0 ≤ (fJ ((s.data.toList.drop a).take 4) : Int) ∧ (fJ ((s.data.toList.drop a).take 4) : Int) ≤ 4294967295 := by omega
 refine ⟨hr, wV ?_⟩
 rw [lX hr, oZ]
 match hq : (s.data.toList.drop a).take 4, e4 with
 | [p, q, r, t], _ => exact fourB_L
theorem aC0 {s : ByteArray} {a b c : Nat} (h1 : a ≤ b) (h2 : b ≤ c) : s.extract a b ++ s.extract b c = s.extract a c := by
 refine wV ?_
 rw [tX, Lib.extract_data, Lib.extract_data, Lib.extract_data]
 have := take_add (l := s.data.toList.drop a) (i := b - a) (j := c - b)
 rw [drop_drop, show a + (b - a) = b by omega, show b - a + (c - b) = c - a by omega] at this
 exact this.symm
theorem ext_all (s : ByteArray) : s.extract 0 s.size = s := by
 refine wV ?_
 rw [Lib.extract_data, drop_zero]
 exact take_of_length_le (by show s.data.toList.length ≤ _; exact Nat.le_of_eq rfl)
theorem sumOf_4 (t : ByteArray) : 0 ≤ fF t ∧ fF t ≤ 4294967295 := by have := sumOf_rng t; omega
theorem fourOf_sz {n : Int} (h : 0 ≤ n ∧ n ≤ 4294967295) : (dK n).size = 4 := by
 have : (dK n).data.toList.length = (dK n).size := rfl
 rw [lX h] at this
 exact this.symm
theorem yardT_ne {y : Yard} (h : cA y = true) : ¬ fT y = ⟨#[]⟩ := by
 intro e
 unfold fT at e
 rw [if_pos h] at e
 have h2 := (zM h).1
 have e2 := congrArg (fun b : ByteArray => b.data.toList) e
 have e3 : aD7 y.now ++ fE (y.seq :: (y.shelf.flatMap eP ++ ((y.runs.length : Int) :: y.runs.flatMap gT))) = [] := e2
 have e4 := (append_eq_nil_iff.1 e3).1
 rw [show y.now = ((y.now.toNat : Nat) : Int) by omega, xB aC] at e4
 exact lE (bF _).1 e4
theorem qM {s : ByteArray} (h : (cY s).2 = true) : fT (cY s).1 = s ∧ cA (cY s).1 = true := by
 unfold cY at h ⊢
 split at h
 ·next hc => rw [if_pos hc]; exact ⟨hc.2.2.2, hc.2.2.1⟩
 cases h
theorem rm_eq (s : ByteArray) : rmI cY fT s = rmS dE s := by
 by_cases h : (bX s 0).2 = true ∧ (bX s 4).2 = true ∧ inB (bX s 0).1 0 1000000000 = true ∧ s.size ≤ 60000 ∧ fF (s.extract 8 s.size) = (bX s 4).1 ∧ (dE (s.extract 8 s.size)).2 = true
 ·obtain ⟨h1, h2, h3, h4, h5, h6⟩ := h
  have hl := mO h2
  have hz : (s.extract 8 s.size).size ≤ 60000 := by rw [ByteArray.size_extract]; omega
  have he := xL hz
  have ht := qM (s := s.extract 8 s.size) (by rw [he]; exact h6)
  have hm : nC (bX s 0).1 (fT (cY (s.extract 8 s.size)).1) = s := by
   rw [ht.1]
   have hne : ¬ s.extract 8 s.size = ⟨#[]⟩ := fun e => by
    have := yardT_ne ht.2
    rw [ht.1] at this
    exact this e
   rw [← pT h3 hne (by rw [ByteArray.size_extract]; omega), (vJ h1).2, h5, (vJ h2).2, aC0 aC aC, aC0 aC aC, ext_all]
  unfold rmI rmS
  rw [if_pos ⟨h1, by omega, by rw [he]; exact h6, hm⟩, if_pos ⟨h1, h2, h3, h4, h5, h6⟩, he]
 unfold rmS
 rw [if_neg h]
 unfold rmI
 rw [if_neg]
 rintro ⟨h1, h2, h3, h4⟩
 apply h
 have ht := qM h3
 rw [ht.1] at h4
 have hm : inB (bX s 0).1 0 1000000000 = true ∧ ¬ s.extract 8 s.size = ⟨#[]⟩ ∧ (s.extract 8 s.size).size + 8 ≤ 60000 := by
  apply Classical.byContradiction
  intro hn
  rw [← oQ hn] at h4
  rw [← h4] at h2
  exact absurd h2 aV
 obtain ⟨m1, m2, m3⟩ := hm
 rw [← pT m1 m2 m3] at h4
 have hr := inB_iff'.1 m1
 have e4 : bX s 4 = (fF (s.extract 8 s.size), true) := by
  have := fourR_app (n := fF (s.extract 8 s.size)) (sumOf_4 _) (s := s) (p := dK (bX s 0).1) (t := s.extract 8 s.size) (by rw [← ByteArray.append_assoc]; exact h4.symm)
  rw [fourOf_sz ⟨hr.1, by omega⟩] at this
  exact this
 have hsz : s.size ≤ 60000 := by rw [ByteArray.size_extract] at m3; omega
 refine ⟨h1, by rw [e4], m1, hsz, by rw [e4], ?_⟩
 rw [← xL aC]
 exact h3
def nP (y : Yard) (i : Nat) : List Int := y.now :: y.seq :: (y.shelf.take i).flatMap eP
def qV (y : Yard) (i : Nat) (l : List Entry) (k : Nat) : List Int := nP y i ++ ((l.length : Int) :: (l.take k).flatMap eD)
def lC (y : Yard) (i : Nat) : List Int := nP y y.shelf.length ++ ((y.runs.length : Int) :: (y.runs.take i).flatMap gT)
def qU (y : Yard) (i : Nat) (r : Run) (k : Nat) : List Int := lC y i ++ (r.id :: (iH r.plan ++ (r.state :: (r.tasks.take k).flatMap eM)))
theorem xO (y : Yard) : lC y y.runs.length = dJ y := by
 unfold lC nP dJ
 rw [take_length, take_length]
 rfl
theorem jW {α β : Type} {f : α → List β} {xs : List α} {i : Nat} {x : α} (h : xs[i]? = some x) : (xs.take (i + 1)).flatMap f = (xs.take i).flatMap f ++ f x := by
 obtain ⟨hi, rfl⟩ := gsi_.1 h
 rw [take_succ_eq_append_getElem hi, flatMap_append]
 simp
theorem outE_next {y : Yard} {i : Nat} {l : List Entry} {k : Nat} {e : Entry} (h : l[k]? = some e) : qV y i l k ++ eD e = qV y i l (k + 1) := by
 unfold qV
 rw [jW h]
 simp [append_assoc]
theorem xP {y : Yard} {i : Nat} {l : List Entry} (h : y.shelf[i]? = some l) : qV y i l l.length = nP y (i + 1) := by
 unfold qV nP
 rw [jW h, take_length]
 simp [eP]
theorem outT_next {y : Yard} {i : Nat} {r : Run} {k : Nat} {e : Task} (h : r.tasks[k]? = some e) : qU y i r k ++ eM e = qU y i r (k + 1) := by
 unfold qU
 rw [jW h]
 simp [append_assoc]
theorem xN {y : Yard} {i : Nat} {r : Run} (h : y.runs[i]? = some r) : qU y i r r.tasks.length = lC y (i + 1) := by
 unfold qU lC
 rw [jW h, take_length]
 simp [gT, append_assoc]
theorem aG0 (y : Yard) (i : Nat) (r : Run) : ((lC y i ++ [r.id]) ++ iH r.plan) ++ [r.state] = qU y i r 0 := by
 unfold qU
 simp [append_assoc]
theorem outE_0 (y : Yard) (i : Nat) (l : List Entry) : nP y i ++ [(l.length : Int)] = qV y i l 0 := by
 unfold qV
 simp
theorem outR_0 (y : Yard) : nP y y.shelf.length ++ [(y.runs.length : Int)] = lC y 0 := by
 unfold lC
 simp
/-! ### How many they are -/
theorem oW {α β : Type} {f : α → List β} {g : α → Nat} {c : Nat} (h : ∀ x, (f x).length ≤ c * (g x + 1)) : ∀ xs : List α, (xs.flatMap f).length ≤ c * (xs.length + (xs.map g).sum)
 | [] => by simp
 | x :: xs => by
  have ih := oW h xs
  have h1 := h x
  rw [flatMap_cons, length_append, map_cons, sum_cons, length_cons]
  have e : c * (xs.length + 1 + (g x + (xs.map g).sum)) = c * (g x + 1) + c * (xs.length + (xs.map g).sum) := by
   rw [← Nat.mul_add]; congr 1; omega
  omega
theorem wR {α β : Type} {f : α → List β} {c : Nat} (h : ∀ x, (f x).length ≤ c) (xs : List α) : (xs.flatMap f).length ≤ c * xs.length := by
 have h1 := oW (f := f) (g := fun _ => 0) (c := c) (fun x => by simpa using h x) xs
 have h2 : (xs.map fun _ => 0).sum = 0 := by
  induction xs with
  | nil => rfl
  | cons a xs ih => rw [map_cons, sum_cons, ih (oW (f := f) (g := fun _ => 0) (c := c) (fun x => by simpa using h x) xs)]
 rw [h2] at h1
 exact h1
theorem pG (y : Yard) : (dJ y).length ≤ 3 + 8 * y.wt := by
 have h1 : (y.shelf.flatMap eP).length ≤ 8 * (y.shelf.length + (y.shelf.map fun l => l.length).sum) := oW (fun l => by
  have := wR (f := eD) (c := 4) (fun _ => by simp [eD]) l
  simp only [eP, length_cons]; omega) _
 have h2 : (y.runs.flatMap gT).length ≤ 8 * (y.runs.length + (y.runs.map fun q : Run => q.wt).sum) := oW (fun q => by
  have a := wR (f := eM) (c := 4) (fun _ => by simp [eM]) q.tasks
  have b := wR (f := kW) (c := 2) (fun _ => by simp [kW]) q.plan.edges
  rw [gT, oJ]
  simp only [Run.wt, Plan.wt, length_cons, length_append]; omega) _
 unfold Yard.wt wtL dJ
 simp only [length_cons, length_append]
 omega
theorem sY (y : Yard) (i : Nat) : lC y i <+: dJ y := by
 rw [← xO]
 unfold lC
 rw [take_length]
 refine ⟨(y.runs.drop i).flatMap gT, ?_⟩
 rw [append_assoc, cons_append, ← flatMap_append, take_append_drop]
theorem oK (y : Yard) (i : Nat) : nP y i <+: dJ y := by
 refine List.IsPrefix.trans ?_ (sY y 0)
 unfold lC nP
 rw [take_length]
 refine ⟨(y.shelf.drop i).flatMap eP ++ ((y.runs.length : Int) :: (y.runs.take 0).flatMap gT), ?_⟩
 simp only [cons_append, ← append_assoc, ← flatMap_append, take_append_drop]
theorem outE_pre {y : Yard} {i : Nat} {l : List Entry} (h : y.shelf[i]? = some l) (k : Nat) : qV y i l k <+: dJ y := by
 refine List.IsPrefix.trans ?_ (oK y (i + 1))
 rw [← xP h]
 unfold qV
 rw [take_length]
 refine ⟨(l.drop k).flatMap eD, ?_⟩
 rw [append_assoc, cons_append, ← flatMap_append, take_append_drop]
theorem xM {y : Yard} {i : Nat} {r : Run} (h : y.runs[i]? = some r) (k : Nat) : qU y i r k <+: dJ y := by
 refine List.IsPrefix.trans ?_ (sY y (i + 1))
 rw [← xN h]
 unfold qU
 rw [take_length]
 refine ⟨(r.tasks.drop k).flatMap eM, ?_⟩
 simp only [append_assoc, cons_append, ← flatMap_append, take_append_drop]
theorem nM {a : List Int} {y : Yard} (h : a <+: dJ y) (hw : y.wt ≤ 1048576) : a.length ≤ 8388611 := by
 have := h.length_le
 have := pG y
 omega
theorem rB {α : Type} {g : α → Nat} : ∀ {xs : List α} {x : α}, x ∈ xs → g x ≤ (xs.map g).sum
 | a :: xs, x, h => by
  rw [map_cons, sum_cons]
  rcases mem_cons.1 h with rfl | h
  ·omega
  ·have := rB (g := g) h; omega
theorem run_wt_le {y : Yard} {r : Run} (h : r ∈ y.runs) : r.wt ≤ y.wt := by
 have := rB (g := fun q : Run => q.wt) h
 unfold Yard.wt wtL
 omega
theorem shelf_wt_le {y : Yard} {l : List Entry} (h : l ∈ y.shelf) : l.length ≤ y.wt := by
 have := rB (g := fun q : List Entry => q.length) h
 unfold Yard.wt wtL
 omega
theorem uM (y : Yard) : y.shelf.length ≤ y.wt ∧ y.runs.length ≤ y.wt := by unfold Yard.wt wtL; omega
theorem sB (l : List Int) : (fE l).length ≤ 5 * l.length := wR (fun n => by
 have := kC n
 unfold aD7
 exact this) l
theorem textOf_step {l : List Int} {k : Nat} {z : Int} (h : l[k]? = some z) : fE (l.take k) ++ (dG z).data.toList = fE (l.take (k + 1)) := (jW h).symm
theorem yardT_size {y : Yard} (hw : y.wt ≤ 1048576) : (fT y).size ≤ 1000000000 := by
 unfold fT
 split
 ·have h1 := sB (dJ y)
  have h2 := pG y
  show (fE (dJ y)).toArray.size ≤ _
  rw [size_toArray]
  omega
 decide
theorem aD0 (y : Yard) (hw : y.wt ≤ 1048576) : Ct1 prog 118 [.S y] [.B (cA y)] := ⟨fun w us _ hp => by
 match us, hp with
 | [_], ⟨⟨cs0, fp0, rfl, hc0⟩, _⟩ => exact (YardOkI w hc0 hw).mono fun e w' h => ⟨(), [_], [], trivial, h.1, ⟨[], _, ⟨rfl, rfl⟩, rfl, rfl⟩, h.2⟩⟩
theorem YardOkSD (y : Yard) (hw : y.wt ≤ 1048576) : Ct1 prog 185 [.S y] [.B (cA y)] := ⟨fun w us _ hp => by
 match us, hp with
 | [_], ⟨⟨cs0, fp0, rfl, hc0⟩, _⟩ => exact (YardOkS w hc0 hw).mono fun e w' h => ⟨(), [_], [], trivial, h.1, ⟨[], _, ⟨rfl, rfl⟩, rfl, rfl⟩, h.2⟩⟩
theorem VarsI (l : List Int) (hl : l.length ≤ 20000000) : Ct1 prog 203 [.L l] [.T ⟨(fE l).toArray⟩] :=
 vc func203 (fun hg => .w UInt8 5 3 <| .l (Γ := Nat) (fun k => k ≤ l.length) (fun k => l.length - k) [6, 7] [] [0] (fun k => [vR 3 1, vI 8 k]) (fun k => [oR 1 5 (fE (l.take k))]) 0 fun k hk t =>
  let hb : (fE (l.take k)).length ≤ 5 * l.length := by have := sB (l.take k); rw [length_take] at this; omega
  .s ((k : Int) < l.length)
   (fun h => .x l k (h := by omega) fun z hz gz => .c func202 (yE z) fun _ => .bs (fE (l.take k)) (dG z) (by have := kC z; unfold maxLen; omega) (by have := kC z; omega) <|
    .g 1 (textOf_step hz) <| .p k 1 (h := by unfold I64; omega) <| .n t (k + 1) [])
   (fun h => .g 1 (show fE (l.take k) = fE l by rw [take_of_length_le aC]) <| .so (fE l) <| .rt () ⟨trivial, trivial⟩)) aD
theorem entryNs_good {e : Entry} (h : e.ok) : ∀ y ∈ eD e, (inferInstance : Dsh Int).good y := by
 obtain ⟨h1, h2, h3, h4⟩ := h
 intro y hy
 simp only [eD, mem_cons, not_mem_nil, or_false] at hy
 rcases hy with rfl | rfl | rfl | rfl
 ·exact h1
 ·exact h2
 ·exact h3
 exact h4
theorem taskNs_good {e : Task} (h : e.ok) : ∀ y ∈ eM e, (inferInstance : Dsh Int).good y := by
 obtain ⟨h1, h2, h3, h4⟩ := h
 intro y hy
 simp only [eM, mem_cons, not_mem_nil, or_false] at hy
 rcases hy with rfl | rfl | rfl | rfl
 ·exact h1
 ·exact h2
 ·exact h3
 exact h4
theorem yardT_no {y : Yard} (h : cA y = false) : (⟨#[]⟩ : ByteArray) = fT y := by unfold fT; rw [if_neg (by rw [h]; simp)]
theorem yardT_yes {y : Yard} (h : cA y = true) : (⟨(fE (dJ y)).toArray⟩ : ByteArray) = fT y := by unfold fT; rw [if_pos h]
theorem vX (y : Yard) (hw : y.wt ≤ 1048576) : Ct1 prog 195 [.S y] [.T (fT y)] :=
 .one (fT y) (rk := fun a => [.T a]) <| vc func195 (fun hg => .c func118 (aD0 y hw) (hg := ⟨hg.1.1, trivial⟩) fun _ => .v (cA y)
  (fun hb => .rt ⟨#[]⟩ ⟨yardT_no hb, trivial⟩)
  (fun hb => let hsl : y.shelf.length ≤ 1048576 := Nat.le_trans (uM y).1 hw
   let hrl : y.runs.length ≤ 1048576 := Nat.le_trans (uM y).2 hw
   .lr (inferInstance : Dsh Int) mI 19 [y.now, y.seq] (by simp) (all2 hg.1.1.1 hg.1.1.2) <|
   .l (Γ := Nat) (fun i => i ≤ y.shelf.length) (fun i => y.shelf.length - i) [1, 21, 22] [2] [0, 1] (fun i => [vR 3 3, vI 23 i]) (fun i => [oR 3 3 (nP y i)]) 0 fun i hi t =>
   let m1 := nM (oK y i) hw
   .s ((i : Int) < y.shelf.length)
    (fun h => .x y.shelf i (h := by omega) fun l hl gl => let hll : l.length ≤ 1048576 := Nat.le_trans (shelf_wt_le (mem_of_getElem? hl)) hw
     .a (nP y i) (l.length : Int) 8 (hy := by show I64 _; unfold I64; omega) (h63 := by unfold maxLen; omega) (hby := by omega) <|
     .g 3 (outE_0 y i l) <| .l (Γ := Nat) (fun k => k ≤ l.length) (fun k => l.length - k) [1, 21, 22, 23, 32, 33] [2] [0, 1, 5] (fun k => [vR 3 3, vI 34 k]) (fun k => [oR 3 3 (qV y i l k)]) 0 fun k hk t2 =>
     let m2 := nM (outE_pre hl k) hw
     .s ((k : Int) < l.length)
      (fun h2 => .x l k (h := by omega) fun e he ge => .ap (inferInstance : Dsh Int) (qV y i l k) (eD e) (entryNs_good ge) 8 (by simp only [eD, length_cons, length_nil]; unfold maxLen; omega) (by simp only [eD, length_cons, length_nil]; omega) <|
       .g 3 (outE_next (y := y) (i := i) he) <| .p k 1 (h := by unfold I64; omega) <| .n t2 (k + 1) [])
      (fun h2 => .g 3 (show qV y i l k = nP y (i + 1) by rw [show k = l.length by omega]; exact xP hl) <| .p i 1 (h := by unfold I64; omega) <| .n t (i + 1) []))
    (fun h => .g 3 (show nP y i = nP y y.shelf.length by rw [show i = y.shelf.length by omega]) <| .a (nP y y.shelf.length) (y.runs.length : Int) 8 (hy := by show I64 _; unfold I64; omega) (h63 := by have := nM (oK y y.shelf.length) hw; unfold maxLen; omega) (hby := by have := nM (oK y y.shelf.length) hw; omega) <|
     .g 3 (outR_0 y) <| .l (Γ := Nat) (fun i => i ≤ y.runs.length) (fun i => y.runs.length - i) [1, 58, 59] [2] [0, 1] (fun i => [vR 3 3, vI 60 i]) (fun i => [oR 3 3 (lC y i)]) 0 fun i hi t =>
     let m1 := nM (sY y i) hw
     .s ((i : Int) < y.runs.length)
      (fun h => .x y.runs i (h := by omega) fun r hr gr => let gr : r.ok := gr
       let hwr : r.wt ≤ 1048576 := Nat.le_trans (run_wt_le (mem_of_getElem? hr)) hw
       let m0 := nM (xM hr 0) hw
       let mm : (lC y i).length + (iH r.plan).length + 2 ≤ 8388611 := by have := m0; rw [← aG0] at this; simp only [length_append, length_cons, length_nil] at this; omega
       .a (lC y i) r.id 8 (hy := gr.1) (h63 := by unfold maxLen; omega) (hby := by omega) <|
       .c func301 (PlanNumbersI r.plan (by unfold Run.wt Plan.wt at hwr; omega)) (hg := ⟨gr.2.1, trivial⟩) fun _ =>
       .as (inferInstance : Shape Int) mI (lC y i ++ [r.id]) (iH r.plan) 8 (by simp only [length_append, length_cons, length_nil]; unfold maxLen; omega) (by simp only [length_append, length_cons, length_nil]; omega) <|
       .a ((lC y i ++ [r.id]) ++ iH r.plan) r.state 8 (hy := gr.2.2) (h63 := by simp only [length_append, length_cons, length_nil]; unfold maxLen; omega) (hby := by simp only [length_append, length_cons, length_nil]; omega) <|
       .g 3 (aG0 y i r) <| .l (Γ := Nat) (fun k => k ≤ r.tasks.length) (fun k => r.tasks.length - k) [1, 58, 59, 60, 79, 80] [2] [0, 1, 7] (fun k => [vR 3 3, vI 81 k]) (fun k => [oR 3 3 (qU y i r k)]) 0 fun k hk t2 =>
       let m2 := nM (xM hr k) hw
       .s ((k : Int) < r.tasks.length)
        (fun h2 => .x r.tasks k (h := by omega) fun e he ge => .ap (inferInstance : Dsh Int) (qU y i r k) (eM e) (taskNs_good ge) 8 (by simp only [eM, length_cons, length_nil]; unfold maxLen; omega) (by simp only [eM, length_cons, length_nil]; omega) <|
         .g 3 (outT_next (y := y) (i := i) he) <| .p k 1 (h := by unfold Run.wt at hwr; unfold I64; omega) <| .n t2 (k + 1) [])
        (fun h2 => .g 3 (show qU y i r k = lC y (i + 1) by rw [show k = r.tasks.length by omega]; exact xN hr) <| .p i 1 (h := by unfold I64; omega) <| .n t (i + 1) []))
      (fun h => .g 3 (show lC y i = dJ y by rw [show i = y.runs.length by omega]; exact xO y) <| .c func203 (VarsI (dJ y) (by have := pG y; omega)) fun _ => .rt ⟨(fE (dJ y)).toArray⟩ ⟨yardT_yes hb, trivial⟩)))) aD
def nbx (j : Nat) (x : Numb) : List Tc := [.r j, .b x.bad]
theorem fH {x : Numb} (h : x.in_) : (aT x).1.in_ := (numB.inn h).1
theorem fW {x : Numb} (h : x.in_) : I64 (aT x).2 := by have := numB.inn h; have : 0 ≤ (aT x).2 ∧ (aT x).2 ≤ 1000000000 := this.2; unfold I64; omega
theorem tA {x : Numb} (h : x.in_) : (aT x).2 ≤ 1000000000 := (numB.inn h).2.2
section
variable {A : Type} {R : A → Prop}
noncomputable def cmN (x : Numb) (k : D prog R) : D prog R := .cm 297 func297 (NextD x) trivial fun _ _ _ _ => k
end
theorem PlanD (x : Numb) (h : x.in_) : Cm prog 298 [] inferInstance x (fun _ : Unit => True) (fun _ => (eH eR x).1) (fun _ => [.S (eH eR x).2]) :=
 Cm.one (eH eR x) (y := fun a => a.1) (rk := fun a => [.S a.2]) <| vcm func298 (fun hg hn =>
  let x1 := (aT x).1
  let x2 := (aT x1).1
  let x3 := (aT x2).1
  let x4 := (aT x3).1
  let x5 := (aT x4).1
  let m := (aT x4).2
  let h1 := fH h
  let h2 := fH h1
  let h3 := fH h2
  let h4 := fH h3
  let h5 := fH h4
  let hm : m ≤ 1000000000 := tA h4
  cmN x <| cmN x1 <| cmN x2 <| cmN x3 <| cmN x4 <| .r0 (inferInstance : Shape Edge) 239 <|
  .lp (Γ := Nat × Numb × List Edge) (fun g => MJ Numb.bad (fK eR) Numb.in_ x5 m g) (fun g => m.toNat - g.1) [0, 2, 3, 4] [2, 1000000] [] (fun g => [vI 5 g.1]) (fun g => [oR 9 239 g.2.2, oO 8 g.2.1.list, oB 7 [.v (I (aT x).2), .v (I (aT x1).2), .v (I (aT x2).2), .v (I (aT x3).2), .r 9], oB 0 (nbx 8 g.2.1)]) (0, x5, []) (MJ.start h5) [] fun g hJ t =>
   .s ((g.1 : Int) < m)
    (fun h => .sb (!g.2.1.bad)
     (fun hb => cmN g.2.1 <| cmN (aT g.2.1).1 <|
      .a g.2.2 (fK eR g.2.1).2 16 (hy := aC2 numB _ hJ.inn) (h63 := by have := hJ.len; have := hJ.le; unfold maxLen; omega) (hby := by have := hJ.len; have := hJ.le; omega) <| .p g.1 1 (h := by unfold I64; omega) <|
      .n t (g.1 + 1, (fK eR g.2.1).1, g.2.2 ++ [(fK eR g.2.1).2]) [(8, 11)] (hJ.next (rO numB) h (bnT hb)) (by dsimp only; omega))
     (fun hb => .rt (g.2.1, ⟨(aT x).2, (aT x1).2, (aT x2).2, (aT x3).2, g.2.2⟩) ⟨by
      show _ = (fun q : Numb × List Edge => (q.1, (⟨(aT x).2, (aT x1).2, (aT x2).2, (aT x3).2, q.2⟩ : Plan))) (bA Numb.bad (fK eR) x5 m.toNat)
      rw [← hJ.stop (bnF hb)], ⟨fW ‹_›, fW h1, fW h2, fW h3⟩, trivial⟩))
    (fun h => .rt (g.2.1, ⟨(aT x).2, (aT x1).2, (aT x2).2, (aT x3).2, g.2.2⟩) ⟨by
      show _ = (fun q : Numb × List Edge => (q.1, (⟨(aT x).2, (aT x1).2, (aT x2).2, (aT x3).2, q.2⟩ : Plan))) (bA Numb.bad (fK eR) x5 m.toNat)
      rw [← hJ.all h], ⟨fW ‹_›, fW h1, fW h2, fW h3⟩, trivial⟩)) aD
theorem many4 {σ β : Type} (one : σ → σ × β) (x : σ) : bA (fun _ => false) one x 4 = ((one (one (one (one x).1).1).1).1, [(one x).2, (one (one x).1).2, (one (one (one x).1).1).2, (one (one (one (one x).1).1).1).2]) := by
 simp [bA]
theorem aA3 {s : ByteArray} (h : ¬ ((dZ s).2 = true ∧ (fO s).1.bad = false ∧ cA (fO s).2 = true ∧ fT (fO s).2 = s)) : (yard0, false) = cY s := by unfold cY; rw [if_neg h]
theorem lists_good {α : Type} [Shape α] (l : List (List α)) : ∀ y ∈ l, (inferInstance : Dsh (List α)).good y := fun _ _ => trivial
section
variable {A : Type} {R : A → Prop}
noncomputable def cmPl (x : Numb) (h : x.in_) (k : gds [Rk.S (eH eR x).2] → D prog R) : D prog R := .cm 298 func298 (PlanD x h) trivial fun _ _ _ hg => k hg
noncomputable def rF (x : Numb) (hi : x.in_) (lst row : Nat) (ko : List Nat) (cells : List Tc) (k : ∀ z : Numb × List Entry, z = cM eR x → D prog R) : D prog R :=
 let hm : (aT x).2 ≤ 1000000000 := tA hi
 cmN x <| .r0 (inferInstance : Shape Entry) 243 <| .lx (Γ := Nat × Numb × List Entry) (fun g => MJ Numb.bad (gD eR) Numb.in_ (aT x).1 (aT x).2 g) (fun g => (aT x).2.toNat - g.1) [0, 2, 6, 7, 8, 9, 34, 35] ko [] (fun g => [vI 10 g.1])
  (fun g => [oR row 243 g.2.2, oO lst g.2.1.list, oB 83 cells, oB 2 (nbx lst g.2.1)]) (0, (aT x).1, []) (MJ.start (fH hi)) []
  (fun g hJ t => .s ((g.1 : Int) < (aT x).2)
   (fun h => .sb (!g.2.1.bad)
    (fun hb => let x1 := (aT g.2.1).1
     let x2 := (aT x1).1
     let x3 := (aT x2).1
     cmN g.2.1 <| cmN x1 <| cmN x2 <| cmN x3 <|
     .a g.2.2 (gD eR g.2.1).2 32 (hy := entry_ok numB _ hJ.inn) (h63 := by have := hJ.len; have := hJ.le; unfold maxLen; omega) (hby := by have := hJ.len; have := hJ.le; omega) <| .p g.1 1 (h := by unfold I64; omega) <|
     .n t (g.1 + 1, (gD eR g.2.1).1, g.2.2 ++ [(gD eR g.2.1).2]) [(lst, lst + 5)] (hJ.next (tP numB) h (bnT hb)) (by dsimp only; omega))
    (fun hb => .xt (fun z : Numb × List Entry => z = cM eR x) (g.2.1, g.2.2) (hJ.stop (bnF hb)) []))
   (fun h => .xt (fun z : Numb × List Entry => z = cM eR x) (g.2.1, g.2.2) (hJ.all h) []))
  (fun z : Numb × List Entry => z = cM eR x) 2 [0, 2, 6, 7, 34, 35] ko [] (fun _ => []) (fun z => [oR row 243 z.2, oO lst z.1.list, oB 83 cells, oB 2 (nbx lst z.1)]) k
end
def aD9 : Tc := .v (.slice none 0 0)
noncomputable def riEnd (s : ByteArray) (hs : s.size ≤ 1048576) (hv : (dZ s).2 = true) (w : Numb × List Run) (y : Yard) (hok : y.ok) (e : (w.1, y) = fO s) : D prog (fun a : Yard × Bool => a = cY s ∧ rgd [Rk.S a.1, Rk.B a.2]) :=
 let e1 : (fO s).1 = w.1 := by rw [← e]
 let e2 : (fO s).2 = y := by rw [← e]
 .sb w.1.bad (fun hb => .rt (yard0, false) ⟨aA3 (fun h => by rw [e1, hb] at h; exact absurd h.2.1 (by simp)), dC, trivial⟩)
  (fun hb => let hw : y.wt ≤ 1048576 := by { have := xA hv (by rw [e1]; exact hb); rw [e2] at this; omega }
   .c func118 (aD0 y hw) (hg := ⟨hok, trivial⟩) fun _ => .v (cA y)
   (fun h2 => .rt (yard0, false) ⟨aA3 (fun h => by rw [e2, h2] at h; exact absurd h.2.2.1 (by simp)), dC, trivial⟩)
   (fun h2 => .c func195 (vX y hw) (hg := ⟨hok, trivial⟩) fun _ => .u (fT y = s)
    (fun hn => .rt (yard0, false) ⟨aA3 (fun h => hn (by rw [← e2]; exact h.2.2.2)), dC, trivial⟩)
    (fun he => .rt (y, true) ⟨by unfold cY; rw [if_pos ⟨hv, by rw [e1]; exact hb, by rw [e2]; exact h2, by rw [e2]; exact he⟩, e2], hok, trivial⟩)))
noncomputable def riRuns (s : ByteArray) (hs : s.size ≤ 1048576) (hv : (dZ s).2 = true) (now seq m : Int) (ss : List (List Entry)) (hok : I64 now ∧ I64 seq) (hm : m ≤ 1000000000) (x4 : Numb) (hi : x4.in_) (e : ∀ w, w = bA Numb.bad (eT eR) x4 m.toNat → (w.1, (⟨now, seq, ss, w.2⟩ : Yard)) = fO s) : D prog (fun a : Yard × Bool => a = cY s ∧ rgd [Rk.S a.1, Rk.B a.2]) :=
 .r0 (inferInstance : Shape Run) 55 <| .lx (Γ := Nat × Numb × List Run) (fun g => MJ Numb.bad (eT eR) Numb.in_ x4 m g) (fun g => m.toNat - g.1) [0, 2, 6, 7, 11] [0, 83] [] (fun g => [vI 12 g.1]) (fun g => [oR 172 55 g.2.2, oO 171 g.2.1.list, oB 123 [.v (I now), .v (I seq), .r 83, .r 172], oB 2 (nbx 171 g.2.1)]) (0, x4, []) (MJ.start hi) []
  (fun g hJ t => .s ((g.1 : Int) < m)
   (fun h => .sb (!g.2.1.bad)
    (fun hb =>
     let x1 := (aT g.2.1).1
     let i1 := fH hJ.inn
     let p := eH eR x1
     let i2 := oI numB x1 i1
     let x3 := (aT p.1).1
     let i3 := fH i2
     let hpt : p.2.tasks ≤ 1000000000 := (nN numB x1 i1).2
     cmN g.2.1 <| cmPl x1 i1 fun gp => cmN p.1 <| .r0 (inferInstance : Shape Task) 158 <|
     .lx (Γ := Nat × Numb × List Task) (fun q => MJ Numb.bad (eX eR) Numb.in_ x3 p.2.tasks q) (fun q => p.2.tasks.toNat - q.1) [0, 2, 6, 7, 11, 12, 13] [0, 83, 123, 172, 176] [] (fun q => [vI 14 q.1])
      (fun q => [oR 178 158 q.2.2, oO 177 q.2.1.list, oB 174 [.v (I (aT g.2.1).2), .v (I p.2.prio), .v (I p.2.most), .v (I p.2.wait), .v (I p.2.tasks), .r 176, .v (I (aT p.1).2), .r 178], oB 2 (nbx 177 q.2.1)]) (0, x3, []) (MJ.start i3) []
      (fun q hJ2 t2 => .s ((q.1 : Int) < p.2.tasks)
       (fun h3 => .sb (!q.2.1.bad)
        (fun hb2 => let z1 := (aT q.2.1).1
         let z2 := (aT z1).1
         let z3 := (aT z2).1
         cmN q.2.1 <| cmN z1 <| cmN z2 <| cmN z3 <|
         .a q.2.2 (eX eR q.2.1).2 32 (hy := zQ numB _ hJ2.inn) (h63 := by have := hJ2.len; have := hJ2.le; unfold maxLen; omega) (hby := by have := hJ2.len; have := hJ2.le; omega) <| .p q.1 1 (h := by unfold I64; omega) <|
         .n t2 (q.1 + 1, (eX eR q.2.1).1, q.2.2 ++ [(eX eR q.2.1).2]) [(177, 182)] (hJ2.next (qY numB) h3 (bnT hb2)) (by dsimp only; omega))
        (fun hb2 => .xt (fun z : Numb × List Task => z = bA Numb.bad (eX eR) x3 p.2.tasks.toNat) (q.2.1, q.2.2) (hJ2.stop (bnF hb2)) []))
       (fun h3 => .xt (fun z : Numb × List Task => z = bA Numb.bad (eX eR) x3 p.2.tasks.toNat) (q.2.1, q.2.2) (hJ2.all h3) []))
      (fun z : Numb × List Task => z = bA Numb.bad (eX eR) x3 p.2.tasks.toNat) 6 [0, 2, 6, 7, 11, 12, 13] [0, 83, 123, 172, 176] [] (fun _ => [])
      (fun z => [oR 178 158 z.2, oO 177 z.1.list, oB 174 [.v (I (aT g.2.1).2), .v (I p.2.prio), .v (I p.2.most), .v (I p.2.wait), .v (I p.2.tasks), .r 176, .v (I (aT p.1).2), .r 178], oB 2 (nbx 177 z.1)])
      fun z hz =>
       let er : eT eR g.2.1 = (z.1, (⟨(aT g.2.1).2, p.2, (aT p.1).2, z.2⟩ : Run)) := by
        show (fun z : Numb × List Task => (z.1, (⟨(aT g.2.1).2, p.2, (aT p.1).2, z.2⟩ : Run))) (bA Numb.bad (eX eR) x3 p.2.tasks.toNat) = _
        rw [← hz]
       .a g.2.2 (⟨(aT g.2.1).2, p.2, (aT p.1).2, z.2⟩ : Run) 96 (hy := by have := aF3 numB _ hJ.inn; rw [er] at this; exact this) (h63 := by have := hJ.len; have := hJ.le; unfold maxLen; omega) (hby := by have := hJ.len; have := hJ.le; omega) <| .p g.1 1 (h := by unfold I64; omega) <|
       .n t (g.1 + 1, z.1, g.2.2 ++ [(⟨(aT g.2.1).2, p.2, (aT p.1).2, z.2⟩ : Run)]) [(171, 177)] (by have := hJ.next (wF numB) h (bnT hb); rw [er] at this; exact this) (by dsimp only; omega))
    (fun hb => .xt (fun w : Numb × List Run => w = bA Numb.bad (eT eR) x4 m.toNat) (g.2.1, g.2.2) (hJ.stop (bnF hb)) []))
   (fun h => .xt (fun w : Numb × List Run => w = bA Numb.bad (eT eR) x4 m.toNat) (g.2.1, g.2.2) (hJ.all h) []))
  (fun w : Numb × List Run => w = bA Numb.bad (eT eR) x4 m.toNat) 4 [0, 2, 6, 7] [0, 83] [] (fun _ => []) (fun w => [oR 172 55 w.2, oO 171 w.1.list, oB 123 [.v (I now), .v (I seq), .r 83, .r 172], oB 2 (nbx 171 w.1)])
  fun w hw => riEnd s hs hv w ⟨now, seq, ss, w.2⟩ hok (e w hw)
theorem ReadYardI (s : ByteArray) (hs : s.size ≤ 1048576) : Ct1 prog 201 [.T s] [.S (cY s).1, .B (cY s).2] :=
 .one (cY s) (rk := fun a => [.S a.1, .B a.2]) <| vc func201 (fun hg => .c func296 (ReadVarsI s hs) fun _ => .v (dZ s).2
  (fun hb => .rt (yard0, false) ⟨aA3 (fun h => by rw [h.1] at hb; cases hb), dC, trivial⟩)
  (fun hv =>
   let x0 : Numb := ⟨(dZ s).1, false⟩
   let i0 : x0.in_ := xC s
   let x1 := (aT x0).1
   let x2 := (aT x1).1
   let i1 := fH i0
   let i2 := fH i1
   cmN x0 <| cmN x1 <| .ul 5 <| .kt ((0 : Int) < 4) aV <|
   rF x2 i2 163 164 [0, 123] [.r 164, aD9, aD9, aD9] fun z0 e0 => let j0 : z0.1.in_ := by { rw [e0]; exact gK numB _ i2 }
   .p 0 1 <| .kt ((1 : Int) < 4) aV <|
   rF z0.1 j0 165 166 [0, 123, 164] [.r 164, .r 166, aD9, aD9] fun z1 e1 => let j1 : z1.1.in_ := by { rw [e1]; exact gK numB _ j0 }
   .p 1 1 <| .kt ((2 : Int) < 4) aV <|
   rF z1.1 j1 167 168 [0, 123, 164, 166] [.r 164, .r 166, .r 168, aD9] fun z2 e2 => let j2 : z2.1.in_ := by { rw [e2]; exact gK numB _ j1 }
   .p 2 1 <| .kt ((3 : Int) < 4) aV <|
   rF z2.1 j2 169 170 [0, 123, 164, 166, 168] [.r 164, .r 166, .r 168, .r 170] fun z3 e3 => let j3 : z3.1.in_ := by { rw [e3]; exact gK numB _ j2 }
   .p 3 1 <| .kf ((4 : Int) < 4) aV <|
   cmN z3.1 <| .lj (inferInstance : Dsh (List Entry)) 123 2 [z0.2, z1.2, z2.2, z3.2] (by simp) (by simp) (lists_good _) <|
   riRuns s hs hv (aT x0).2 (aT x1).2 (aT z3.1).2 [z0.2, z1.2, z2.2, z3.2] ⟨fW i0, fW i1⟩ (tA j3) (aT z3.1).1 (fH j3) (fun w hw => by
    show _ = (fun z : Numb × List (List Entry) => (fun w : Numb × List Run => (w.1, (⟨(aT x0).2, (aT x1).2, z.2, w.2⟩ : Yard))) (bA Numb.bad (eT eR) (aT z.1).1 (aT z.1).2.toNat)) (bA (fun _ => false) (cM eR) x2 4)
    rw [many4, ← e0, ← e1, ← e2, ← e3]
    show _ = (fun w : Numb × List Run => (w.1, (⟨(aT x0).2, (aT x1).2, [z0.2, z1.2, z2.2, z3.2], w.2⟩ : Yard))) (bA Numb.bad (eT eR) (aT z3.1).1 (aT z3.1).2.toNat)
    rw [← hw]))) aD
theorem aA2 {s : ByteArray} (h : ¬ (s.size ≤ 60000 ∧ (fC s).1.bad = false ∧ (fC s).1.at_ = s.size ∧ cA (fC s).2 = true)) : (yard0, false) = dE s := by unfold dE; rw [if_neg h]
section
variable {A : Type} {R : A → Prop}
noncomputable def cmSh (x : LIn) (h : x.in_) (k : D prog R) : D prog R := .cm 350 func350 (show Cm prog 350 [] (inferInstance : Dsh LIn) x (fun _ : Unit => True) (fun _ => (cM linR x).1) (fun _ => [.L (cM linR x).2]) by rw [← shelfL_eq]; exact ShelfL x h) trivial fun _ _ _ _ => k
noncomputable def cmRn (x : LIn) (h : x.in_) (k : D prog R) : D prog R := .cm 351 func351 (RunL x h) trivial fun _ _ _ _ => k
end
noncomputable def rsEnd (s : ByteArray) (hs : s.size ≤ 60000) (w : LIn × List Run) (y : Yard) (hok : y.ok) (e : (w.1, y) = fC s) : D prog (fun a : Yard × Bool => a = dE s ∧ rgd [Rk.S a.1, Rk.B a.2]) :=
 let e1 : (fC s).1 = w.1 := by rw [← e]
 let e2 : (fC s).2 = y := by rw [← e]
 .sb w.1.bad (fun hb => .rt (yard0, false) ⟨aA2 (fun h => by rw [e1, hb] at h; exact absurd h.2.1 (by simp)), dC, trivial⟩)
  (fun hb => .u ((w.1.at_ : Int) = s.size)
   (fun hn => .rt (yard0, false) ⟨aA2 (fun h => hn (by rw [← e1, h.2.2.1])), dC, trivial⟩)
   (fun he => .c func185 (YardOkSD y (by have := wZ (s := s) aC (by rw [e1]; exact hb); rw [e2] at this; omega)) (hg := ⟨hok, trivial⟩) fun _ => .v (cA y)
    (fun h2 => .rt (yard0, false) ⟨aA2 (fun h => by rw [e2, h2] at h; exact absurd h.2.2.2 (by simp)), dC, trivial⟩)
    (fun h2 => .rt (y, true) ⟨by unfold dE; rw [if_pos ⟨hs, by rw [e1]; exact hb, by rw [e1]; omega, by rw [e2]; exact h2⟩, e2], hok, trivial⟩)))
noncomputable def aF4 (s : ByteArray) (hs : s.size ≤ 60000) (now seq m : Int) (ss : List (List Entry)) (hok : I64 now ∧ I64 seq) (hm : m ≤ 1000000000) (x4 : LIn) (hi : x4.in_) (e : ∀ w, w = bA LIn.bad (eT linR) x4 m.toNat → (w.1, (⟨now, seq, ss, w.2⟩ : Yard)) = fC s) : D prog (fun a : Yard × Bool => a = dE s ∧ rgd [Rk.S a.1, Rk.B a.2]) :=
 .r0 (inferInstance : Shape Run) 55 <| .lx (Γ := Nat × LIn × List Run) (fun g => MJ LIn.bad (eT linR) LIn.in_ x4 m g) (fun g => m.toNat - g.1) [0, 2, 4, 5, 7] [0, 2] [] (fun g => [vI 8 g.1]) (fun g => [oR 4 55 g.2.2, oB 3 [.v (I now), .v (I seq), .r 2, .r 4], oB 1 (lbx g.2.1)]) (0, x4, []) (MJ.start hi) []
  (fun g hJ t => .s ((g.1 : Int) < m)
   (fun h => .sb (!g.2.1.bad)
    (fun hb => cmRn g.2.1 hJ.inn <| .a g.2.2 (eT linR g.2.1).2 96 (hy := aF3 linB _ hJ.inn) (h63 := by have := hJ.len; have := hJ.le; unfold maxLen; omega) (hby := by have := hJ.len; have := hJ.le; omega) <| .p g.1 1 (h := by unfold I64; omega) <|
     .n t (g.1 + 1, (eT linR g.2.1).1, g.2.2 ++ [(eT linR g.2.1).2]) [] (hJ.next (wF linB) h (bnT hb)) (by dsimp only; omega))
    (fun hb => .xt (fun w : LIn × List Run => w = bA LIn.bad (eT linR) x4 m.toNat) (g.2.1, g.2.2) (hJ.stop (bnF hb)) []))
   (fun h => .xt (fun w : LIn × List Run => w = bA LIn.bad (eT linR) x4 m.toNat) (g.2.1, g.2.2) (hJ.all h) []))
  (fun w : LIn × List Run => w = bA LIn.bad (eT linR) x4 m.toNat) 2 [0, 2, 4, 5] [0, 2] [] (fun _ => []) (fun w => [oR 4 55 w.2, oB 3 [.v (I now), .v (I seq), .r 2, .r 4], oB 1 (lbx w.1)])
  fun w hw => rsEnd s hs w ⟨now, seq, ss, w.2⟩ hok (e w hw)
theorem ReadYardS (s : ByteArray) (hs : s.size ≤ 1048576) : Ct1 prog 242 [.T s] [.S (dE s).1, .B (dE s).2] :=
 .one (dE s) (rk := fun a => [.S a.1, .B a.2]) <| vc func242 (fun hg => .s ((60000 : Int) < s.size)
  (fun h => .rt (yard0, false) ⟨aA2 (fun h2 => by omega), dC, trivial⟩)
  (fun h0 =>
   let x0 : LIn := ⟨s, 0, false⟩
   let x1 := (aM x0).1
   let x2 := (aM x1).1
   let i0 : x0.in_ := ⟨hs, Nat.zero_le _⟩
   let i1 := bE i0
   let i2 := bE i1
   cmL x0 i0 <| cmL x1 i1 <| .r0 (inferInstance : Shape (List Entry)) 217 <|
   .lx (Γ := Nat × LIn × List (List Entry)) (fun g => MJ LIn.bad (cM linR) LIn.in_ x2 4 g) (fun g => (4 : Int).toNat - g.1) [0, 2, 4, 5] [0] [] (fun g => [vI 6 g.1]) (fun g => [oR 2 217 g.2.2, oB 3 [.v (I (aM x0).2), .v (I (aM x1).2), .r 2, .v (.slice none 0 0)], oB 1 (lbx g.2.1)]) (0, x2, []) (MJ.start i2) []
    (fun g hJ t => .s ((g.1 : Int) < 4)
     (fun h => .sb (!g.2.1.bad)
      (fun hb => cmSh g.2.1 hJ.inn <| .a g.2.2 (cM linR g.2.1).2 24 (hy := trivial) (h63 := by have := hJ.len; have := hJ.le; unfold maxLen; omega) (hby := by have := hJ.len; have := hJ.le; omega) <| .p g.1 1 (h := by unfold I64; omega) <|
       .n t (g.1 + 1, (cM linR g.2.1).1, g.2.2 ++ [(cM linR g.2.1).2]) [] (hJ.next (gK linB) h (bnT hb)) (by dsimp only; omega))
      (fun hb => .xt (fun z : LIn × List (List Entry) => z = bA LIn.bad (cM linR) x2 4) (g.2.1, g.2.2) (hJ.stop (bnF hb)) []))
     (fun h => .xt (fun z : LIn × List (List Entry) => z = bA LIn.bad (cM linR) x2 4) (g.2.1, g.2.2) (hJ.all h) []))
    (fun z : LIn × List (List Entry) => z = bA LIn.bad (cM linR) x2 4) 0 [0, 2, 4, 5] [0] [] (fun _ => []) (fun z => [oR 2 217 z.2, oB 3 [.v (I (aM x0).2), .v (I (aM x1).2), .r 2, .v (.slice none 0 0)], oB 1 (lbx z.1)])
    fun z hz =>
     let i3 : z.1.in_ := by rw [hz]; exact (iM (gK linB) i2 4).1
     cmL z.1 i3 <| .s ((8 : Int) < (aM z.1).2)
      (fun h8 => aF4 s aC (aM x0).2 (aM x1).2 (aM z.1).2 z.2 ⟨cO _, cO _⟩ (jP _) ⟨(aM z.1).1.s, (aM z.1).1.at_, true⟩ (bE i3) (fun w hw => by
       show _ = (fun z : LIn × List (List Entry) => (fun w : LIn × List Run => (w.1, (⟨(aM x0).2, (aM x1).2, z.2, w.2⟩ : Yard))) (bA LIn.bad (eT linR) (uJ 8 (aM z.1).2 (aM z.1).1) (aM z.1).2.toNat)) (bA LIn.bad (cM linR) x2 4)
       rw [← hz]
       show _ = (fun w : LIn × List Run => (w.1, (⟨(aM x0).2, (aM x1).2, z.2, w.2⟩ : Yard))) (bA LIn.bad (eT linR) (uJ 8 (aM z.1).2 (aM z.1).1) (aM z.1).2.toNat)
       rw [yW h8, ← hw]))
      (fun h8 => aF4 s aC (aM x0).2 (aM x1).2 (aM z.1).2 z.2 ⟨cO _, cO _⟩ (jP _) (aM z.1).1 (bE i3) (fun w hw => by
       show _ = (fun z : LIn × List (List Entry) => (fun w : LIn × List Run => (w.1, (⟨(aM x0).2, (aM x1).2, z.2, w.2⟩ : Yard))) (bA LIn.bad (eT linR) (uJ 8 (aM z.1).2 (aM z.1).1) (aM z.1).2.toNat)) (bA LIn.bad (cM linR) x2 4)
       rw [← hz]
       show _ = (fun w : LIn × List Run => (w.1, (⟨(aM x0).2, (aM x1).2, z.2, w.2⟩ : Yard))) (bA LIn.bad (eT linR) (uJ 8 (aM z.1).2 (aM z.1).1) (aM z.1).2.toNat)
       rw [yX h8, ← hw])))) aD
def yardNew : Yard := ⟨0, 1, List.replicate 4 [], []⟩
def vP : Engine := ⟨yardNew, ⟨[]⟩, 1, 0, [], 1, false⟩
def worldNew : WorldD := ⟨vP, [], [], 0, 0⟩

theorem YardNewI :
  Calls prog 102 #[] w (rO_ yardNew w) := by
 refine aH8 func102 rfl ntmps102 aV (wp_seq (aA (sg (bO mE (St.start w) ?_)))); intro b1 W2 hb3 st4
 refine aB (wp_seq (aA (sg (pJ (α := (List Entry)) (N := 4) (v := .slice none 0 0) (z := ([] : List Entry)) nT aD rfl rfl aC aC st4 (fun W => ⟨_, rfl, nil_Sl⟩) ?_)))); intro b6 fp10 W7 hb8 st9
 refine sg (uW (vs := [(1, I 1), (2, (.slice (some ⟨b6, 0, none⟩) 4 4))]) (cs := [I 0, I 1, (.slice (some ⟨b6, 0, none⟩) 4 4), .slice none 0 0]) (fQ (v := I 1) rfl (fQ (v := (.slice (some ⟨b6, 0, none⟩) 4 4)) rfl kM)) aD ?_)
 have st12 := st9.f1
 refine sg (eF aD rfl rfl (dQ rfl (dQ rfl (dQ (Sl.one (aS (st12.get 1 rfl))) (dQ rfl oN)))) st12 gC rfl ?_); intro W13 st14
 refine aB (wp_ret ?_); repeat first|refine sA ?_|refine wU ?_
 refine aA4 fM rfl results102 rfl (st14.get 0 rfl) rfl ?_
 have st15 := St.own_nil (α := Run) st14
 have st17 := st15.f2
 have st18 := pN (x := yardNew) st17 (by simp [worldNew, vP, yardNew, WorldD.ok, Engine.ok, Yard.ok, Disk.ok, I64])
 exact ⟨_, _, rfl, st18.only 0 rfl⟩
theorem YardNewS :
  Calls prog 125 #[] w (rO_ yardNew w) := by
 refine aH8 func125 rfl ntmps125 aV (wp_seq (aA (sg (bO mE (St.start w) ?_)))); intro b1 W2 hb3 st4
 refine aB (wp_seq (aA (sg (uW (vs := [(1, I 1)]) (cs := [I 0, I 1, .slice none 0 0, .slice none 0 0]) (fQ (v := I 1) rfl kM) aD (sg (bO mE st4 ?_)))))); intro b6 W7 hb8 st9
 refine sg (eF aD rfl rfl (dQ rfl (dQ rfl (dQ rfl (dQ rfl oN)))) st9 gC rfl ?_); intro W11 st12
 refine aB (wp_seq (wp_seq (aA ?_)))
 have st13 := st12.row_nil (α := List Entry) 217
 skip
 refine sg (aE (aB (wp_block (aP (fun (m : Nat) (f : Nat → Value) (W : World) => ∃ (k : Nat) (v15 : Value), k ≤ 4 ∧ m = 4 - k ∧ f 0 = pt_ b1 ∧ f 1 = pt_ b6 ∧ f 2 = I (k : Int) ∧ St w W ([Res.row (α := (List Entry)) 217 v15 (List.replicate k ([] : List Entry)) [], Res.bx b6 [I 0, I 1, v15, .slice none 0 0] 27, Res.bx b1 [I 0, I 0, .slice none 0 0, .slice none 0 0] 27])) (4 - 0) ?_ ?_))))
 ·exact ⟨0, (.slice none 0 0), aC, rfl, rfl, rfl, rfl, st13⟩
 intro m16 f17 W18 hJ19
 obtain ⟨k, v15, hcd21_0, rfl, hs21_0, hs21_1, hs21_2, st20⟩ := hJ19
 refine wp_seq (wp_seq (aA (sg (aG (v := I (k : Int)) hs21_2 (sg (bL rfl rfl (aB (bU rfl (fun h22 => ?_) (fun h22 => ?_)))))))))
 ·have h22p := of_decide_eq_true h22
  refine wp_skip (wp_seq (wp_block (aA (sg (bD vL hs21_1 (sg (cX ld_EntrySS rfl rfl (st20.get 1 rfl) (i := 2) rfl rfl (sg (aW (cs := []) (e := 243) kM (eS mR _) st20 ?_))))))))); intro b23 W24 hb25 st26
  have st26 := st26.row_empty (α := Entry)
  refine sg (aW (cs := [(.slice (some ⟨b23, 0, none⟩) 0 0)]) (e := 217) (fQ (v := (.slice (some ⟨b23, 0, none⟩) 0 0)) rfl kM) (bT nT _ _ rfl rfl aV) st26 ?_); intro b28 W29 hb30 st31
  have st33 := st31.f2
  refine sg (cU (ys := [[]]) nT rfl rfl rfl st33 (Elems.one1 ⟨_, rfl, row_Sl0 (st33.get 2 rfl)⟩) (by rw [length_replicate]; unfold maxLen; omega) (by rw [length_replicate]; omega) ?_); intro v34 W35 st36
  refine sg (bD vL hs21_1 ?_)
  have st37 := st36.f2
  refine sg (eU (v := v34) aD rfl rfl (Sl.cells (gB (st37.get 1 rfl))) (Sl.one (gB (st37.get 1 rfl))) st37 gC rfl ?_); intro W38 st39
  refine aB (aA (sg (aG (v := I (k : Int)) hs21_2 (sg (bN rfl rfl eC ?_)))))
  have st40 := st39.row_nil (α := List Entry) 217
  skip
  refine sg (aF (v := I ((k : Int) + 1)) rfl (aB ?_))
  have st42 := st40.f4
  have st43 := st42.f2
  have st44 := st43.f3
  have st45 := st44.d3
  have st46 := st45.d3
  exact ⟨_, 4 - (k + 1), aC, rfl, k + 1, v34, aC, rfl, hs21_0, hs21_1, rfl, (by rw [replicate_succ']; exact st46)⟩
 have h22p := of_decide_eq_false h22
 refine wp_exit (wp_seq (aA (sg (cE (cs := [I 0, I 1, v15, .slice none 0 0]) fM rfl hs21_1 (st20.get 1 rfl) rfl rfl ?_))))
 have st47 := st20.f2
 refine sg (eF aD hs21_0 rfl (dQ rfl (dQ rfl (dQ (Sl.one (gB (st47.get 1 rfl))) (dQ rfl oN)))) st47 gC rfl ?_); intro W48 st49
 refine aB (wp_ret ?_); repeat first|refine sA ?_|refine wU ?_
 refine aA4 fM rfl results125 hs21_0 (st49.get 0 rfl) rfl ?_
 obtain rfl : k = 4 := by omega
 have st50 := st49.f1
 obtain ⟨fp52, st51⟩ := st50.shut
 have st53 := St.own_nil (α := Run) st51
 have st55 := st53.f1
 have st56 := pN (x := yardNew) st55 (by simp [yardNew, Yard.ok, I64])
 exact ⟨_, _, rfl, st56.only 0 rfl⟩
theorem aF9 {w W : World} {e : Ending} {x : Yard} (h : ∃ (cs' : List Value) (fp' : List Nat), e = .returned (.agg cs'.toArray) ∧ St w W [Res.own (.agg cs'.toArray) x fp']) : ∃ (a : Unit) (vs : List Value) (rs : List Res), True ∧ e = .returned (wE vs) ∧ Rks vs [Rk.S x] rs ∧ St w W rs := by
 obtain ⟨cs, fp, he, st⟩ := h
 exact ⟨(), [.agg cs.toArray], [Res.cs cs x fp], trivial, he, ⟨[Res.cs cs x fp], [], ⟨cs, fp, rfl, rfl⟩, rfl, rfl⟩, st.cs rfl⟩
theorem YardNewD : Ct1 prog 102 [] [.S yardNew] := ⟨fun w us _ hp => by
 match us, hp with
 | [], _ => exact (YardNewI w).mono fun e w' h => aF9 h⟩
theorem YardNewSD : Ct1 prog 125 [] [.S yardNew] := ⟨fun w us _ hp => by
 match us, hp with
 | [], _ => exact (YardNewS w).mono fun e w' h => aF9 h⟩
noncomputable def moC (d : Disk) : Yard × Int × Bool := moR yardNew (rmS dE) d
theorem file_wt_le {d : Disk} {f : File} (h : f ∈ d.files) : f.wt ≤ d.wt := by
 have := rB (g := fun q : File => q.wt) h
 unfold Disk.wt wtL
 omega
theorem yA (d : Disk) : d.files.length ≤ d.wt := by unfold Disk.wt wtL; omega
theorem sS (d : Disk) (nm : ByteArray) : (eJ d.files nm).size ≤ d.wt := by
 unfold eJ
 split
 ·exact Nat.zero_le _
 cases h : d.files[(fAt d.files nm).toNat]? with
 | none => exact Nat.zero_le _
 | some f =>
  have := file_wt_le (mem_of_getElem? h)
  show f.data.size ≤ _
  unfold File.wt at this
  omega
theorem readYS_wt {s : ByteArray} (h : (dE s).2 = true) : (dE s).1.wt ≤ s.size := by
 unfold dE at h ⊢
 split at h
 ·next hc => rw [if_pos hc]; exact wZ aC hc.2.1
 cases h
theorem moC_wt (d : Disk) : (moC d).1.wt ≤ d.wt + 100 := by
 unfold moC moR
 split
 ·have : yardNew.wt ≤ 100 := by decide
  simp only; omega
 unfold rmS
 split
 ·next hc =>
  have h1 := readYS_wt hc.2.2.2.2.2
  have h2 := sS d eB
  rw [ByteArray.size_extract] at h1
  simp only; omega
 have : yard0.wt ≤ 100 := by decide
 simp only; omega
theorem MarkOfID (d : Disk) (hw : d.wt ≤ 1048576) : Ct1 prog 25 [.S d] [.S (moC d).1, .I (moC d).2.1, .B (moC d).2.2] := by
 have hs : (eJ d.files eB).size ≤ 1048576 := Nat.le_trans (sS d eB) hw
 have hl : d.files.length ≤ 1048576 := Nat.le_trans (yA d) hw
 have hR := ReadMarkI cY fT (eJ d.files eB) hs (fun t ht => ReadYardI t ht) (fun t ht h => Nat.le_trans (readYI_wt h) ht) (fun y hy => vX y hy) (fun y hy => yardT_size hy)
 rw [rm_eq] at hR
 exact MarkOfI yardNew (rmS dE) d (aD6 d eB) (ReadFileI d eB hl) YardNewD hR
theorem MarkOfSD (d : Disk) (hw : d.wt ≤ 1048576) : Ct1 prog 34 [.S d] [.S (moC d).1, .I (moC d).2.1, .B (moC d).2.2] := by
 have hs : (eJ d.files eB).size ≤ 1048576 := Nat.le_trans (sS d eB) hw
 have hl : d.files.length ≤ 1048576 := Nat.le_trans (yA d) hw
 exact MarkOfS yardNew (rmS dE) d hl YardNewSD (ReadMarkS dE (eJ d.files eB) hs (fun t ht => ReadYardS t ht))
noncomputable def moY (d : Disk) : Yard := (moC d).1
noncomputable def moN (d : Disk) : Int := (moC d).2.1
noncomputable def moB (d : Disk) : Bool := (moC d).2.2
theorem own_3 {w W : World} {n : Int} {b : Bool} {x : Yard} {vs : List Value} {rs : List Res} {e : Ending} (he : e = .returned (wE vs)) (hr : Rks vs [Rk.S x, Rk.I n, Rk.B b] rs) (st : St w W rs) : ∃ (cs' : List Value) (fp' : List Nat), e = .returned (.tuple #[.agg cs'.toArray, I n, .bool b]) ∧ St w W [Res.own (.agg cs'.toArray) x fp'] := by
 match vs, hr with
 | [v1, v2, v3], hr =>
  obtain ⟨r1, r2, h1, h2, h6⟩ := hr
  obtain ⟨cs, fp, hv1, hr1⟩ := h1
  obtain ⟨r3, r4, h3, h4, h5⟩ := h2
  obtain ⟨hv2, hr3⟩ := h3
  obtain ⟨r5, r6, h7, h8, h9⟩ := h4
  obtain ⟨hv3, hr5⟩ := h7
  have h8 : r6 = [] := h8
  subst h8 hr5 h9 hr3 h5 hr1 h6 hv1 hv2 hv3
  refine ⟨cs, fp, he, ?_⟩
  have st2 : St w W (Res.cs cs x fp :: []) := st
  exact st2.trade1 rfl fun h => ⟨⟨cs, rfl, h.1⟩, h.2⟩
theorem yF {d : Disk} (hc : Shape.C w cs d fp) (hw : d.wt ≤ 1048576) : Calls prog 25 #[.agg cs.toArray] w fun e W => ∃ (cs' : List Value) (fp' : List Nat), e = .returned (.tuple #[.agg cs'.toArray, I (moN d), .bool (moB d)]) ∧ St w W [Res.own (.agg cs'.toArray) (moY d) fp'] :=
 ((MarkOfID d hw).run w [.agg cs.toArray] trivial ⟨⟨cs, fp, rfl, hc⟩, trivial⟩).mono fun e W ⟨_, vs, rs, _, he, hr, st⟩ => own_3 he hr st
theorem MarkOfSC {d : Disk} (hc : Shape.C w cs d fp) (hw : d.wt ≤ 1048576) : Calls prog 34 #[.agg cs.toArray] w fun e W => ∃ (cs' : List Value) (fp' : List Nat), e = .returned (.tuple #[.agg cs'.toArray, I (moN d), .bool (moB d)]) ∧ St w W [Res.own (.agg cs'.toArray) (moY d) fp'] :=
 ((MarkOfSD d hw).run w [.agg cs.toArray] trivial ⟨⟨cs, fp, rfl, hc⟩, trivial⟩).mono fun e W ⟨_, vs, rs, _, he, hr, st⟩ => own_3 he hr st
def dch (k : Nat) : ByteArray := ⟨#[UInt8.ofNat (48 + k % 10)]⟩
def uK (k : Nat) (out : ByteArray) : ByteArray := if h : k = 0 then out else uK (k / 10) (dch k ++ out)
termination_by k
decreasing_by omega
theorem aH6 (out : ByteArray) : uK 0 out = out := by rw [uK]; simp
theorem aH5 {k : Nat} (h : 0 < k) (out : ByteArray) : uK k out = uK (k / 10) (dch k ++ out) := by
 conv => lhs; rw [uK]
 rw [dif_neg aC]
theorem figs_size : ∀ (k : Nat) (out : ByteArray), (uK k out).size ≤ k + out.size := by
 intro k
 induction k using Nat.strongRecOn with
 | _ k ih =>
  intro out
  by_cases h : k = 0
  ·subst h; rw [aH6]; omega
  rw [aH5 aC]
  have := ih (k / 10) aC (dch k ++ out)
  rw [ByteArray.size_append] at this
  have e : (dch k).size = 1 := rfl
  omega
def bM : ByteArray := ⟨#[109]⟩
def bM0 : ByteArray := ⟨#[109, 48]⟩
def iV (k : Int) : ByteArray := if k ≤ 0 then bM0 else bM ++ uK k.toNat ⟨#[]⟩

theorem dch_eq (K : Nat) : (⟨#[UInt8.ofNat (48 + (K : Int) % 10).toNat]⟩ : ByteArray) = dch K := by
 have : (48 + (K : Int) % 10).toNat = 48 + K % 10 := by omega
 rw [this]; rfl
theorem tD {k : Int} (h : k ≤ 4611686018427387904) : (iV k).size ≤ maxLen := by
 unfold iV maxLen
 split
 ·show 2 ≤ _; omega
 rw [ByteArray.size_append]
 have := figs_size k.toNat ⟨#[]⟩
 have e1 : bM.size = 1 := rfl
 have e2 : (⟨#[]⟩ : ByteArray).size = 0 := rfl
 omega
theorem size_app (a b : ByteArray) : (a ++ b).size = a.size + b.size := ByteArray.size_append

theorem tF (k : Int) (hk : k ≤ 4611686018427387904) :
  Calls prog 247 #[I k] w fun e w' => e = .returned (.string (iV k)) ∧ St w w' [] := by
 refine dS func247 rfl ntmps247 aV (wp_seq (aA (sg (aF (v := .string (⟨#[]⟩ : ByteArray)) rfl (aB (wp_seq (wp_seq (aA (sg (aG (v := I k) rfl (sg (zY rfl rfl (aB (aJ rfl (fun h5p => ?_) (fun h5p => ?_)))))))))))))))
 ·refine wp_seq (aA (sg (aF (v := .string (⟨#[109, 48]⟩ : ByteArray)) rfl (aB (wr (aL results247 rfl ?_))))))
  exact ⟨congrArg (fun z => Ending.returned (.string z)) (by unfold iV; rw [if_pos aC]; rfl), (St.start w).bare⟩
 refine wp_skip (wp_seq (aA (sg (aF (v := .string (⟨#[]⟩ : ByteArray)) rfl (aB (wp_seq (wp_block (aP (fun (m : Nat) (f : Nat → Value) (W : World) => ∃ (K : Nat) (out : ByteArray), uK K out = uK k.toNat ⟨#[]⟩ ∧ out.size + K ≤ k.toNat ∧ m = 2 * K ∧ Ag [(0, I (K : Int)), (3, .string out)] f ∧ St w W ([])) (2 * k.toNat) ?_ ?_))))))))
 ·exact ⟨k.toNat, ⟨#[]⟩, rfl, (by show 0 + _ ≤ _; omega), rfl, (Ag.cons (Eq.trans (show _ = I k from rfl) (show I k = I ((k.toNat : Nat) : Int) from congrArg I aC)) (Ag.cons rfl Ag.nil)), (St.start w)⟩
 intro m10 f11 W12 hJ13
 obtain ⟨K, out, hfig, hsz, rfl, hA15, st14⟩ := hJ13
 refine wp_seq (wp_seq (aA (sg (aG (hA15.at 0) (sg (wB rfl rfl (aB (aJ rfl (fun h18p => ?_) (fun h18p => ?_)))))))))
 ·refine wp_skip (wp_block (wp_seq (aA (rn st14 3 hA15.put.put [] [(10, I (48 + ((K : Int) % 10)))] [qq (K : Int) 10, .ad 48 ((K : Int) % 10) (by (simp only [I64]; omega))] aD fun f20 h20_ => (sg (lL aD underlying5 (h20_.at 10) aC (sg (aW (cs := [.int .u8 (48 + ((K : Int) % 10))]) (e := 5) (fQ (v := .int .u8 (48 + ((K : Int) % 10))) rfl kM) (bT eV _ _ rfl rfl aV) st14 ?_)))))))); intro b21 W22 hb23 st24
  refine sg (stp_str1 underlying22 underlying5 underlying9 rfl (st24.get 0 rfl) aC (sg (aG (h20_.at 3) (sg (sD rfl rfl (by show 1 + out.size ≤ _; omega) (sg (aF (v := .string ((⟨#[UInt8.ofNat (48 + ((K : Int) % 10)).toNat]⟩ : ByteArray) ++ out)) rfl (aB (aA (rn st24 3 h20_.put.put.put.put.put.put [0] [(0, I ((K : Int) / 10))] [qq (K : Int) 10] aD fun f31 h31_ => (aB ?_)))))))))))
  exact ⟨_, 2 * (K / 10), aC, rfl, K / 10, (dch K ++ out), (by rw [← aH5 aC]; exact hfig), (by rw [size_app]; show 1 + _ + _ ≤ _; omega), rfl, (Ag.cons (Eq.trans (show _ = I ((K : Int) / 10) from (h31_.at 0)) (show _ = I ((K / 10 : Nat) : Int) from congrArg I aC)) (Ag.cons (Eq.trans (show _ = (.string ((⟨#[UInt8.ofNat (48 + ((K : Int) % 10)).toNat]⟩ : ByteArray) ++ out) : Value) from (h31_.at 3)) (show _ = Value.string (dch K ++ out) from by rw [dch_eq])) Ag.nil)), st24.d0⟩
 refine wp_exit (wp_seq (aA (sg (aG (hA15.at 3) (sg (sD rfl rfl (by show 1 + out.size ≤ _; omega) (sg (aF (v := .string ((⟨#[109]⟩ : ByteArray) ++ out)) rfl (aB (wr (aL results247 rfl ?_)))))))))))
 obtain rfl : K = 0 := by omega
 rw [aH6] at hfig
 exact ⟨congrArg (fun z => Ending.returned (.string z)) (by unfold iV; rw [if_neg aC, ← hfig]; rfl), st14.bare⟩
def mkL {α : Type} (f : α → Int → α) (n : α → Nat) : List α → Int → List α
 | [], _ => []
 | x :: xs, k => f x k :: mkL f n xs (k + (n x : Nat))
def cL {α : Type} (n : α → Nat) (xs : List α) : Nat := (xs.map n).sum
section
variable {α : Type} {f : α → Int → α} {n : α → Nat}
theorem dH : ∀ (xs : List α) (k : Int), (mkL f n xs k).length = xs.length
 | [], _ => rfl
 | x :: xs, k => by simp [mkL, dH xs]
theorem cL_take (n : α → Nat) (xs : List α) (i : Nat) (h : i < xs.length) : cL n (xs.take (i + 1)) = cL n (xs.take i) + n xs[i] := rV n xs i h
theorem dV (n : α → Nat) (xs : List α) (i : Nat) : cL n (xs.take i) ≤ cL n xs := iA n xs i
theorem iY (n : α → Nat) (xs : List α) (i : Nat) (h : i = xs.length) : cL n (xs.take i) = cL n xs := by subst h; rw [take_length]
theorem nQ : ∀ (xs ys : List α) (k : Int), mkL f n (xs ++ ys) k = mkL f n xs k ++ mkL f n ys (k + (cL n xs : Nat))
 | [], ys, k => by simp [mkL, cL]
 | x :: xs, ys, k => by
  simp only [cons_append, mkL, nQ xs ys, cL, map_cons, sum_cons]
  congr 3
  push_cast; omega
theorem mk_get? {xs : List α} {k : Int} {i : Nat} (h : i < xs.length) : (mkL f n (xs.take i) k ++ xs.drop i)[i]? = some xs[i] := by
 have hl : (mkL f n (xs.take i) k).length = i := by rw [dH, length_take]; omega
 rw [getElem?_append_right aC, hl, Nat.sub_self, getElem?_drop, Nat.add_zero, getElem?_eq_getElem h]
theorem mk_step {xs : List α} {k K : Int} {i : Nat} (h : i < xs.length) (hK : K = k + (cL n (xs.take i) : Nat)) : (mkL f n (xs.take i) k ++ xs.drop i).set i (f xs[i] K) = mkL f n (xs.take (i + 1)) k ++ xs.drop (i + 1) := by
 have hl : (mkL f n (xs.take i) k).length = i := by rw [dH, length_take]; omega
 rw [set_append_right _ _ aC, hl, Nat.sub_self, drop_eq_getElem_cons h, set_cons_zero, take_succ_eq_append_getElem h, nQ, append_assoc]
 subst hK
 rfl
theorem pS {xs : List α} {k : Int} {i : Nat} (h : i = xs.length) : mkL f n (xs.take i) k ++ xs.drop i = mkL f n xs k := by subst h; simp
theorem mk_get {xs : List α} {k : Int} {i : Nat} (h : i < xs.length) : (mkL f n xs k)[i]? = some (f xs[i] (k + (cL n (xs.take i) : Nat))) := by
 have e : xs = xs.take i ++ xs.drop i := by simp
 have hl : (mkL f n (xs.take i) k).length = i := by rw [dH, length_take]; omega
 conv => lhs; rw [e, nQ]
 rw [getElem?_append_right aC, hl, Nat.sub_self, drop_eq_getElem_cons h]
 rfl
theorem idxm [Shape α] {w : World} {v : Value} {xs : List α} {fp : List Nat} {k K : Int} (hs : Sl w v (mkL f n xs k) fp) {i : Nat} (hi : i < xs.length) (hK : K = k + (cL n (xs.take i) : Nat)) : ∃ b o cs f1, PA v (Shape.size α) i b o ∧ w.rangeAt b o cs ∧ Shape.C w cs (f xs[i] K) f1 ∧ ∀ c ∈ b :: f1, c ∈ fp := by
 obtain ⟨b, o, cs, f1, h1, h2, h3, h4⟩ := idx hs (i := i) (by rw [dH]; exact hi)
 refine ⟨b, o, cs, f1, h1, h2, ?_, h4⟩
 have := mk_get (f := f) (n := n) (xs := xs) (k := k) hi
 obtain ⟨hl, he⟩ := gsi_.1 this
 rw [he, ← hK] at h3
 exact h3
end
section
variable {α : Type} {f : α → Int → α} {n : α → Nat}
theorem fL (n : α → Nat) {xs : List α} {i : Nat} {y : α} (h : xs[i]? = some y) : cL n (xs.take (i + 1)) = cL n (xs.take i) + n y := by
 obtain ⟨hl, rfl⟩ := gsi_.1 h
 exact cL_take n xs i hl
theorem mJ {xs : List α} {k : Int} {i : Nat} {y : α} (h : xs[i]? = some y) : (mkL f n (xs.take i) k ++ xs.drop i)[i]? = some y := by
 obtain ⟨hl, rfl⟩ := gsi_.1 h
 exact mk_get? hl
theorem jQ {xs : List α} {k K : Int} {i : Nat} {y : α} (h : xs[i]? = some y) (hK : K = k + (cL n (xs.take i) : Nat)) : (mkL f n (xs.take i) k ++ xs.drop i).set i (f y K) = mkL f n (xs.take (i + 1)) k ++ xs.drop (i + 1) := by
 obtain ⟨hl, rfl⟩ := gsi_.1 h
 exact mk_step hl hK
theorem xT [Shape α] {w : World} {v : Value} {xs : List α} {fp : List Nat} {k K : Int} {y : α} (hs : Sl w v (mkL f n xs k) fp) {i : Nat} (hi : xs[i]? = some y) (hK : K = k + (cL n (xs.take i) : Nat)) : ∃ b o cs f1, PA v (Shape.size α) i b o ∧ w.rangeAt b o cs ∧ Shape.C w cs (f y K) f1 ∧ ∀ c ∈ b :: f1, c ∈ fp := by
 obtain ⟨hl, rfl⟩ := gsi_.1 hi
 exact idxm hs hl hK
end
theorem gJ {α : Type} {xs : List α} {i : Nat} (h : i < xs.length) : ∃ y, xs[i]? = some y := ⟨_, getElem?_eq_getElem h⟩
def Bd (x : Int) (r : Nat) : Prop := 0 ≤ x ∧ x + r ≤ 4611686018427387904
theorem Bd.up {x : Int} {r : Nat} (h : Bd x (1 + r)) : Bd (x + 1) r := by unfold Bd at *; omega
theorem Bd.upc {x : Int} {c r : Nat} (h : Bd x (c + r)) : Bd (x + (c : Nat)) r := by unfold Bd at *; omega
theorem Bd.i64 {x : Int} {r : Nat} (h : Bd x r) : I64 x := by unfold Bd I64 at *; omega
theorem Bd.lo {x : Int} {r : Nat} (h : Bd x r) : 0 ≤ x := h.1
theorem Bd.hi {x : Int} {c r : Nat} (h : Bd x (c + r)) : x + (c : Nat) ≤ 4611686018427387904 := by unfold Bd at *; omega
def aO (x : Edge) : Nat := 2
def fY (x : Edge) (k : Int) : Edge := ⟨k, k + 1⟩

def aH (x : Entry) : Nat := 4
def cP (x : Entry) (k : Int) : Entry := ⟨k, k + 1, (k + 1) + 1, ((k + 1) + 1) + 1⟩

def aY (x : Task) : Nat := 4
def fX (x : Task) (k : Int) : Task := ⟨k, k + 1, (k + 1) + 1, ((k + 1) + 1) + 1⟩

def bK (x : Run) : Nat := 6 + cL aO x.plan.edges + cL aY x.tasks
def iL (x : Run) (k : Int) : Run := ⟨k, ⟨k + 1, (k + 1) + 1, ((k + 1) + 1) + 1, (((k + 1) + 1) + 1) + 1, mkL fY aO x.plan.edges (((((k + 1) + 1) + 1) + 1) + 1)⟩, (((((k + 1) + 1) + 1) + 1) + 1) + (cL aO x.plan.edges : Nat), mkL fX aY x.tasks (((((((k + 1) + 1) + 1) + 1) + 1) + (cL aO x.plan.edges : Nat)) + 1)⟩

def cN (x : Yard) : Nat := cL (cL aH) x.shelf + cL bK x.runs
def tE (x : Yard) (k : Int) : Yard := ⟨x.now, x.seq, mkL (mkL cP aH) (cL aH) x.shelf k, mkL iL bK x.runs (k + (cL (cL aH) x.shelf : Nat))⟩

def cJ (x : File) : Nat := 3
def lU (x : File) (k : Int) : File := ⟨iV k, iV (k + 1), (k + 1) + 1⟩

def iD (x : Disk) : Nat := cL cJ x.files
def xR (x : Disk) (k : Int) : Disk := ⟨mkL lU cJ x.files k⟩

/-! ### How many numbers the marks take -/
theorem pE {α : Type} {n f : α → Nat} (h : ∀ x, n x ≤ 16 * (1 + f x)) : ∀ xs : List α, cL n xs ≤ 16 * wtL f xs
 | [] => by simp [cL, wtL]
 | x :: xs => by
  have h1 := h x
  have h2 := pE h xs
  simp only [cL, wtL, map_cons, sum_cons, length_cons] at *
  omega
theorem rP {α : Type} {n : α → Nat} {c : Nat} (h : ∀ x, n x ≤ c) : ∀ xs : List α, cL n xs ≤ c * xs.length
 | [] => by simp [cL]
 | x :: xs => by
  have h1 := h x
  have h2 := rP h xs
  simp only [cL, map_cons, sum_cons, length_cons, Nat.mul_add] at *
  omega

theorem cb_EdgeS (xs : List Edge) : cL aO xs ≤ 16 * xs.length := Nat.le_trans (rP (n := aO) (c := 16) (fun y => by simp [aO]) xs) (Nat.le_refl _)
theorem cb_EntryS (xs : List Entry) : cL aH xs ≤ 16 * xs.length := Nat.le_trans (rP (n := aH) (c := 16) (fun y => by simp [aH]) xs) (Nat.le_refl _)
theorem cb_TaskS (xs : List Task) : cL aY xs ≤ 16 * xs.length := Nat.le_trans (rP (n := aY) (c := 16) (fun y => by simp [aY]) xs) (Nat.le_refl _)
theorem nb_Run (x : Run) : bK x ≤ 16 * (1 + x.wt) := by
 have h0 := cb_EdgeS x.plan.edges; have h1 := cb_TaskS x.tasks; simp only [bK, Plan.wt, Run.wt, Yard.wt, Deed.wt, Note.wt, File.wt, Disk.wt, Engine.wt, WorldD.wt, ActD.wt, Span.wt, Crew.wt] at *; omega
theorem cb_RunS (xs : List Run) : cL bK xs ≤ 16 * (wtL (fun y : Run => y.wt) xs) := pE (n := bK) (f := fun y : Run => y.wt) (fun y => nb_Run y) xs
theorem cb_EntrySS (xs : List (List Entry)) : cL (cL aH) xs ≤ 16 * (wtL (fun y : List Entry => y.length) xs) := pE (n := cL aH) (f := fun y : List Entry => y.length) (fun y => by have := cb_EntryS y; omega) xs
theorem wN (x : Yard) : cN x ≤ 16 * x.wt := by
 have h2 := cb_EntrySS x.shelf; have h3 := cb_RunS x.runs; unfold cN; have hw : x.wt = (wtL (fun y : List Entry => y.length) x.shelf) + (wtL (fun y : Run => y.wt) x.runs) := rfl; omega
theorem nb_File (x : File) : cJ x ≤ 16 * (1 + x.wt) := by unfold cJ; omega
theorem cb_FileS (xs : List File) : cL cJ xs ≤ 16 * (wtL (fun y : File => y.wt) xs) := pE (n := cJ) (f := fun y : File => y.wt) (fun y => nb_File y) xs
theorem nt_Disk (x : Disk) : iD x ≤ 16 * x.wt := by
 have h0 := cb_FileS x.files; unfold iD; have hw : x.wt = (wtL (fun y : File => y.wt) x.files) := rfl; omega
theorem markEdgeS_n {w W0 : World} {rs : List Res} {v : Value} {xs : List Edge} {fp : List Nat} (hst : St w W0 (Res.own v xs fp :: rs)) (k : Int) (h0 : 0 ≤ k) (hk : k + (cL aO xs : Nat) ≤ 4611686018427387904) :
  Calls prog 175 #[v, I k] W0 fun e w' => ∃ fp', e = .returned (I (k + (cL aO xs : Nat))) ∧ St w w' (Res.own v (mkL fY aO xs k) fp' :: rs) := by
 have hcap := (aS (hst.get 0 rfl)).len_le
 refine bI func175 rfl ntmps175 aV (wp_seq (aA (sg (aE (aB (wp_seq (wp_seq (aA (sg (aE (aB (wp_block (aP (fun (m : Nat) (f : Nat → Value) (W : World) => ∃ (i : Nat) (K : Int) (fo5 : List Nat), i ≤ xs.length ∧ K = k + (cL aO (xs.take i) : Nat) ∧ m = xs.length - i ∧ Ag [(0, v), (1, I K), (5, I (i : Int))] f ∧ St w W (Res.own (α := List Edge) v (mkL fY aO (xs.take i) k ++ xs.drop i) fo5 :: rs)) (xs.length - 0) ?_ ?_)))))))))))))
 ·exact ⟨0, k, fp, Nat.zero_le _, (by simp [cL]), rfl, (Ag.nil.put.put.put.put.to aD), (by simpa [mkL] using hst)⟩
 intro m6 f7 W8 hJ9
 obtain ⟨i, K, fo5, hi, hK, rfl, hA11, st10⟩ := hJ9
 have hlx : (mkL fY aO (xs.take i) k ++ xs.drop i).length = xs.length := by rw [length_append, dH, length_take, length_drop]; omega
 refine wp_seq (wp_seq (aA (rn st10 4 hA11 [] [(9, .bool (decide ((i : Int) < ((mkL fY aO (xs.take i) k ++ xs.drop i).length : Int))))] [ql (aS (st10.get 0 rfl)), .o] aD fun f13 h13_ => (aB (aJ (h13_.at 9) (fun h14p => ?_) (fun h14p => ?_))))))
 ·refine wp_skip (wp_seq (wp_block (wp_seq (aA (rn st10 3 h13_ [] [(12, v), (13, I (i : Int)), (14, I K)] [] aD fun f16 h16_ => ?_)))))
  have hq_ := gJ (xs := xs) (i := i) aC
  obtain ⟨y, hy⟩ := hq_
  have hcs := fL aO hy
  have hcl := dV aO xs (i + 1)
  have hne : aO y = 2 := rfl
  have hb17 : Bd K (1 + (1 + (0))) := ⟨by omega, by omega⟩
  have hq_ := St.lendx (α := Edge) aV st10 (x := y) (mJ hy)
  obtain ⟨b18, e18, pre18, cs18, post18, fi18, fr18, hPA18, hC18, st19⟩ := hq_
  obtain ⟨he18, hf18, hok18⟩ := hC18; have he18 : _ = [I y.from_, I y.to_] := he18; subst he18
  refine sg (bG lO (h16_.at 12) hPA18 (h16_.at 13) rfl (sg (bD vN rfl (sgn (bB (i := 0) (v := I K) aD rfl (h16_.at 14) rfl rfl st19.d1 rfl gC rfl ?_))))); intro W26 st27
  refine aB (wp_seq (aA ?_))
  have hb29 := hb17.up
  refine rn st27 3 h16_.put.put [1] [(1, I (K + 1))] [.ad K 1 hb29.i64] aD fun f30 h30_ => (aB (wp_seq (aA (rn st27 5 h30_ [] [(21, I (K + 1)), (23, .pointer (some ⟨b18, pre18.length + 1, none⟩))] [qx hPA18] aD fun f32 h32_ => (sgn (bB (i := 1) (v := I (K + 1)) aD (h32_.at 23) (h32_.at 21) rfl rfl st27 rfl gC rfl ?_)))))); intro W33 st34
  refine aB (aA ?_)
  have hb36 := hb29.up
  refine rn st34 3 h32_ [1] [(1, I ((K + 1) + 1))] [.ad (K + 1) 1 hb36.i64] aD fun f37 h37_ => (aB (aA (rn st34 3 h37_ [5] [(5, I ((i : Int) + 1))] [qad (i : Int) 1] aD fun f39 h39_ => (aB ?_))))
  have st40 := st34.cs0 (cs := [I K, I (K + 1)]) (x := (⟨K, K + 1⟩ : Edge)) ⟨rfl, rfl, qW⟩
  obtain ⟨fp45, st46⟩ := St.give (α := Edge) st40.f2.f1.f2
  exact ⟨_, xs.length - (i + 1), aC, rfl, i + 1, (K + 1) + 1, fp45, aC, aC, rfl, (h39_.to aD), (by rw [← jQ hy hK]; exact st46)⟩
 refine wp_exit (wp_seq (aA (sg (aG (h13_.at 1) (sg (aF (v := I K) rfl (aB (wr (aL results175 rfl ?_)))))))))
 obtain rfl : i = xs.length := by omega
 have hca := iY aO xs _ rfl
 rw [pS rfl] at st10
 exact ⟨_, fI aC, st10⟩
theorem heldEdgeS_n {v : Value} {x : List Edge} {fp : List Nat} {k : Int} (h : Sl w v (mkL fY aO x k) fp) (h0 : 0 ≤ k) (hk : k + (cL aO x : Nat) ≤ 4611686018427387904) :
  Calls prog 251 #[v, I k] w (rI_ (k + (cL aO x : Nat)) w) := by
 have hcap := h.len_le
 rw [dH] at hcap
 have hml : (mkL fY aO x k).length = x.length := dH _ _
 refine bI func251 rfl ntmps251 aV (wp_seq (aA (sg (aE (aB (wp_seq (wp_seq (aA (sg (aE (aB (wp_block (aP (fun (m : Nat) (f : Nat → Value) (W : World) => ∃ (i : Nat) (K : Int), i ≤ x.length ∧ K = k + (cL aO (x.take i) : Nat) ∧ m = x.length - i ∧ Ag [(0, v), (1, I K), (5, I (i : Int))] f ∧ St w W ([])) (x.length - 0) ?_ ?_)))))))))))))
 ·exact ⟨0, k, Nat.zero_le _, (by simp [cL]), rfl, (Ag.nil.put.put.put.put.to aD), (St.start w)⟩
 intro m5 f6 W7 hJ8
 obtain ⟨i, K, hi, hK, rfl, hA10, st9⟩ := hJ8
 refine wp_seq (wp_seq (aA (rn st9 4 hA10 [] [(9, .bool (decide ((i : Int) < ((mkL fY aO x k).length : Int))))] [ql h, .o] aD fun f12 h12_ => (aB (aJ (h12_.at 9) (fun h13p => ?_) (fun h13p => ?_))))))
 ·refine wp_skip (wp_seq (wp_block (wp_seq (wp_seq (aA (sg (aG (h12_.at 0) (sg (aG (h12_.at 5) ?_)))))))))
  have hq_ := gJ (xs := x) (i := i) aC
  obtain ⟨y, hy⟩ := hq_
  have hcs := fL aO hy
  have hcl := dV aO x (i + 1)
  have hne : aO y = 2 := rfl
  have hb17 : Bd K (1 + (1 + (0))) := ⟨by omega, by omega⟩
  obtain ⟨b16, o16, cs16, f16, hp16, hr16, hc16, hm16⟩ := xT h hy hK
  have hk18 := hc16
  obtain ⟨he18, rfl, hok18⟩ := hk18
  have he18 : _ = [I K, I (K + 1)] := he18; subst he18
  refine rn st9 5 h12_.put.put [] [(18, .bool (!decide (K = K)))] [qx hp16, qr hr16 0, .o] aD fun f20 h20_ => (aB (bH (h20_.at 18) (fun h21p => ?_) (fun h21p => ?_)))
  ·exact absurd rfl h21p
  refine wp_skip (wp_seq (aA ?_))
  have hb23 := hb17.up
  refine rn st9 3 h20_ [1] [(1, I (K + 1))] [.ad K 1 hb23.i64] aD fun f24 h24_ => (aB (wp_seq (wp_seq (aA (sg (aG (h24_.at 0) (sg (aG (h24_.at 5) (rn st9 5 h24_.put.put [] [(27, .bool (!decide ((K + 1) = (K + 1))))] [qx hp16, qr hr16 1, .o] aD fun f29 h29_ => (aB (bH (h29_.at 27) (fun h30p => ?_) (fun h30p => ?_))))))))))))
  ·exact absurd rfl h30p
  refine wp_skip (aA ?_)
  have hb32 := hb23.up
  refine rn st9 3 h29_ [1] [(1, I ((K + 1) + 1))] [.ad (K + 1) 1 hb32.i64] aD fun f33 h33_ => (aB (aA (rn st9 3 h33_ [5] [(5, I ((i : Int) + 1))] [qad (i : Int) 1] aD fun f35 h35_ => (aB ?_))))
  exact ⟨_, x.length - (i + 1), aC, rfl, i + 1, (K + 1) + 1, aC, aC, rfl, (h35_.to aD), st9⟩
 refine wp_exit (wp_seq (aA (sg (aG (h12_.at 1) (sg (aF (v := I K) rfl (aB (wr (aL results251 rfl ?_)))))))))
 obtain rfl : i = x.length := by omega
 have hca := iY aO x _ rfl
 exact ⟨fI aC, st9.bare⟩
theorem markEntryS_n {w W0 : World} {rs : List Res} {v : Value} {xs : List Entry} {fp : List Nat} (hst : St w W0 (Res.own v xs fp :: rs)) (k : Int) (h0 : 0 ≤ k) (hk : k + (cL aH xs : Nat) ≤ 4611686018427387904) :
  Calls prog 248 #[v, I k] W0 fun e w' => ∃ fp', e = .returned (I (k + (cL aH xs : Nat))) ∧ St w w' (Res.own v (mkL cP aH xs k) fp' :: rs) := by
 have hcap := (aS (hst.get 0 rfl)).len_le
 refine bI func248 rfl ntmps248 aV (wp_seq (aA (sg (aE (aB (wp_seq (wp_seq (aA (sg (aE (aB (wp_block (aP (fun (m : Nat) (f : Nat → Value) (W : World) => ∃ (i : Nat) (K : Int) (fo5 : List Nat), i ≤ xs.length ∧ K = k + (cL aH (xs.take i) : Nat) ∧ m = xs.length - i ∧ Ag [(0, v), (1, I K), (5, I (i : Int))] f ∧ St w W (Res.own (α := List Entry) v (mkL cP aH (xs.take i) k ++ xs.drop i) fo5 :: rs)) (xs.length - 0) ?_ ?_)))))))))))))
 ·exact ⟨0, k, fp, Nat.zero_le _, (by simp [cL]), rfl, (Ag.nil.put.put.put.put.to aD), (by simpa [mkL] using hst)⟩
 intro m6 f7 W8 hJ9
 obtain ⟨i, K, fo5, hi, hK, rfl, hA11, st10⟩ := hJ9
 have hlx : (mkL cP aH (xs.take i) k ++ xs.drop i).length = xs.length := by rw [length_append, dH, length_take, length_drop]; omega
 refine wp_seq (wp_seq (aA (rn st10 4 hA11 [] [(9, .bool (decide ((i : Int) < ((mkL cP aH (xs.take i) k ++ xs.drop i).length : Int))))] [ql (aS (st10.get 0 rfl)), .o] aD fun f13 h13_ => (aB (aJ (h13_.at 9) (fun h14p => ?_) (fun h14p => ?_))))))
 ·refine wp_skip (wp_seq (wp_block (wp_seq (aA (rn st10 3 h13_ [] [(12, v), (13, I (i : Int)), (14, I K)] [] aD fun f16 h16_ => ?_)))))
  have hq_ := gJ (xs := xs) (i := i) aC
  obtain ⟨y, hy⟩ := hq_
  have hcs := fL aH hy
  have hcl := dV aH xs (i + 1)
  have hne : aH y = 4 := rfl
  have hb17 : Bd K (1 + (1 + (1 + (1 + (0))))) := ⟨by omega, by omega⟩
  have hq_ := St.lendx (α := Entry) aV st10 (x := y) (mJ hy)
  obtain ⟨b18, e18, pre18, cs18, post18, fi18, fr18, hPA18, hC18, st19⟩ := hq_
  obtain ⟨he18, hf18, hok18⟩ := hC18; have he18 : _ = [I y.prio, I y.seq, I y.run, I y.task] := he18; subst he18
  refine sg (bG jN (h16_.at 12) hPA18 (h16_.at 13) rfl (sg (bD fa_Entry_0 rfl (sgn (bB (i := 0) (v := I K) aD rfl (h16_.at 14) rfl rfl st19.d1 rfl gC rfl ?_))))); intro W26 st27
  refine aB (wp_seq (aA ?_))
  have hb29 := hb17.up
  refine rn st27 3 h16_.put.put [1] [(1, I (K + 1))] [.ad K 1 hb29.i64] aD fun f30 h30_ => (aB (wp_seq (aA (rn st27 5 h30_ [] [(21, I (K + 1)), (23, .pointer (some ⟨b18, pre18.length + 1, none⟩))] [qx hPA18] aD fun f32 h32_ => (sgn (bB (i := 1) (v := I (K + 1)) aD (h32_.at 23) (h32_.at 21) rfl rfl st27 rfl gC rfl ?_)))))); intro W33 st34
  refine aB (wp_seq (aA ?_))
  have hb36 := hb29.up
  refine rn st34 3 h32_ [1] [(1, I ((K + 1) + 1))] [.ad (K + 1) 1 hb36.i64] aD fun f37 h37_ => (aB (wp_seq (aA (rn st34 5 h37_ [] [(28, I ((K + 1) + 1)), (30, .pointer (some ⟨b18, pre18.length + 2, none⟩))] [qx hPA18] aD fun f39 h39_ => (sgn (bB (i := 2) (v := I ((K + 1) + 1)) aD (h39_.at 30) (h39_.at 28) rfl rfl st34 rfl gC rfl ?_)))))); intro W40 st41
  refine aB (wp_seq (aA ?_))
  have hb43 := hb36.up
  refine rn st41 3 h39_ [1] [(1, I (((K + 1) + 1) + 1))] [.ad ((K + 1) + 1) 1 hb43.i64] aD fun f44 h44_ => (aB (wp_seq (aA (lw h44_ [(0, v), (1, I (((K + 1) + 1) + 1)), (5, I (i : Int))] aD fun h47_ => (rn st41 5 h47_ [] [(35, I (((K + 1) + 1) + 1)), (37, .pointer (some ⟨b18, pre18.length + 3, none⟩))] [qx hPA18] aD fun f46 h46_ => (sgn (bB (i := 3) (v := I (((K + 1) + 1) + 1)) aD (h46_.at 37) (h46_.at 35) rfl rfl st41 rfl gC rfl ?_))))))); intro W48 st49
  refine aB (aA ?_)
  have hb51 := hb43.up
  refine rn st49 3 h46_ [1] [(1, I ((((K + 1) + 1) + 1) + 1))] [.ad (((K + 1) + 1) + 1) 1 hb51.i64] aD fun f52 h52_ => (aB (aA (rn st49 3 h52_ [5] [(5, I ((i : Int) + 1))] [qad (i : Int) 1] aD fun f54 h54_ => (aB ?_))))
  have st55 := st49.cs0 (cs := [I K, I (K + 1), I ((K + 1) + 1), I (((K + 1) + 1) + 1)]) (x := (⟨K, K + 1, (K + 1) + 1, ((K + 1) + 1) + 1⟩ : Entry)) ⟨rfl, rfl, qW⟩
  obtain ⟨fp60, st61⟩ := St.give (α := Entry) st55.f2.f1.f2
  exact ⟨_, xs.length - (i + 1), aC, rfl, i + 1, (((K + 1) + 1) + 1) + 1, fp60, aC, aC, rfl, (h54_.to aD), (by rw [← jQ hy hK]; exact st61)⟩
 refine wp_exit (wp_seq (aA (sg (aG (h13_.at 1) (sg (aF (v := I K) rfl (aB (wr (aL results248 rfl ?_)))))))))
 obtain rfl : i = xs.length := by omega
 have hca := iY aH xs _ rfl
 rw [pS rfl] at st10
 exact ⟨_, fI aC, st10⟩
theorem heldEntryS_n {v : Value} {x : List Entry} {fp : List Nat} {k : Int} (h : Sl w v (mkL cP aH x k) fp) (h0 : 0 ≤ k) (hk : k + (cL aH x : Nat) ≤ 4611686018427387904) :
  Calls prog 250 #[v, I k] w (rI_ (k + (cL aH x : Nat)) w) := by
 have hcap := h.len_le
 rw [dH] at hcap
 have hml : (mkL cP aH x k).length = x.length := dH _ _
 refine bI func250 rfl ntmps250 aV (wp_seq (aA (sg (aE (aB (wp_seq (wp_seq (aA (sg (aE (aB (wp_block (aP (fun (m : Nat) (f : Nat → Value) (W : World) => ∃ (i : Nat) (K : Int), i ≤ x.length ∧ K = k + (cL aH (x.take i) : Nat) ∧ m = x.length - i ∧ Ag [(0, v), (1, I K), (5, I (i : Int))] f ∧ St w W ([])) (x.length - 0) ?_ ?_)))))))))))))
 ·exact ⟨0, k, Nat.zero_le _, (by simp [cL]), rfl, (Ag.nil.put.put.put.put.to aD), (St.start w)⟩
 intro m5 f6 W7 hJ8
 obtain ⟨i, K, hi, hK, rfl, hA10, st9⟩ := hJ8
 refine wp_seq (wp_seq (aA (rn st9 4 hA10 [] [(9, .bool (decide ((i : Int) < ((mkL cP aH x k).length : Int))))] [ql h, .o] aD fun f12 h12_ => (aB (aJ (h12_.at 9) (fun h13p => ?_) (fun h13p => ?_))))))
 ·refine wp_skip (wp_seq (wp_block (wp_seq (wp_seq (aA (sg (aG (h12_.at 0) (sg (aG (h12_.at 5) ?_)))))))))
  have hq_ := gJ (xs := x) (i := i) aC
  obtain ⟨y, hy⟩ := hq_
  have hcs := fL aH hy
  have hcl := dV aH x (i + 1)
  have hne : aH y = 4 := rfl
  have hb17 : Bd K (1 + (1 + (1 + (1 + (0))))) := ⟨by omega, by omega⟩
  obtain ⟨b16, o16, cs16, f16, hp16, hr16, hc16, hm16⟩ := xT h hy hK
  have hk18 := hc16
  obtain ⟨he18, rfl, hok18⟩ := hk18
  have he18 : _ = [I K, I (K + 1), I ((K + 1) + 1), I (((K + 1) + 1) + 1)] := he18; subst he18
  refine rn st9 5 h12_.put.put [] [(18, .bool (!decide (K = K)))] [qx hp16, qr hr16 0, .o] aD fun f20 h20_ => (aB (bH (h20_.at 18) (fun h21p => ?_) (fun h21p => ?_)))
  ·exact absurd rfl h21p
  refine wp_skip (wp_seq (aA ?_))
  have hb23 := hb17.up
  refine rn st9 3 h20_ [1] [(1, I (K + 1))] [.ad K 1 hb23.i64] aD fun f24 h24_ => (aB (wp_seq (wp_seq (aA (sg (aG (h24_.at 0) (sg (aG (h24_.at 5) (rn st9 5 h24_.put.put [] [(27, .bool (!decide ((K + 1) = (K + 1))))] [qx hp16, qr hr16 1, .o] aD fun f29 h29_ => (aB (bH (h29_.at 27) (fun h30p => ?_) (fun h30p => ?_))))))))))))
  ·exact absurd rfl h30p
  refine wp_skip (wp_seq (aA ?_))
  have hb32 := hb23.up
  refine rn st9 3 h29_ [1] [(1, I ((K + 1) + 1))] [.ad (K + 1) 1 hb32.i64] aD fun f33 h33_ => (aB (wp_seq (wp_seq (aA (sg (aG (h33_.at 0) (sg (aG (h33_.at 5) (lw h33_.put.put [(0, v), (1, I ((K + 1) + 1)), (5, I (i : Int)), (30, v), (31, I (i : Int))] aD fun h39_ => (rn st9 5 h39_ [] [(36, .bool (!decide (((K + 1) + 1) = ((K + 1) + 1))))] [qx hp16, qr hr16 2, .o] aD fun f38 h38_ => (aB (bH (h38_.at 36) (fun h40p => ?_) (fun h40p => ?_)))))))))))))
  ·exact absurd rfl h40p
  refine wp_skip (wp_seq (aA ?_))
  have hb42 := hb32.up
  refine rn st9 3 h38_ [1] [(1, I (((K + 1) + 1) + 1))] [.ad ((K + 1) + 1) 1 hb42.i64] aD fun f43 h43_ => (aB (wp_seq (wp_seq (aA (sg (aG (h43_.at 0) (sg (aG (h43_.at 5) (rn st9 5 h43_.put.put [] [(45, .bool (!decide ((((K + 1) + 1) + 1) = (((K + 1) + 1) + 1))))] [qx hp16, qr hr16 3, .o] aD fun f48 h48_ => (aB (bH (h48_.at 45) (fun h49p => ?_) (fun h49p => ?_))))))))))))
  ·exact absurd rfl h49p
  refine wp_skip (aA ?_)
  have hb51 := hb42.up
  refine rn st9 3 h48_ [1] [(1, I ((((K + 1) + 1) + 1) + 1))] [.ad (((K + 1) + 1) + 1) 1 hb51.i64] aD fun f52 h52_ => (aB (aA (rn st9 3 h52_ [5] [(5, I ((i : Int) + 1))] [qad (i : Int) 1] aD fun f54 h54_ => (aB ?_))))
  exact ⟨_, x.length - (i + 1), aC, rfl, i + 1, (((K + 1) + 1) + 1) + 1, aC, aC, rfl, (h54_.to aD), st9⟩
 refine wp_exit (wp_seq (aA (sg (aG (h12_.at 1) (sg (aF (v := I K) rfl (aB (wr (aL results250 rfl ?_)))))))))
 obtain rfl : i = x.length := by omega
 have hca := iY aH x _ rfl
 exact ⟨fI aC, st9.bare⟩
theorem markTaskS_n {w W0 : World} {rs : List Res} {v : Value} {xs : List Task} {fp : List Nat} (hst : St w W0 (Res.own v xs fp :: rs)) (k : Int) (h0 : 0 ≤ k) (hk : k + (cL aY xs : Nat) ≤ 4611686018427387904) :
  Calls prog 249 #[v, I k] W0 fun e w' => ∃ fp', e = .returned (I (k + (cL aY xs : Nat))) ∧ St w w' (Res.own v (mkL fX aY xs k) fp' :: rs) := by
 have hcap := (aS (hst.get 0 rfl)).len_le
 refine bI func249 rfl ntmps249 aV (wp_seq (aA (sg (aE (aB (wp_seq (wp_seq (aA (sg (aE (aB (wp_block (aP (fun (m : Nat) (f : Nat → Value) (W : World) => ∃ (i : Nat) (K : Int) (fo5 : List Nat), i ≤ xs.length ∧ K = k + (cL aY (xs.take i) : Nat) ∧ m = xs.length - i ∧ Ag [(0, v), (1, I K), (5, I (i : Int))] f ∧ St w W (Res.own (α := List Task) v (mkL fX aY (xs.take i) k ++ xs.drop i) fo5 :: rs)) (xs.length - 0) ?_ ?_)))))))))))))
 ·exact ⟨0, k, fp, Nat.zero_le _, (by simp [cL]), rfl, (Ag.nil.put.put.put.put.to aD), (by simpa [mkL] using hst)⟩
 intro m6 f7 W8 hJ9
 obtain ⟨i, K, fo5, hi, hK, rfl, hA11, st10⟩ := hJ9
 have hlx : (mkL fX aY (xs.take i) k ++ xs.drop i).length = xs.length := by rw [length_append, dH, length_take, length_drop]; omega
 refine wp_seq (wp_seq (aA (rn st10 4 hA11 [] [(9, .bool (decide ((i : Int) < ((mkL fX aY (xs.take i) k ++ xs.drop i).length : Int))))] [ql (aS (st10.get 0 rfl)), .o] aD fun f13 h13_ => (aB (aJ (h13_.at 9) (fun h14p => ?_) (fun h14p => ?_))))))
 ·refine wp_skip (wp_seq (wp_block (wp_seq (aA (rn st10 3 h13_ [] [(12, v), (13, I (i : Int)), (14, I K)] [] aD fun f16 h16_ => ?_)))))
  have hq_ := gJ (xs := xs) (i := i) aC
  obtain ⟨y, hy⟩ := hq_
  have hcs := fL aY hy
  have hcl := dV aY xs (i + 1)
  have hne : aY y = 4 := rfl
  have hb17 : Bd K (1 + (1 + (1 + (1 + (0))))) := ⟨by omega, by omega⟩
  have hq_ := St.lendx (α := Task) aV st10 (x := y) (mJ hy)
  obtain ⟨b18, e18, pre18, cs18, post18, fi18, fr18, hPA18, hC18, st19⟩ := hq_
  obtain ⟨he18, hf18, hok18⟩ := hC18; have he18 : _ = [I y.state, I y.need, I y.try_, I y.until_] := he18; subst he18
  refine sg (bG sl_TaskS (h16_.at 12) hPA18 (h16_.at 13) rfl (sg (bD pZ rfl (sgn (bB (i := 0) (v := I K) aD rfl (h16_.at 14) rfl rfl st19.d1 rfl gC rfl ?_))))); intro W26 st27
  refine aB (wp_seq (aA ?_))
  have hb29 := hb17.up
  refine rn st27 3 h16_.put.put [1] [(1, I (K + 1))] [.ad K 1 hb29.i64] aD fun f30 h30_ => (aB (wp_seq (aA (rn st27 5 h30_ [] [(21, I (K + 1)), (23, .pointer (some ⟨b18, pre18.length + 1, none⟩))] [qx hPA18] aD fun f32 h32_ => (sgn (bB (i := 1) (v := I (K + 1)) aD (h32_.at 23) (h32_.at 21) rfl rfl st27 rfl gC rfl ?_)))))); intro W33 st34
  refine aB (wp_seq (aA ?_))
  have hb36 := hb29.up
  refine rn st34 3 h32_ [1] [(1, I ((K + 1) + 1))] [.ad (K + 1) 1 hb36.i64] aD fun f37 h37_ => (aB (wp_seq (aA (rn st34 5 h37_ [] [(28, I ((K + 1) + 1)), (30, .pointer (some ⟨b18, pre18.length + 2, none⟩))] [qx hPA18] aD fun f39 h39_ => (sgn (bB (i := 2) (v := I ((K + 1) + 1)) aD (h39_.at 30) (h39_.at 28) rfl rfl st34 rfl gC rfl ?_)))))); intro W40 st41
  refine aB (wp_seq (aA ?_))
  have hb43 := hb36.up
  refine rn st41 3 h39_ [1] [(1, I (((K + 1) + 1) + 1))] [.ad ((K + 1) + 1) 1 hb43.i64] aD fun f44 h44_ => (aB (wp_seq (aA (lw h44_ [(0, v), (1, I (((K + 1) + 1) + 1)), (5, I (i : Int))] aD fun h47_ => (rn st41 5 h47_ [] [(35, I (((K + 1) + 1) + 1)), (37, .pointer (some ⟨b18, pre18.length + 3, none⟩))] [qx hPA18] aD fun f46 h46_ => (sgn (bB (i := 3) (v := I (((K + 1) + 1) + 1)) aD (h46_.at 37) (h46_.at 35) rfl rfl st41 rfl gC rfl ?_))))))); intro W48 st49
  refine aB (aA ?_)
  have hb51 := hb43.up
  refine rn st49 3 h46_ [1] [(1, I ((((K + 1) + 1) + 1) + 1))] [.ad (((K + 1) + 1) + 1) 1 hb51.i64] aD fun f52 h52_ => (aB (aA (rn st49 3 h52_ [5] [(5, I ((i : Int) + 1))] [qad (i : Int) 1] aD fun f54 h54_ => (aB ?_))))
  have st55 := st49.cs0 (cs := [I K, I (K + 1), I ((K + 1) + 1), I (((K + 1) + 1) + 1)]) (x := (⟨K, K + 1, (K + 1) + 1, ((K + 1) + 1) + 1⟩ : Task)) ⟨rfl, rfl, qW⟩
  obtain ⟨fp60, st61⟩ := St.give (α := Task) st55.f2.f1.f2
  exact ⟨_, xs.length - (i + 1), aC, rfl, i + 1, (((K + 1) + 1) + 1) + 1, fp60, aC, aC, rfl, (h54_.to aD), (by rw [← jQ hy hK]; exact st61)⟩
 refine wp_exit (wp_seq (aA (sg (aG (h13_.at 1) (sg (aF (v := I K) rfl (aB (wr (aL results249 rfl ?_)))))))))
 obtain rfl : i = xs.length := by omega
 have hca := iY aY xs _ rfl
 rw [pS rfl] at st10
 exact ⟨_, fI aC, st10⟩
theorem heldTaskS_n {v : Value} {x : List Task} {fp : List Nat} {k : Int} (h : Sl w v (mkL fX aY x k) fp) (h0 : 0 ≤ k) (hk : k + (cL aY x : Nat) ≤ 4611686018427387904) :
  Calls prog 252 #[v, I k] w (rI_ (k + (cL aY x : Nat)) w) := by
 have hcap := h.len_le
 rw [dH] at hcap
 have hml : (mkL fX aY x k).length = x.length := dH _ _
 refine bI func252 rfl ntmps252 aV (wp_seq (aA (sg (aE (aB (wp_seq (wp_seq (aA (sg (aE (aB (wp_block (aP (fun (m : Nat) (f : Nat → Value) (W : World) => ∃ (i : Nat) (K : Int), i ≤ x.length ∧ K = k + (cL aY (x.take i) : Nat) ∧ m = x.length - i ∧ Ag [(0, v), (1, I K), (5, I (i : Int))] f ∧ St w W ([])) (x.length - 0) ?_ ?_)))))))))))))
 ·exact ⟨0, k, Nat.zero_le _, (by simp [cL]), rfl, (Ag.nil.put.put.put.put.to aD), (St.start w)⟩
 intro m5 f6 W7 hJ8
 obtain ⟨i, K, hi, hK, rfl, hA10, st9⟩ := hJ8
 refine wp_seq (wp_seq (aA (rn st9 4 hA10 [] [(9, .bool (decide ((i : Int) < ((mkL fX aY x k).length : Int))))] [ql h, .o] aD fun f12 h12_ => (aB (aJ (h12_.at 9) (fun h13p => ?_) (fun h13p => ?_))))))
 ·refine wp_skip (wp_seq (wp_block (wp_seq (wp_seq (aA (sg (aG (h12_.at 0) (sg (aG (h12_.at 5) ?_)))))))))
  have hq_ := gJ (xs := x) (i := i) aC
  obtain ⟨y, hy⟩ := hq_
  have hcs := fL aY hy
  have hcl := dV aY x (i + 1)
  have hne : aY y = 4 := rfl
  have hb17 : Bd K (1 + (1 + (1 + (1 + (0))))) := ⟨by omega, by omega⟩
  obtain ⟨b16, o16, cs16, f16, hp16, hr16, hc16, hm16⟩ := xT h hy hK
  have hk18 := hc16
  obtain ⟨he18, rfl, hok18⟩ := hk18
  have he18 : _ = [I K, I (K + 1), I ((K + 1) + 1), I (((K + 1) + 1) + 1)] := he18; subst he18
  refine rn st9 5 h12_.put.put [] [(18, .bool (!decide (K = K)))] [qx hp16, qr hr16 0, .o] aD fun f20 h20_ => (aB (bH (h20_.at 18) (fun h21p => ?_) (fun h21p => ?_)))
  ·exact absurd rfl h21p
  refine wp_skip (wp_seq (aA ?_))
  have hb23 := hb17.up
  refine rn st9 3 h20_ [1] [(1, I (K + 1))] [.ad K 1 hb23.i64] aD fun f24 h24_ => (aB (wp_seq (wp_seq (aA (sg (aG (h24_.at 0) (sg (aG (h24_.at 5) (rn st9 5 h24_.put.put [] [(27, .bool (!decide ((K + 1) = (K + 1))))] [qx hp16, qr hr16 1, .o] aD fun f29 h29_ => (aB (bH (h29_.at 27) (fun h30p => ?_) (fun h30p => ?_))))))))))))
  ·exact absurd rfl h30p
  refine wp_skip (wp_seq (aA ?_))
  have hb32 := hb23.up
  refine rn st9 3 h29_ [1] [(1, I ((K + 1) + 1))] [.ad (K + 1) 1 hb32.i64] aD fun f33 h33_ => (aB (wp_seq (wp_seq (aA (sg (aG (h33_.at 0) (sg (aG (h33_.at 5) (lw h33_.put.put [(0, v), (1, I ((K + 1) + 1)), (5, I (i : Int)), (30, v), (31, I (i : Int))] aD fun h39_ => (rn st9 5 h39_ [] [(36, .bool (!decide (((K + 1) + 1) = ((K + 1) + 1))))] [qx hp16, qr hr16 2, .o] aD fun f38 h38_ => (aB (bH (h38_.at 36) (fun h40p => ?_) (fun h40p => ?_)))))))))))))
  ·exact absurd rfl h40p
  refine wp_skip (wp_seq (aA ?_))
  have hb42 := hb32.up
  refine rn st9 3 h38_ [1] [(1, I (((K + 1) + 1) + 1))] [.ad ((K + 1) + 1) 1 hb42.i64] aD fun f43 h43_ => (aB (wp_seq (wp_seq (aA (sg (aG (h43_.at 0) (sg (aG (h43_.at 5) (rn st9 5 h43_.put.put [] [(45, .bool (!decide ((((K + 1) + 1) + 1) = (((K + 1) + 1) + 1))))] [qx hp16, qr hr16 3, .o] aD fun f48 h48_ => (aB (bH (h48_.at 45) (fun h49p => ?_) (fun h49p => ?_))))))))))))
  ·exact absurd rfl h49p
  refine wp_skip (aA ?_)
  have hb51 := hb42.up
  refine rn st9 3 h48_ [1] [(1, I ((((K + 1) + 1) + 1) + 1))] [.ad (((K + 1) + 1) + 1) 1 hb51.i64] aD fun f52 h52_ => (aB (aA (rn st9 3 h52_ [5] [(5, I ((i : Int) + 1))] [qad (i : Int) 1] aD fun f54 h54_ => (aB ?_))))
  exact ⟨_, x.length - (i + 1), aC, rfl, i + 1, (((K + 1) + 1) + 1) + 1, aC, aC, rfl, (h54_.to aD), st9⟩
 refine wp_exit (wp_seq (aA (sg (aG (h12_.at 1) (sg (aF (v := I K) rfl (aB (wr (aL results252 rfl ?_)))))))))
 obtain rfl : i = x.length := by omega
 have hca := iY aY x _ rfl
 exact ⟨fI aC, st9.bare⟩
theorem markRunS_n {w W0 : World} {rs : List Res} {v : Value} {xs : List Run} {fp : List Nat} (hst : St w W0 (Res.own v xs fp :: rs)) (k : Int) (h0 : 0 ≤ k) (hk : k + (cL bK xs : Nat) ≤ 4611686018427387904) :
  Calls prog 133 #[v, I k] W0 fun e w' => ∃ fp', e = .returned (I (k + (cL bK xs : Nat))) ∧ St w w' (Res.own v (mkL iL bK xs k) fp' :: rs) := by
 have hcap := (aS (hst.get 0 rfl)).len_le
 refine bI func133 rfl ntmps133 aV (wp_seq (aA (sg (aE (aB (wp_seq (wp_seq (aA (sg (aE (aB (wp_block (aP (fun (m : Nat) (f : Nat → Value) (W : World) => ∃ (i : Nat) (K : Int) (fo5 : List Nat), i ≤ xs.length ∧ K = k + (cL bK (xs.take i) : Nat) ∧ m = xs.length - i ∧ Ag [(0, v), (1, I K), (5, I (i : Int))] f ∧ St w W (Res.own (α := List Run) v (mkL iL bK (xs.take i) k ++ xs.drop i) fo5 :: rs)) (xs.length - 0) ?_ ?_)))))))))))))
 ·exact ⟨0, k, fp, Nat.zero_le _, (by simp [cL]), rfl, (Ag.nil.put.put.put.put.to aD), (by simpa [mkL] using hst)⟩
 intro m6 f7 W8 hJ9
 obtain ⟨i, K, fo5, hi, hK, rfl, hA11, st10⟩ := hJ9
 have hlx : (mkL iL bK (xs.take i) k ++ xs.drop i).length = xs.length := by rw [length_append, dH, length_take, length_drop]; omega
 refine wp_seq (wp_seq (aA (rn st10 4 hA11 [] [(9, .bool (decide ((i : Int) < ((mkL iL bK (xs.take i) k ++ xs.drop i).length : Int))))] [ql (aS (st10.get 0 rfl)), .o] aD fun f13 h13_ => (aB (aJ (h13_.at 9) (fun h14p => ?_) (fun h14p => ?_))))))
 ·refine wp_skip (wp_seq (wp_block (wp_seq (aA (rn st10 3 h13_ [] [(12, v), (13, I (i : Int)), (14, I K)] [] aD fun f16 h16_ => ?_)))))
  have hq_ := gJ (xs := xs) (i := i) aC
  obtain ⟨y, hy⟩ := hq_
  have hcs := fL bK hy
  have hcl := dV bK xs (i + 1)
  have hne : bK y = 6 + cL aO y.plan.edges + cL aY y.tasks := rfl
  have hb17 : Bd K (1 + (1 + (1 + (1 + (1 + ((cL aO y.plan.edges) + (1 + ((cL aY y.tasks) + (0))))))))) := ⟨by omega, by omega⟩
  have hq_ := St.lendx (α := Run) aV st10 (x := y) (mJ hy)
  obtain ⟨b18, e18, pre18, cs18, post18, fi18, fr18, hPA18, hC18, st19⟩ := hq_
  have st24 := st19.f1.uncs rfl
  obtain ⟨v25_0, v25_1, g25_0, g25_1, he25, hok25, st26⟩ := open_Run st24
  subst he25
  refine sg (bG aA0 (h16_.at 12) hPA18 (h16_.at 13) rfl (sg (bD fa_Run_0 rfl (sgn (bB (i := 0) (v := I K) aD rfl (h16_.at 14) rfl rfl st26.f2 rfl gC rfl ?_))))); intro W32 st33
  refine aB (wp_seq (aA ?_))
  have hb35 := hb17.up
  refine rn st33 3 h16_.put.put [1] [(1, I (K + 1))] [.ad K 1 hb35.i64] aD fun f36 h36_ => (aB (wp_seq (aA (rn st33 6 h36_ [] [(21, I (K + 1)), (24, .pointer (some ⟨b18, pre18.length + 1, none⟩))] [qx hPA18] aD fun f38 h38_ => (sgn (bB (i := 1) (v := I (K + 1)) aD (h38_.at 24) (h38_.at 21) rfl rfl st33 rfl gC rfl ?_)))))); intro W39 st40
  refine aB (wp_seq (aA ?_))
  have hb42 := hb35.up
  refine rn st40 3 h38_ [1] [(1, I ((K + 1) + 1))] [.ad (K + 1) 1 hb42.i64] aD fun f43 h43_ => (aB (wp_seq (aA (rn st40 6 h43_ [] [(29, I ((K + 1) + 1)), (32, .pointer (some ⟨b18, pre18.length + 2, none⟩))] [qx hPA18] aD fun f45 h45_ => (sgn (bB (i := 2) (v := I ((K + 1) + 1)) aD (h45_.at 32) (h45_.at 29) rfl rfl st40 rfl gC rfl ?_)))))); intro W46 st47
  refine aB (wp_seq (aA ?_))
  have hb49 := hb42.up
  refine rn st47 3 h45_ [1] [(1, I (((K + 1) + 1) + 1))] [.ad ((K + 1) + 1) 1 hb49.i64] aD fun f50 h50_ => (aB (wp_seq (aA (lw h50_ [(0, v), (1, I (((K + 1) + 1) + 1)), (5, I (i : Int))] aD fun h53_ => (rn st47 6 h53_ [] [(37, I (((K + 1) + 1) + 1)), (40, .pointer (some ⟨b18, pre18.length + 3, none⟩))] [qx hPA18] aD fun f52 h52_ => (sgn (bB (i := 3) (v := I (((K + 1) + 1) + 1)) aD (h52_.at 40) (h52_.at 37) rfl rfl st47 rfl gC rfl ?_))))))); intro W54 st55
  refine aB (wp_seq (aA ?_))
  have hb57 := hb49.up
  refine rn st55 3 h52_ [1] [(1, I ((((K + 1) + 1) + 1) + 1))] [.ad (((K + 1) + 1) + 1) 1 hb57.i64] aD fun f58 h58_ => (aB (wp_seq (aA (rn st55 6 h58_ [] [(45, I ((((K + 1) + 1) + 1) + 1)), (48, .pointer (some ⟨b18, pre18.length + 4, none⟩))] [qx hPA18] aD fun f60 h60_ => (sgn (bB (i := 4) (v := I ((((K + 1) + 1) + 1) + 1)) aD (h60_.at 48) (h60_.at 45) rfl rfl st55 rfl gC rfl ?_)))))); intro W61 st62
  refine aB (wp_seq (aA ?_))
  have hb64 := hb57.up
  refine rn st62 3 h60_ [1] [(1, I (((((K + 1) + 1) + 1) + 1) + 1))] [.ad ((((K + 1) + 1) + 1) + 1) 1 hb64.i64] aD fun f65 h65_ => (aB (wp_seq (aA (rn st62 7 h65_ [] [(56, v25_0), (57, I (((((K + 1) + 1) + 1) + 1) + 1))] [qx hPA18, qp 0 rfl 5] aD fun f67 h67_ => ?_))))
  have hb73 := hb64.upc
  refine sg (bV func175 rfl (h67_.at 56) (h67_.at 57) ((markEdgeS_n st62.f1 (((((K + 1) + 1) + 1) + 1) + 1) hb64.lo hb64.hi).mono ?_)); rintro _ W68 ⟨fp71, rfl, st70⟩; refine ⟨_, rfl, ?_⟩
  refine sg (aF (v := I ((((((K + 1) + 1) + 1) + 1) + 1) + (cL aO y.plan.edges : Nat))) rfl (aB (wp_seq (aA (rn st70 5 h67_.put.put [] [(61, I ((((((K + 1) + 1) + 1) + 1) + 1) + (cL aO y.plan.edges : Nat))), (63, .pointer (some ⟨b18, pre18.length + 6, none⟩))] [qx hPA18] aD fun f77 h77_ => (sgn (bB (i := 6) (v := I ((((((K + 1) + 1) + 1) + 1) + 1) + (cL aO y.plan.edges : Nat))) aD (h77_.at 63) (h77_.at 61) rfl rfl st70.f1 rfl gC rfl ?_))))))); intro W79 st80
  refine aB (wp_seq (aA ?_))
  have hb82 := hb73.up
  refine rn st80 3 h77_ [1] [(1, I (((((((K + 1) + 1) + 1) + 1) + 1) + (cL aO y.plan.edges : Nat)) + 1))] [.ad ((((((K + 1) + 1) + 1) + 1) + 1) + (cL aO y.plan.edges : Nat)) 1 hb82.i64] aD fun f83 h83_ => (aB (aA (lw h83_ [(0, v), (1, I (((((((K + 1) + 1) + 1) + 1) + 1) + (cL aO y.plan.edges : Nat)) + 1)), (5, I (i : Int))] aD fun h86_ => (rn st80 6 h86_ [] [(70, v25_1), (71, I (((((((K + 1) + 1) + 1) + 1) + 1) + (cL aO y.plan.edges : Nat)) + 1))] [qx hPA18, qp 0 rfl 7] aD fun f85 h85_ => ?_))))
  have hb92 := hb82.upc
  refine sg (bV func249 rfl (h85_.at 70) (h85_.at 71) ((markTaskS_n st80.f2 (((((((K + 1) + 1) + 1) + 1) + 1) + (cL aO y.plan.edges : Nat)) + 1) hb82.lo hb82.hi).mono ?_)); rintro _ W87 ⟨fp90, rfl, st89⟩; refine ⟨_, rfl, ?_⟩
  refine sg (aF (v := I ((((((((K + 1) + 1) + 1) + 1) + 1) + (cL aO y.plan.edges : Nat)) + 1) + (cL aY y.tasks : Nat))) rfl (aB (aA (rn st89 3 h85_.put.put [5] [(5, I ((i : Int) + 1))] [qad (i : Int) 1] aD fun f96 h96_ => (aB ?_)))))
  have st98 := shut_Run (x := (⟨K, ⟨K + 1, (K + 1) + 1, ((K + 1) + 1) + 1, (((K + 1) + 1) + 1) + 1, mkL fY aO y.plan.edges (((((K + 1) + 1) + 1) + 1) + 1)⟩, (((((K + 1) + 1) + 1) + 1) + 1) + (cL aO y.plan.edges : Nat), mkL fX aY y.tasks (((((((K + 1) + 1) + 1) + 1) + 1) + (cL aO y.plan.edges : Nat)) + 1)⟩ : Run)) st89.f2 qW
  try dsimp only at st98
  have st100 := st98.cs rfl
  obtain ⟨fp104, st105⟩ := St.give (α := Run) st100.f2.f1.f2
  exact ⟨_, xs.length - (i + 1), aC, rfl, i + 1, (((((((K + 1) + 1) + 1) + 1) + 1) + (cL aO y.plan.edges : Nat)) + 1) + (cL aY y.tasks : Nat), fp104, aC, aC, rfl, (h96_.to aD), (by rw [← jQ hy hK]; exact st105)⟩
 refine wp_exit (wp_seq (aA (sg (aG (h13_.at 1) (sg (aF (v := I K) rfl (aB (wr (aL results133 rfl ?_)))))))))
 obtain rfl : i = xs.length := by omega
 have hca := iY bK xs _ rfl
 rw [pS rfl] at st10
 exact ⟨_, fI aC, st10⟩
theorem heldRunS_n {v : Value} {x : List Run} {fp : List Nat} {k : Int} (h : Sl w v (mkL iL bK x k) fp) (h0 : 0 ≤ k) (hk : k + (cL bK x : Nat) ≤ 4611686018427387904) :
  Calls prog 135 #[v, I k] w (rI_ (k + (cL bK x : Nat)) w) := by
 have hcap := h.len_le
 rw [dH] at hcap
 have hml : (mkL iL bK x k).length = x.length := dH _ _
 refine bI func135 rfl ntmps135 aV (wp_seq (aA (sg (aE (aB (wp_seq (wp_seq (aA (sg (aE (aB (wp_block (aP (fun (m : Nat) (f : Nat → Value) (W : World) => ∃ (i : Nat) (K : Int), i ≤ x.length ∧ K = k + (cL bK (x.take i) : Nat) ∧ m = x.length - i ∧ Ag [(0, v), (1, I K), (5, I (i : Int))] f ∧ St w W ([])) (x.length - 0) ?_ ?_)))))))))))))
 ·exact ⟨0, k, Nat.zero_le _, (by simp [cL]), rfl, (Ag.nil.put.put.put.put.to aD), (St.start w)⟩
 intro m5 f6 W7 hJ8
 obtain ⟨i, K, hi, hK, rfl, hA10, st9⟩ := hJ8
 refine wp_seq (wp_seq (aA (rn st9 4 hA10 [] [(9, .bool (decide ((i : Int) < ((mkL iL bK x k).length : Int))))] [ql h, .o] aD fun f12 h12_ => (aB (aJ (h12_.at 9) (fun h13p => ?_) (fun h13p => ?_))))))
 ·refine wp_skip (wp_seq (wp_block (wp_seq (wp_seq (aA (sg (aG (h12_.at 0) (sg (aG (h12_.at 5) ?_)))))))))
  have hq_ := gJ (xs := x) (i := i) aC
  obtain ⟨y, hy⟩ := hq_
  have hcs := fL bK hy
  have hcl := dV bK x (i + 1)
  have hne : bK y = 6 + cL aO y.plan.edges + cL aY y.tasks := rfl
  have hb17 : Bd K (1 + (1 + (1 + (1 + (1 + ((cL aO y.plan.edges) + (1 + ((cL aY y.tasks) + (0))))))))) := ⟨by omega, by omega⟩
  obtain ⟨b16, o16, cs16, f16, hp16, hr16, hc16, hm16⟩ := xT h hy hK
  have hk18 := hc16
  obtain ⟨v18_0, v18_1, g18_0, g18_1, he18, hok18, h18_0, h18_1, rfl⟩ := hk18
  have he18 : _ = [I K, I (K + 1), I ((K + 1) + 1), I (((K + 1) + 1) + 1), I ((((K + 1) + 1) + 1) + 1), v18_0, I ((((((K + 1) + 1) + 1) + 1) + 1) + (cL aO y.plan.edges : Nat)), v18_1] := he18; subst he18
  have h18_0 : Sl _ v18_0 (mkL fY aO y.plan.edges (((((K + 1) + 1) + 1) + 1) + 1)) _ := h18_0
  have h18_1 : Sl _ v18_1 (mkL fX aY y.tasks (((((((K + 1) + 1) + 1) + 1) + 1) + (cL aO y.plan.edges : Nat)) + 1)) _ := h18_1
  refine rn st9 5 h12_.put.put [] [(18, .bool (!decide (K = K)))] [qx hp16, qr hr16 0, .o] aD fun f20 h20_ => (aB (bH (h20_.at 18) (fun h21p => ?_) (fun h21p => ?_)))
  ·exact absurd rfl h21p
  refine wp_skip (wp_seq (aA ?_))
  have hb23 := hb17.up
  refine rn st9 3 h20_ [1] [(1, I (K + 1))] [.ad K 1 hb23.i64] aD fun f24 h24_ => (aB (wp_seq (wp_seq (aA (sg (aG (h24_.at 0) (sg (aG (h24_.at 5) (rn st9 6 h24_.put.put [] [(28, .bool (!decide ((K + 1) = (K + 1))))] [qx hp16, qr hr16 1, .o] aD fun f29 h29_ => (aB (bH (h29_.at 28) (fun h30p => ?_) (fun h30p => ?_))))))))))))
  ·exact absurd rfl h30p
  refine wp_skip (wp_seq (aA ?_))
  have hb32 := hb23.up
  refine rn st9 3 h29_ [1] [(1, I ((K + 1) + 1))] [.ad (K + 1) 1 hb32.i64] aD fun f33 h33_ => (aB (wp_seq (wp_seq (aA (sg (aG (h33_.at 0) (sg (aG (h33_.at 5) (lw h33_.put.put [(0, v), (1, I ((K + 1) + 1)), (5, I (i : Int)), (31, v), (32, I (i : Int))] aD fun h39_ => (rn st9 6 h39_ [] [(38, .bool (!decide (((K + 1) + 1) = ((K + 1) + 1))))] [qx hp16, qr hr16 2, .o] aD fun f38 h38_ => (aB (bH (h38_.at 38) (fun h40p => ?_) (fun h40p => ?_)))))))))))))
  ·exact absurd rfl h40p
  refine wp_skip (wp_seq (aA ?_))
  have hb42 := hb32.up
  refine rn st9 3 h38_ [1] [(1, I (((K + 1) + 1) + 1))] [.ad ((K + 1) + 1) 1 hb42.i64] aD fun f43 h43_ => (aB (wp_seq (wp_seq (aA (sg (aG (h43_.at 0) (sg (aG (h43_.at 5) (rn st9 6 h43_.put.put [] [(48, .bool (!decide ((((K + 1) + 1) + 1) = (((K + 1) + 1) + 1))))] [qx hp16, qr hr16 3, .o] aD fun f48 h48_ => (aB (bH (h48_.at 48) (fun h49p => ?_) (fun h49p => ?_))))))))))))
  ·exact absurd rfl h49p
  refine wp_skip (wp_seq (aA ?_))
  have hb51 := hb42.up
  refine rn st9 3 h48_ [1] [(1, I ((((K + 1) + 1) + 1) + 1))] [.ad (((K + 1) + 1) + 1) 1 hb51.i64] aD fun f52 h52_ => (aB (wp_seq (wp_seq (aA (sg (aG (h52_.at 0) (sg (aG (h52_.at 5) (rn st9 6 h52_.put.put [] [(58, .bool (!decide (((((K + 1) + 1) + 1) + 1) = ((((K + 1) + 1) + 1) + 1))))] [qx hp16, qr hr16 4, .o] aD fun f57 h57_ => (aB (bH (h57_.at 58) (fun h58p => ?_) (fun h58p => ?_))))))))))))
  ·exact absurd rfl h58p
  refine wp_skip (wp_seq (aA ?_))
  have hb60 := hb51.up
  refine rn st9 3 h57_ [1] [(1, I (((((K + 1) + 1) + 1) + 1) + 1))] [.ad ((((K + 1) + 1) + 1) + 1) 1 hb60.i64] aD fun f61 h61_ => (aB (wp_seq (aA (sg (aG (h61_.at 0) (sg (aG (h61_.at 5) (lw h61_.put.put [(0, v), (1, I (((((K + 1) + 1) + 1) + 1) + 1)), (5, I (i : Int)), (61, v), (62, I (i : Int))] aD fun h67_ => (rn st9 5 h67_ [] [(66, v18_0), (67, I (((((K + 1) + 1) + 1) + 1) + 1))] [qx hp16, qr hr16 5] aD fun f66 h66_ => ?_)))))))))
  have hb72 := hb60.upc
  refine sg (bV func251 rfl (h66_.at 66) (h66_.at 67) ((heldEdgeS_n W7 (x := y.plan.edges) (h18_0.below st9.below) hb60.lo hb60.hi).mono ?_)); rintro _ W68 ⟨rfl, hk69⟩; refine ⟨_, rfl, ?_⟩
  have st70 := St.call st9 hk69
  refine sg (aF (v := I ((((((K + 1) + 1) + 1) + 1) + 1) + (cL aO y.plan.edges : Nat))) rfl (aB (wp_seq (wp_seq (aA (sg (aG (v := I ((((((K + 1) + 1) + 1) + 1) + 1) + (cL aO y.plan.edges : Nat))) rfl (sg (bL rfl rfl (aB (aJ rfl (fun h77p => ?_) (fun h77p => ?_))))))))))))
  ·exact absurd h77p (Int.not_lt.2 hb72.1)
  refine wp_skip (wp_seq (wp_seq (aA (sg (aG (h66_.at 0) (sg (aG (h66_.at 5) (rn st70 5 h66_.put.put.put.put.put.put [] [(77, .bool (!decide ((((((((K + 1) + 1) + 1) + 1) + 1) + (cL aO y.plan.edges : Nat)) : Int) = ((((((K + 1) + 1) + 1) + 1) + 1) + (cL aO y.plan.edges : Nat)))))] [qx hp16, qr hr16 6, .o] aD fun f82 h82_ => (aB (bH (h82_.at 77) (fun h83p => ?_) (fun h83p => ?_)))))))))))
  ·exact absurd rfl h83p
  refine wp_skip (wp_seq (aA ?_))
  have hb85 := hb72.up
  refine rn st70 3 h82_ [1] [(1, I (((((((K + 1) + 1) + 1) + 1) + 1) + (cL aO y.plan.edges : Nat)) + 1))] [.ad ((((((K + 1) + 1) + 1) + 1) + 1) + (cL aO y.plan.edges : Nat)) 1 hb85.i64] aD fun f86 h86_ => (aB (wp_seq (aA (sg (aG (h86_.at 0) (sg (aG (h86_.at 5) (rn st70 4 h86_.put.put [] [(84, v18_1), (85, I (((((((K + 1) + 1) + 1) + 1) + 1) + (cL aO y.plan.edges : Nat)) + 1))] [qx hp16, qr hr16 7] aD fun f91 h91_ => ?_))))))))
  have hb96 := hb85.upc
  refine sg (bV func252 rfl (h91_.at 84) (h91_.at 85) ((heldTaskS_n W68 (x := y.tasks) (h18_1.below st70.below) hb85.lo hb85.hi).mono ?_)); rintro _ W92 ⟨rfl, hk93⟩; refine ⟨_, rfl, ?_⟩
  have st94 := St.call st70 hk93
  refine sg (aF (v := I ((((((((K + 1) + 1) + 1) + 1) + 1) + (cL aO y.plan.edges : Nat)) + 1) + (cL aY y.tasks : Nat))) rfl (aB (wp_seq (aA (sg (aG (v := I ((((((((K + 1) + 1) + 1) + 1) + 1) + (cL aO y.plan.edges : Nat)) + 1) + (cL aY y.tasks : Nat))) rfl (sg (bL rfl rfl (aB (aJ rfl (fun h101p => ?_) (fun h101p => ?_)))))))))))
  ·exact absurd h101p (Int.not_lt.2 hb96.1)
  refine wp_skip (aA (lw h91_.put.put.put.put [(0, v), (1, I ((((((((K + 1) + 1) + 1) + 1) + 1) + (cL aO y.plan.edges : Nat)) + 1) + (cL aY y.tasks : Nat))), (5, I (i : Int))] aD fun h104_ => (rn st94 3 h104_ [5] [(5, I ((i : Int) + 1))] [qad (i : Int) 1] aD fun f103 h103_ => (aB ?_))))
  exact ⟨_, x.length - (i + 1), aC, rfl, i + 1, (((((((K + 1) + 1) + 1) + 1) + 1) + (cL aO y.plan.edges : Nat)) + 1) + (cL aY y.tasks : Nat), aC, aC, rfl, (h103_.to aD), st94⟩
 refine wp_exit (wp_seq (aA (sg (aG (h12_.at 1) (sg (aF (v := I K) rfl (aB (wr (aL results135 rfl ?_)))))))))
 obtain rfl : i = x.length := by omega
 have hca := iY bK x _ rfl
 exact ⟨fI aC, st9.bare⟩
theorem markEntrySS_n {w W0 : World} {rs : List Res} {v : Value} {xs : List (List Entry)} {fp : List Nat} (hst : St w W0 (Res.own v xs fp :: rs)) (k : Int) (h0 : 0 ≤ k) (hk : k + (cL (cL aH) xs : Nat) ≤ 4611686018427387904) :
  Calls prog 132 #[v, I k] W0 fun e w' => ∃ fp', e = .returned (I (k + (cL (cL aH) xs : Nat))) ∧ St w w' (Res.own v (mkL (mkL cP aH) (cL aH) xs k) fp' :: rs) := by
 have hcap := (aS (hst.get 0 rfl)).len_le
 refine bI func132 rfl ntmps132 aV (wp_seq (aA (sg (aE (aB (wp_seq (wp_seq (aA (sg (aE (aB (wp_block (aP (fun (m : Nat) (f : Nat → Value) (W : World) => ∃ (i : Nat) (K : Int) (fo5 : List Nat), i ≤ xs.length ∧ K = k + (cL (cL aH) (xs.take i) : Nat) ∧ m = xs.length - i ∧ Ag [(0, v), (1, I K), (5, I (i : Int))] f ∧ St w W (Res.own (α := List (List Entry)) v (mkL (mkL cP aH) (cL aH) (xs.take i) k ++ xs.drop i) fo5 :: rs)) (xs.length - 0) ?_ ?_)))))))))))))
 ·exact ⟨0, k, fp, Nat.zero_le _, (by simp [cL]), rfl, (Ag.nil.put.put.put.put.to aD), (by simpa [mkL] using hst)⟩
 intro m6 f7 W8 hJ9
 obtain ⟨i, K, fo5, hi, hK, rfl, hA11, st10⟩ := hJ9
 have hlx : (mkL (mkL cP aH) (cL aH) (xs.take i) k ++ xs.drop i).length = xs.length := by rw [length_append, dH, length_take, length_drop]; omega
 refine wp_seq (wp_seq (aA (rn st10 4 hA11 [] [(9, .bool (decide ((i : Int) < ((mkL (mkL cP aH) (cL aH) (xs.take i) k ++ xs.drop i).length : Int))))] [ql (aS (st10.get 0 rfl)), .o] aD fun f13 h13_ => (aB (aJ (h13_.at 9) (fun h14p => ?_) (fun h14p => ?_))))))
 ·refine wp_skip (wp_seq (wp_block (aA (sg (aG (h13_.at 0) (sg (aG (h13_.at 5) ?_)))))))
  have hq_ := gJ (xs := xs) (i := i) aC
  obtain ⟨y, hy⟩ := hq_
  have hcs := fL (cL aH) hy
  have hcl := dV (cL aH) xs (i + 1)
  have hne : cL aH y = cL aH y := rfl
  have hb17 : Bd K ((cL aH y) + (0)) := ⟨by omega, by omega⟩
  have hq_ := St.lendx (α := List Entry) aV st10 (x := y) (mJ hy)
  obtain ⟨b18, e18, pre18, cs18, post18, fi18, fr18, hPA18, hC18, st19⟩ := hq_
  have hq_ := st19.f1.uncs1
  obtain ⟨v18, he18, st24⟩ := hq_; subst he18
  refine rn st24 3 h13_.put.put [] [(15, v18), (16, I K)] [qx hPA18, qp 1 rfl 0] aD fun f26 h26_ => ?_
  have hb31 := hb17.upc
  refine sg (bV func248 rfl (h26_.at 15) (h26_.at 16) ((markEntryS_n st24 K hb17.lo hb17.hi).mono ?_)); rintro _ W27 ⟨fp30, rfl, st29⟩; refine ⟨_, rfl, ?_⟩
  refine sg (aF (v := I (K + (cL aH y : Nat))) rfl (aB (aA (rn st29 3 h26_.put.put [5] [(5, I ((i : Int) + 1))] [qad (i : Int) 1] aD fun f35 h35_ => (aB ?_)))))
  have st36 := st29.cs1
  obtain ⟨fp40, st41⟩ := St.give (α := List Entry) st36.f2.f1.f2
  exact ⟨_, xs.length - (i + 1), aC, rfl, i + 1, K + (cL aH y : Nat), fp40, aC, aC, rfl, (h35_.to aD), (by rw [← jQ hy hK]; exact st41)⟩
 refine wp_exit (wp_seq (aA (sg (aG (h13_.at 1) (sg (aF (v := I K) rfl (aB (wr (aL results132 rfl ?_)))))))))
 obtain rfl : i = xs.length := by omega
 have hca := iY (cL aH) xs _ rfl
 rw [pS rfl] at st10
 exact ⟨_, fI aC, st10⟩
theorem heldEntrySS_n {v : Value} {x : List (List Entry)} {fp : List Nat} {k : Int} (h : Sl w v (mkL (mkL cP aH) (cL aH) x k) fp) (h0 : 0 ≤ k) (hk : k + (cL (cL aH) x : Nat) ≤ 4611686018427387904) :
  Calls prog 134 #[v, I k] w (rI_ (k + (cL (cL aH) x : Nat)) w) := by
 have hcap := h.len_le
 rw [dH] at hcap
 have hml : (mkL (mkL cP aH) (cL aH) x k).length = x.length := dH _ _
 refine bI func134 rfl ntmps134 aV (wp_seq (aA (sg (aE (aB (wp_seq (wp_seq (aA (sg (aE (aB (wp_block (aP (fun (m : Nat) (f : Nat → Value) (W : World) => ∃ (i : Nat) (K : Int), i ≤ x.length ∧ K = k + (cL (cL aH) (x.take i) : Nat) ∧ m = x.length - i ∧ Ag [(0, v), (1, I K), (5, I (i : Int))] f ∧ St w W ([])) (x.length - 0) ?_ ?_)))))))))))))
 ·exact ⟨0, k, Nat.zero_le _, (by simp [cL]), rfl, (Ag.nil.put.put.put.put.to aD), (St.start w)⟩
 intro m5 f6 W7 hJ8
 obtain ⟨i, K, hi, hK, rfl, hA10, st9⟩ := hJ8
 refine wp_seq (wp_seq (aA (rn st9 4 hA10 [] [(9, .bool (decide ((i : Int) < ((mkL (mkL cP aH) (cL aH) x k).length : Int))))] [ql h, .o] aD fun f12 h12_ => (aB (aJ (h12_.at 9) (fun h13p => ?_) (fun h13p => ?_))))))
 ·refine wp_skip (wp_seq (wp_block (wp_seq (aA (sg (aG (h12_.at 0) (sg (aG (h12_.at 5) ?_))))))))
  have hq_ := gJ (xs := x) (i := i) aC
  obtain ⟨y, hy⟩ := hq_
  have hcs := fL (cL aH) hy
  have hcl := dV (cL aH) x (i + 1)
  have hne : cL aH y = cL aH y := rfl
  have hb17 : Bd K ((cL aH y) + (0)) := ⟨by omega, by omega⟩
  obtain ⟨b16, o16, cs16, f16, hp16, hr16, hc16, hm16⟩ := xT h hy hK
  obtain ⟨v18, rfl, h19⟩ := hc16
  have h19 : Sl _ v18 (mkL cP aH y K) f16 := h19
  refine rn st9 3 h12_.put.put [] [(15, v18), (16, I K)] [qx hp16, qr hr16 0] aD fun f21 h21_ => ?_
  have hb26 := hb17.upc
  refine sg (bV func250 rfl (h21_.at 15) (h21_.at 16) ((heldEntryS_n W7 (x := y) (h19.below st9.below) hb17.lo hb17.hi).mono ?_)); rintro _ W22 ⟨rfl, hk23⟩; refine ⟨_, rfl, ?_⟩
  have st24 := St.call st9 hk23
  refine sg (aF (v := I (K + (cL aH y : Nat))) rfl (aB (wp_seq (aA (sg (aG (v := I (K + (cL aH y : Nat))) rfl (sg (bL rfl rfl (aB (aJ rfl (fun h31p => ?_) (fun h31p => ?_)))))))))))
  ·exact absurd h31p (Int.not_lt.2 hb26.1)
  refine wp_skip (aA (rn st24 3 h21_.put.put.put.put [5] [(5, I ((i : Int) + 1))] [qad (i : Int) 1] aD fun f33 h33_ => (aB ?_)))
  exact ⟨_, x.length - (i + 1), aC, rfl, i + 1, K + (cL aH y : Nat), aC, aC, rfl, (h33_.to aD), st24⟩
 refine wp_exit (wp_seq (aA (sg (aG (h12_.at 1) (sg (aF (v := I K) rfl (aB (wr (aL results134 rfl ?_)))))))))
 obtain rfl : i = x.length := by omega
 have hca := iY (cL aH) x _ rfl
 exact ⟨fI aC, st9.bare⟩
theorem markYard_n {w W0 : World} {rs : List Res} {x : Yard} {cs : List Value} {fp : List Nat} (hst : St w W0 (Res.own (.agg cs.toArray) x fp :: rs)) (k : Int) (h0 : 0 ≤ k) (hk : k + (cN x : Nat) ≤ 4611686018427387904) :
  Calls prog 39 #[.agg cs.toArray, I k] W0 fun e w' => ∃ fp', e = .returned (I (k + (cN x : Nat))) ∧ St w w' (Res.own (.agg cs.toArray) (tE x k) fp' :: rs) := by
 have hk2 := hk
 unfold cN at hk2
 refine bI func39 rfl ntmps39 aV ?_
 have hb1 : Bd k ((cL (cL aH) x.shelf) + ((cL bK x.runs) + (0))) := ⟨by omega, by omega⟩
 refine wp_seq (aA (sg (aI (cs := cs) rfl hst ?_))); intro b2 W3 hb4 st5
 refine sg (aE (aB (wp_seq (aA ?_))))
 obtain ⟨v11_0, v11_1, g11_0, g11_1, he11, hok11, st12⟩ := open_Yard st5.f1
 subst he11
 refine rn st12 3 Ag.nil.put.put.put.put [] [(6, v11_0), (7, I k)] [qb 2 rfl 2] aD fun f15 h15_ => ?_
 have hb20 := hb1.upc
 refine sg (bV func132 rfl (h15_.at 6) (h15_.at 7) ((markEntrySS_n st12 k hb1.lo hb1.hi).mono ?_)); rintro _ W16 ⟨fp19, rfl, st18⟩; refine ⟨_, rfl, ?_⟩
 refine sg (aF (v := I (k + (cL (cL aH) x.shelf : Nat))) rfl (aB (wp_seq (aA (rn st18 3 h15_.put.put [] [(10, v11_1), (11, I (k + (cL (cL aH) x.shelf : Nat)))] [qb 2 rfl 3] aD fun f24 h24_ => ?_)))))
 have hb30 := hb20.upc
 refine sg (bV func133 rfl (h24_.at 10) (h24_.at 11) ((markRunS_n st18.f1 (k + (cL (cL aH) x.shelf : Nat)) hb20.lo hb20.hi).mono ?_)); rintro _ W25 ⟨fp28, rfl, st27⟩; refine ⟨_, rfl, ?_⟩
 refine sg (aF (v := I ((k + (cL (cL aH) x.shelf : Nat)) + (cL bK x.runs : Nat))) rfl (aB (wp_seq (aA (sg (aG (v := I ((k + (cL (cL aH) x.shelf : Nat)) + (cL bK x.runs : Nat))) rfl (sg (aF (v := I ((k + (cL (cL aH) x.shelf : Nat)) + (cL bK x.runs : Nat))) rfl (aB (wr (aL results39 rfl ?_)))))))))))
 have st36 := pN (x := (tE x k)) st27.f1 hok11
 exact ⟨_, fI (by unfold cN; push_cast; omega), st36.d1⟩
theorem tK {x : Yard} {k : Int} (hc : Shape.C w cs (tE x k) fp) (h0 : 0 ≤ k) (hk : k + (cN x : Nat) ≤ 4611686018427387904) :
  Calls prog 40 #[.agg cs.toArray, I k] w (rI_ (k + (cN x : Nat)) w) := by
 have hk2 := hk
 have hnt : cN x = cL (cL aH) x.shelf + cL bK x.runs := rfl
 refine bI func40 rfl ntmps40 aV ?_
 have hb1 : Bd k ((cL (cL aH) x.shelf) + ((cL bK x.runs) + (0))) := ⟨by omega, by omega⟩
 refine wp_seq (aA (sg (aI (cs := cs) rfl (St.start w) ?_))); intro b2 W3 hb4 st5
 refine sg (aE (aB (wp_seq (aA ?_))))
 have hk10 := hc
 obtain ⟨v10_0, v10_1, g10_0, g10_1, he10, hok10, h10_0, h10_1, rfl⟩ := hk10
 have he10 : _ = [I x.now, I x.seq, v10_0, v10_1] := he10; subst he10
 have h10_0 : Sl _ v10_0 (mkL (mkL cP aH) (cL aH) x.shelf k) _ := h10_0
 have h10_1 : Sl _ v10_1 (mkL iL bK x.runs (k + (cL (cL aH) x.shelf : Nat))) _ := h10_1
 refine rn st5 3 Ag.nil.put.put.put.put [] [(6, v10_0), (7, I k)] [qb 0 rfl 2] aD fun f11 h11_ => ?_
 have hb16 := hb1.upc
 refine sg (bV func134 rfl (h11_.at 6) (h11_.at 7) ((heldEntrySS_n W3 (x := x.shelf) (h10_0.below st5.below) hb1.lo hb1.hi).mono ?_)); rintro _ W12 ⟨rfl, hk13⟩; refine ⟨_, rfl, ?_⟩
 have st14 := St.call st5 hk13
 refine sg (aF (v := I (k + (cL (cL aH) x.shelf : Nat))) rfl (aB (wp_seq (wp_seq (aA (sg (aG (v := I (k + (cL (cL aH) x.shelf : Nat))) rfl (sg (bL rfl rfl (aB (aJ rfl (fun h21p => ?_) (fun h21p => ?_))))))))))))
 ·exact absurd h21p (Int.not_lt.2 hb16.1)
 refine wp_skip (wp_seq (aA (rn st14 3 h11_.put.put.put.put [] [(12, v10_1), (13, I (k + (cL (cL aH) x.shelf : Nat)))] [qb 0 rfl 3] aD fun f23 h23_ => ?_)))
 have hb28 := hb16.upc
 refine sg (bV func135 rfl (h23_.at 12) (h23_.at 13) ((heldRunS_n W12 (x := x.runs) (h10_1.below st14.below) hb16.lo hb16.hi).mono ?_)); rintro _ W24 ⟨rfl, hk25⟩; refine ⟨_, rfl, ?_⟩
 have st26 := St.call st14 hk25
 refine sg (aF (v := I ((k + (cL (cL aH) x.shelf : Nat)) + (cL bK x.runs : Nat))) rfl (aB (wp_seq (wp_seq (aA (sg (aG (v := I ((k + (cL (cL aH) x.shelf : Nat)) + (cL bK x.runs : Nat))) rfl (sg (bL rfl rfl (aB (aJ rfl (fun h33p => ?_) (fun h33p => ?_))))))))))))
 ·exact absurd h33p (Int.not_lt.2 hb28.1)
 refine wp_skip (wp_seq (aA (sg (aG (v := I ((k + (cL (cL aH) x.shelf : Nat)) + (cL bK x.runs : Nat))) rfl (sg (aF (v := I ((k + (cL (cL aH) x.shelf : Nat)) + (cL bK x.runs : Nat))) rfl (aB (wr (aL results40 rfl ?_)))))))))
 exact ⟨fI aC, st26.bare⟩
theorem markFileS_n {w W0 : World} {rs : List Res} {v : Value} {xs : List File} {fp : List Nat} (hst : St w W0 (Res.own v xs fp :: rs)) (k : Int) (h0 : 0 ≤ k) (hk : k + (cL cJ xs : Nat) ≤ 4611686018427387904) :
  Calls prog 131 #[v, I k] W0 fun e w' => ∃ fp', e = .returned (I (k + (cL cJ xs : Nat))) ∧ St w w' (Res.own v (mkL lU cJ xs k) fp' :: rs) := by
 have hcap := (aS (hst.get 0 rfl)).len_le
 refine bI func131 rfl ntmps131 aV (wp_seq (aA (sg (aE (aB (wp_seq (wp_seq (aA (sg (aE (aB (wp_block (aP (fun (m : Nat) (f : Nat → Value) (W : World) => ∃ (i : Nat) (K : Int) (fo5 : List Nat), i ≤ xs.length ∧ K = k + (cL cJ (xs.take i) : Nat) ∧ m = xs.length - i ∧ Ag [(0, v), (1, I K), (5, I (i : Int))] f ∧ St w W (Res.own (α := List File) v (mkL lU cJ (xs.take i) k ++ xs.drop i) fo5 :: rs)) (xs.length - 0) ?_ ?_)))))))))))))
 ·exact ⟨0, k, fp, Nat.zero_le _, (by simp [cL]), rfl, (Ag.nil.put.put.put.put.to aD), (by simpa [mkL] using hst)⟩
 intro m6 f7 W8 hJ9
 obtain ⟨i, K, fo5, hi, hK, rfl, hA11, st10⟩ := hJ9
 have hlx : (mkL lU cJ (xs.take i) k ++ xs.drop i).length = xs.length := by rw [length_append, dH, length_take, length_drop]; omega
 refine wp_seq (wp_seq (aA (rn st10 4 hA11 [] [(9, .bool (decide ((i : Int) < ((mkL lU cJ (xs.take i) k ++ xs.drop i).length : Int))))] [ql (aS (st10.get 0 rfl)), .o] aD fun f13 h13_ => (aB (aJ (h13_.at 9) (fun h14p => ?_) (fun h14p => ?_))))))
 ·refine wp_skip (wp_seq (wp_block (wp_seq (aA (rn st10 3 h13_ [] [(12, v), (13, I (i : Int)), (14, I K)] [] aD fun f16 h16_ => ?_)))))
  have hq_ := gJ (xs := xs) (i := i) aC
  obtain ⟨y, hy⟩ := hq_
  have hcs := fL cJ hy
  have hcl := dV cJ xs (i + 1)
  have hne : cJ y = 3 := rfl
  have hb17 : Bd K (1 + (1 + (1 + (0)))) := ⟨by omega, by omega⟩
  have hq_ := St.lendx (α := File) aV st10 (x := y) (mJ hy)
  obtain ⟨b18, e18, pre18, cs18, post18, fi18, fr18, hPA18, hC18, st19⟩ := hq_
  obtain ⟨he18, hf18, hok18⟩ := hC18; have he18 : _ = [.string y.name, .string y.data, I y.safe] := he18; subst he18
  refine rc st19.d1 3 h16_ [] [(15, .string (iV K)), (17, .pointer (some ⟨b18, pre18.length, none⟩))] [qc func247 rfl (fun W s b => tF W K aC), qx hPA18] aD fun f25 W26 h25_ st27 hb28 => (sgn (bB (i := 0) (v := .string (iV K)) aD (h25_.at 17) (h25_.at 15) rfl rfl st27 rfl gC rfl ?_)); intro W29 st30
  refine aB (wp_seq (aA ?_))
  have hb32 := hb17.up
  refine rn st30 3 h25_ [1] [(1, I (K + 1))] [.ad K 1 hb32.i64] aD fun f33 h33_ => (aB (wp_seq (aA (rc st30 6 h33_ [] [(23, .string (iV (K + 1))), (25, .pointer (some ⟨b18, pre18.length + 1, none⟩))] [qc func247 rfl (fun W s b => tF W (K + 1) aC), qx hPA18] aD fun f35 W36 h35_ st37 hb38 => (sgn (bB (i := 1) (v := .string (iV (K + 1))) aD (h35_.at 25) (h35_.at 23) rfl rfl st37 rfl gC rfl ?_)))))); intro W39 st40
  refine aB (wp_seq (aA ?_))
  have hb42 := hb32.up
  refine rn st40 3 h35_ [1] [(1, I ((K + 1) + 1))] [.ad (K + 1) 1 hb42.i64] aD fun f43 h43_ => (aB (wp_seq (aA (rn st40 5 h43_ [] [(30, I ((K + 1) + 1)), (32, .pointer (some ⟨b18, pre18.length + 2, none⟩))] [qx hPA18] aD fun f45 h45_ => (sgn (bB (i := 2) (v := I ((K + 1) + 1)) aD (h45_.at 32) (h45_.at 30) rfl rfl st40 rfl gC rfl ?_)))))); intro W46 st47
  refine aB (aA ?_)
  have hb49 := hb42.up
  refine rn st47 3 h45_ [1] [(1, I (((K + 1) + 1) + 1))] [.ad ((K + 1) + 1) 1 hb49.i64] aD fun f50 h50_ => (aB (aA (lw h50_ [(0, v), (1, I (((K + 1) + 1) + 1)), (5, I (i : Int))] aD fun h53_ => (rn st47 3 h53_ [5] [(5, I ((i : Int) + 1))] [qad (i : Int) 1] aD fun f52 h52_ => (aB ?_)))))
  have st54 := st47.cs0 (cs := [.string (iV K), .string (iV (K + 1)), I ((K + 1) + 1)]) (x := (⟨iV K, iV (K + 1), (K + 1) + 1⟩ : File)) ⟨rfl, rfl, (by refine ⟨tD ?_, tD ?_, ?_⟩ <;> (first | omega | (simp only [I64]; omega)))⟩
  obtain ⟨fp59, st60⟩ := St.give (α := File) st54.f2.f1.f2
  exact ⟨_, xs.length - (i + 1), aC, rfl, i + 1, ((K + 1) + 1) + 1, fp59, aC, aC, rfl, (h52_.to aD), (by rw [← jQ hy hK]; exact st60)⟩
 refine wp_exit (wp_seq (aA (sg (aG (h13_.at 1) (sg (aF (v := I K) rfl (aB (wr (aL results131 rfl ?_)))))))))
 obtain rfl : i = xs.length := by omega
 have hca := iY cJ xs _ rfl
 rw [pS rfl] at st10
 exact ⟨_, fI aC, st10⟩
theorem markDisk_n {w W0 : World} {rs : List Res} {x : Disk} {cs : List Value} {fp : List Nat} (hst : St w W0 (Res.own (.agg cs.toArray) x fp :: rs)) (k : Int) (h0 : 0 ≤ k) (hk : k + (iD x : Nat) ≤ 4611686018427387904) :
  Calls prog 38 #[.agg cs.toArray, I k] W0 fun e w' => ∃ fp', e = .returned (I (k + (iD x : Nat))) ∧ St w w' (Res.own (.agg cs.toArray) (xR x k) fp' :: rs) := by
 have hk2 := hk
 unfold iD at hk2
 refine bI func38 rfl ntmps38 aV ?_
 have hb1 : Bd k ((cL cJ x.files) + (0)) := ⟨by omega, by omega⟩
 refine wp_seq (aA (sg (aI (cs := cs) rfl hst ?_))); intro b2 W3 hb4 st5
 refine sg (aE (aB (wp_seq (aA ?_))))
 obtain ⟨v11_0, g11_0, he11, hok11, st12⟩ := open_Disk st5.f1
 subst he11
 refine rn st12 3 Ag.nil.put.put.put.put [] [(6, v11_0), (7, I k)] [qb 1 rfl 0] aD fun f14 h14_ => ?_
 have hb19 := hb1.upc
 refine sg (bV func131 rfl (h14_.at 6) (h14_.at 7) ((markFileS_n st12 k hb1.lo hb1.hi).mono ?_)); rintro _ W15 ⟨fp18, rfl, st17⟩; refine ⟨_, rfl, ?_⟩
 refine sg (aF (v := I (k + (cL cJ x.files : Nat))) rfl (aB (wp_seq (aA (sg (aG (v := I (k + (cL cJ x.files : Nat))) rfl (sg (aF (v := I (k + (cL cJ x.files : Nat))) rfl (aB (wr (aL results38 rfl ?_)))))))))))
 have st24 := uY (x := (xR x k)) st17 hok11
 exact ⟨_, fI (by unfold iD; push_cast; omega), st24.d1⟩
end Go.Proofs.YtanpcpoogkdlaaaGreat
