/-
  Copies of plans, runs, entries, yards, of both.
  A new yard, as a contract.
  Engines: right or not, copied, of both.
  Rows handled by their block: cap, parts, copies, and what is appended of zeros.
  Slices of entries owned, by their block; clear.
  Slices owned, by their block, whatever their elements lead to; an append within the block; clear; elements that go over to another row. Theory alone.
  An element of an owned slice is left out.
  Disks: moved, of both.
  A yard's text, of the program.
  A yard's text, of the reference.
  A mark's steps, plain.
  A mark's steps, of both.
  A mark's steps, as calls; their weights.
  A mark, of both.
  A mark, as calls.
  markText.
  The laws' marks: what is written.
  The laws' marks, walked.
  The law on Mark, walked.
  What is handed to a law, taken out of the row's reading: it is data in memory, as the walks want it.
-/
import Derived.Lib.AppendZerosOnto
import Derived.Lib.Overlaps
import Derived.Laws.IdiomCopy
import Derived.ArgAppend
import Derived.ProofKit
import Derived.OpenShut
import Derived.Test.YtanpcpoogkdlaaaGreatQ01
import Derived.Test.YtanpcpoogkdlaaaGreatQ02
import Derived.Test.YtanpcpoogkdlaaaGreatQ03
import Derived.Test.YtanpcpoogkdlaaaGreatQ04
import Derived.Test.YtanpcpoogkdlaaaGreatQ05
namespace Go.Proofs.YtanpcpoogkdlaaaGreat
set_option linter.unusedSimpArgs false
set_option linter.unusedVariables false
set_option maxRecDepth 100000
set_option maxHeartbeats 2000000
open Go.RowKit Go.Proofs.Tryz List
variable (w : World) {cs ds : List Value} {fp gp : List Nat}
theorem St.fst2 {w0 W : World} {a b : Res} {rs : List Res} (h : St w0 W (a :: b :: rs)) : St w0 W [a, b] := h.sub (((nil_sublist rs).cons_cons b).cons_cons a)
theorem xY (xs : List (List Entry)) (k : Nat) (h : k < xs.length) : xs.take k ++ [xs[k]] = xs.take (k + 1) := (take_succ_eq_append_getElem h).symm
theorem zV (xs : List Run) (k : Nat) (h : k < xs.length) : xs.take k ++ [xs[k]] = xs.take (k + 1) := (take_succ_eq_append_getElem h).symm
theorem xG (y : Yard) (k : Nat) (h : k < y.shelf.length) : y.shelf[k].length + y.shelf.length ≤ y.wt := by
 unfold Yard.wt wtL
 have := nS (fun z : List Entry => z.length) y.shelf k h
 omega

theorem CopyEntriesI {v : Value} {xs : List Entry} {fp : List Nat} (h : Sl w v xs fp) (hw : xs.length ≤ 1048576) :
  Calls prog 235 #[v] w fun e w' => ∃ (v' : Value), e = .returned v' ∧ St w w' [Res.row 243 v' xs []] := by
 refine cC func235 rfl ntmps235 aU (wp_seq (aA (sg (aF (v := .slice none 0 0) rfl (aB (wp_seq (aA (sg (aG (v := v) rfl ?_)))))))))
 have st5 := (St.start w).row_nil (α := Entry) 243
 refine sg (dQ kK iE rfl rfl h (Below.refl _ _) st5 (by simp only [length_nil]; unfold maxLen; omega) (by simp only [length_nil]; omega) ?_); intro v7 W8 st9
 refine sg (aF (v := v7) rfl (aB (wr (aM results235 rfl ?_))))
 exact ⟨_, rfl, st9.only 0 rfl⟩
theorem CopyPlanI {p : Plan} (hc : Shape.C w cs p fp) (hw : p.wt ≤ 1048576) :
  Calls prog 347 #[.agg cs.toArray] w (rO_ p w) := by
 have hw2 : p.edges.length ≤ 1048576 := hw
 refine cC func347 rfl ntmps347 aU (wp_seq (aA (sg (aH (cs := cs) rfl (St.start w) ?_)))); intro b1 W2 hb3 st4
 refine sg (aT tN st4 ?_); intro b6 W7 hb8 st9
 refine aB (wp_seq (aA ?_))
 have hk12 := hc
 obtain ⟨v12_0, g12_0, rfl, hok12, h12_0, rfl⟩ := hk12
 refine sg (aL jK rfl (sg (bI vN rfl rfl (st9.get 1 rfl) (i := 4) rfl rfl ?_)))
 have st14 := st9.row_nil (α := Edge) 239
 refine sg (dQ vC rM rfl rfl h12_0 st14.below st14 (by simp only [length_nil]; unfold maxLen; omega) (by simp only [length_nil]; omega) ?_); intro v16 W17 st18
 refine sg (aL jK rfl (sgn (aN (v := v16) aD rfl rfl (Sl.cells (cN (st18.f2.get 1 rfl))) (Sl.one (cN (st18.f2.get 1 rfl))) st18.f2 bX rfl ?_))); intro W22 st23
 refine aB (wp_seq (aA (sg (aV (cs := [I p.prio, I p.most, I p.wait, I p.tasks, v16]) iM rfl rfl (st23.get 0 rfl) rfl rfl (sgn (aX aD rfl rfl (aI rfl (aI rfl (aI rfl (aI rfl (aI (Sl.one (cN (st23.f2.get 2 rfl))) dC))))) st23.f2 bX rfl ?_)))))); intro W27 st28
 refine aB (wr (iR iM rfl results347 rfl (st28.get 0 rfl) rfl ?_))
 obtain ⟨fp31, st30⟩ := st28.f2.shut
 have st32 := rW (x := p) st30 eQ
 exact ⟨_, _, rfl, st32.only 0 rfl⟩
theorem CopyPlanS {p : Plan} (hc : Shape.C w cs p fp) (hw : p.wt ≤ 1048576) :
  Calls prog 366 #[.agg cs.toArray] w (rO_ p w) := by
 have hw2 : p.edges.length ≤ 1048576 := hw
 refine cC func366 rfl ntmps366 aU (wp_seq (aA (sg (aH (cs := cs) rfl (St.start w) ?_)))); intro b1 W2 hb3 st4
 refine sg (aT tN st4 ?_); intro b6 W7 hb8 st9
 refine aB (wp_seq (aA (sg (aZ (cs := []) (e := 239) jD (dU rM _) st9 ?_)))); intro b11 W12 hb13 st14
 have st14 := st14.row_empty (α := Edge)
 have hk17 := hc
 obtain ⟨v17_0, g17_0, rfl, hok17, h17_0, rfl⟩ := hk17
 refine sg (aL jK rfl (sg (bI vN rfl rfl (st14.get 2 rfl) (i := 4) rfl rfl (sg (dQ vC rM rfl rfl h17_0 st14.below st14 (by simp only [length_nil]; unfold maxLen; omega) (by simp only [length_nil]; omega) ?_))))); intro v19 W20 st21
 refine sg (aL jK rfl (sgn (aN (v := v19) aD rfl rfl (Sl.cells (cN (st21.f2.get 1 rfl))) (Sl.one (cN (st21.f2.get 1 rfl))) st21.f2 bX rfl ?_))); intro W25 st26
 refine aB (wp_seq (aA (sg (aV (cs := [I p.prio, I p.most, I p.wait, I p.tasks, v19]) iM rfl rfl (st26.get 0 rfl) rfl rfl (sgn (aX aD rfl rfl (aI rfl (aI rfl (aI rfl (aI rfl (aI (Sl.one (cN (st26.f2.get 2 rfl))) dC))))) st26.f2 bX rfl ?_)))))); intro W30 st31
 refine aB (wr (iR iM rfl results366 rfl (st31.get 0 rfl) rfl ?_))
 obtain ⟨fp34, st33⟩ := st31.f2.shut
 have st35 := rW (x := p) st33 eQ
 exact ⟨_, _, rfl, st35.only 0 rfl⟩
theorem CopyRunI {r : Run} (hc : Shape.C w cs r fp) (hw : r.wt ≤ 1048576) :
  Calls prog 236 #[.agg cs.toArray] w (rO_ r w) := by
 have hw2 : r.plan.wt + r.tasks.length ≤ 1048576 := hw
 refine cC func236 rfl ntmps236 aU (wp_seq (aA (sg (aH (cs := cs) rfl (St.start w) ?_)))); intro b1 W2 hb3 st4
 refine sg (aT oW st4 ?_); intro b6 W7 hb8 st9
 refine aB (wp_seq (aA ?_))
 have hk12 := hc
 obtain ⟨v12_0, v12_1, g12_0, g12_1, rfl, hok12, h12_0, h12_1, rfl⟩ := hk12
 refine sg (aL nG rfl (sg (aV (cs := [I r.plan.prio, I r.plan.most, I r.plan.wait, I r.plan.tasks, v12_0]) iM rfl rfl (st9.get 1 rfl) rfl rfl (sg (bO func347 rfl rfl ((CopyPlanI W7 (show Shape.C _ [I r.plan.prio, I r.plan.most, I r.plan.wait, I r.plan.tasks, v12_0] r.plan _ from ⟨_, _, rfl, eQ, (h12_0.below st9.below), rfl⟩) aC).mono ?_)))))); rintro _ W16 ⟨cs14, fp14, rfl, hk17⟩; refine ⟨_, rfl, ?_⟩
 have st18 := St.call st9 hk17
 refine sg (aL nG rfl ?_)
 obtain ⟨v22_0, g22_0, he22, hok22, st23⟩ := sB st18
 subst he22
 refine sgn (aX aD rfl rfl (aI rfl (aI rfl (aI rfl (aI rfl (aI (Sl.one (aR (st23.f2.get 1 rfl))) dC))))) st23.f2 bX rfl ?_); intro W26 st27
 refine aB (wp_seq (aA (sg (aL nF rfl (sg (bI aA8 rfl rfl (st27.get 0 rfl) (i := 7) rfl rfl ?_))))))
 have st30 := st27.row_nil (α := Task) 158
 refine sg (dQ vA rJ rfl rfl h12_1 st30.below st30 (by simp only [length_nil]; unfold maxLen; omega) (by simp only [length_nil]; omega) ?_); intro v32 W33 st34
 refine sg (aL nF rfl (sgn (aN (v := v32) aD rfl rfl (Sl.cells (cN (st34.f1.get 1 rfl))) (Sl.one (cN (st34.f1.get 1 rfl))) st34.f1 bX rfl ?_))); intro W38 st39
 refine aB (wp_seq (aA (sg (aV (cs := [I r.id, I r.plan.prio, I r.plan.most, I r.plan.wait, I r.plan.tasks, v22_0, I r.state, v32]) fU rfl rfl (st39.get 0 rfl) rfl rfl (sgn (aX aD rfl rfl (aI rfl (aI rfl (aI rfl (aI rfl (aI rfl (aI (Sl.one (aR (st39.f3.get 3 rfl))) (aI rfl (aI (Sl.one (cN (st39.f3.get 2 rfl))) dC)))))))) st39.f3 bX rfl ?_)))))); intro W43 st44
 refine aB (wr (iR fU rfl results236 rfl (st44.get 0 rfl) rfl ?_))
 obtain ⟨fp47, st46⟩ := st44.f2.shut
 have st49 := pZ (x := r) st46.f3 eQ
 exact ⟨_, _, rfl, st49.only 0 rfl⟩
theorem CopyRunS {r : Run} (hc : Shape.C w cs r fp) (hw : r.wt ≤ 1048576) :
  Calls prog 288 #[.agg cs.toArray] w (rO_ r w) := by
 have hw2 : r.plan.wt + r.tasks.length ≤ 1048576 := hw
 refine cC func288 rfl ntmps288 aU (wp_seq (aA (sg (aH (cs := cs) rfl (St.start w) ?_)))); intro b1 W2 hb3 st4
 refine sg (aT oW st4 ?_); intro b6 W7 hb8 st9
 refine aB (wp_seq (aA ?_))
 have hk12 := hc
 obtain ⟨v12_0, v12_1, g12_0, g12_1, rfl, hok12, h12_0, h12_1, rfl⟩ := hk12
 refine sg (aL nG rfl (sg (aV (cs := [I r.plan.prio, I r.plan.most, I r.plan.wait, I r.plan.tasks, v12_0]) iM rfl rfl (st9.get 1 rfl) rfl rfl (sg (bO func366 rfl rfl ((CopyPlanS W7 (show Shape.C _ [I r.plan.prio, I r.plan.most, I r.plan.wait, I r.plan.tasks, v12_0] r.plan _ from ⟨_, _, rfl, eQ, (h12_0.below st9.below), rfl⟩) aC).mono ?_)))))); rintro _ W16 ⟨cs14, fp14, rfl, hk17⟩; refine ⟨_, rfl, ?_⟩
 have st18 := St.call st9 hk17
 refine sg (aL nG rfl ?_)
 obtain ⟨v22_0, g22_0, he22, hok22, st23⟩ := sB st18
 subst he22
 refine sgn (aX aD rfl rfl (aI rfl (aI rfl (aI rfl (aI rfl (aI (Sl.one (aR (st23.f2.get 1 rfl))) dC))))) st23.f2 bX rfl ?_); intro W26 st27
 refine aB (wp_seq (aA (sg (aZ (cs := []) (e := 158) jD (dU rJ _) st27 ?_)))); intro b28 W29 hb30 st31
 have st31 := st31.row_empty (α := Task)
 refine sg (aL nF rfl (sg (bI aA8 rfl rfl (st31.get 1 rfl) (i := 7) rfl rfl (sg (dQ vA rJ rfl rfl h12_1 st31.below st31 (by simp only [length_nil]; unfold maxLen; omega) (by simp only [length_nil]; omega) ?_))))); intro v35 W36 st37
 refine sg (aL nF rfl (sgn (aN (v := v35) aD rfl rfl (Sl.cells (cN (st37.f1.get 1 rfl))) (Sl.one (cN (st37.f1.get 1 rfl))) st37.f1 bX rfl ?_))); intro W41 st42
 refine aB (wp_seq (aA (sg (aV (cs := [I r.id, I r.plan.prio, I r.plan.most, I r.plan.wait, I r.plan.tasks, v22_0, I r.state, v35]) fU rfl rfl (st42.get 0 rfl) rfl rfl (sgn (aX aD rfl rfl (aI rfl (aI rfl (aI rfl (aI rfl (aI rfl (aI (Sl.one (aR (st42.f3.get 3 rfl))) (aI rfl (aI (Sl.one (cN (st42.f3.get 2 rfl))) dC)))))))) st42.f3 bX rfl ?_)))))); intro W46 st47
 refine aB (wr (iR fU rfl results288 rfl (st47.get 0 rfl) rfl ?_))
 obtain ⟨fp50, st49⟩ := st47.f2.shut
 have st52 := pZ (x := r) st49.f3 eQ
 exact ⟨_, _, rfl, st52.only 0 rfl⟩
theorem CopyYardIr {y : Yard} (hc : Shape.C w cs y fp) (hw : y.wt ≤ 1048576) :
  Calls prog 119 #[.agg cs.toArray] w fun e w' => ∃ (vs vr : Value) (fs fe : List Nat), e = .returned (.agg #[I y.now, I y.seq, vs, vr]) ∧ St w w' [Res.own vs y.shelf fs, Res.row (α := Run) 55 vr y.runs fe] := by
 have hys : y.shelf.length + y.runs.length ≤ y.wt := by unfold Yard.wt wtL; omega
 refine cC func119 rfl ntmps119 aU (wp_seq (aA (sg (aH (cs := cs) rfl (St.start w) ?_)))); intro b1 W2 hb3 st4
 refine sg (aT nO st4 ?_); intro b6 W7 hb8 st9
 refine aB (wp_seq (aA ?_))
 have hk12 := hc
 obtain ⟨v12_0, v12_1, g12_0, g12_1, rfl, hok12, h12_0, h12_1, rfl⟩ := hk12
 refine rn st9 4 Ag.nil.put.put.put [] [(9, I y.now), (11, I y.seq)] [qb 1 rfl 0, qb 1 rfl 1] aD fun f13 h13_ => (sg (xB (vs := [(0, I y.now), (1, I y.seq)]) (cs := [I y.now, I y.seq, .slice none 0 0, .slice none 0 0]) (eS (h13_.at 9) (eS (h13_.at 11) jD)) aD (sg (aT nO st9 ?_)))); intro b14 W15 hb16 st17
 refine sgn (aX aD rfl rfl (aI rfl (aI rfl (aI rfl (aI rfl dC)))) st17 bX rfl ?_); intro W19 st20
 refine aB (wp_seq (wp_seq (aA (rn st20 4 h13_.put.put [] [(14, v12_0), (15, I (y.shelf.length : Int)), (16, I 0)] [qb 2 rfl 2, ql h12_0] aD fun f22 h22_ => (aB (wp_block ?_))))))
 have st23 := st20.row_nil (α := (List Entry)) 217
 refine aQ (fun (m : Nat) (f : Nat → Value) (W : World) => ∃ (k : Nat) (v25 : Value) (fe26 : List Nat), k ≤ y.shelf.length ∧ m = y.shelf.length - k ∧ Ag [(1, pt_ b1), (2, pt_ b6), (3, pt_ b14), (14, v12_0), (15, I (y.shelf.length : Int)), (16, I (k : Int))] f ∧ St w W ([Res.row (α := (List Entry)) 217 v25 (y.shelf.take k) fe26, Res.bx b14 [I y.now, I y.seq, v25, .slice none 0 0] 27, Res.bx b6 [I 0, I 0, .slice none 0 0, .slice none 0 0] 27, Res.bx b1 [I y.now, I y.seq, v12_0, v12_1] 27])) (y.shelf.length - 0) ?_ ?_
 ·exact ⟨0, (.slice none 0 0), [], Nat.zero_le _, rfl, (h22_.to aD), st23⟩
 intro m27 f28 W29 hJ30
 obtain ⟨k, v25, fe26, hcd32_0, rfl, hA32, st31⟩ := hJ30
 refine wp_seq (aA (sg (bA (hA32.at 16) (hA32.at 15) (aB (wp_seq (aK rfl (fun h35p => ?_) (fun h35p => ?_)))))))
 ·refine wp_skip (wp_seq (wp_block (wp_seq (aA ?_))))
  have hi019db : k < y.shelf.length := aC
  obtain ⟨b36, o36, cs36, f36, hp36, hr36, hc36, hm36⟩ := idx h12_0 (i := k) hi019db
  have hk36 := hc36
  obtain ⟨v37, rfl, h38⟩ := hk36
  refine rn st31 3 hA32.put [] [(5, v37)] [qx hp36, qr hr36 0] aD fun f40 h40_ => (aB ?_)
  have hyk := xG y k aC
  refine iH 5 [(some 3, some 4, .of (ι := Value) [23] (fun v41 => [v41]) (fun v41 => Res.row (α := Entry) 243 v41 (y.shelf[k]'hi019db) [])), (some 4, none, .of (ι := Nat × Value) [23, 24] (fun ⟨b48, v41⟩ => [v41, .slice (some ⟨b48, 0, none⟩) 1 1]) (fun ⟨b48, v41⟩ => Res.bx b48 [v41] 217)), (some 4, none, .of (ι := Value) [23] (fun v41 => [v41]) (fun v41 => Res.row (α := Entry) 243 v41 (y.shelf[k]'hi019db) []))] [(true, .is (.pointer (some ⟨b14, 0 + 2, none⟩))), (true, .is (v25)), (true, .is (v37)), (false, .ex (fun (v41 : Value) => v41)), (false, .ex (fun (b48 : Nat) => .slice (some ⟨b48, 0, none⟩) 1 1))] mix aD aD aD aD (rs0 := []) rfl st31 (Below.refl _ _) ⟨(fq_ jJ (h40_.at 3)), (fun f W hst hbl hd hf => bI pK rfl (hd 0 20 rfl rfl) (hst.get 1 rfl) (i := 2) rfl rfl brq), (mq_ (h40_.at 5)), ?_, ?_, trivial⟩ ?_
  ·intro f W ru oth hu hst hbl hd hf
   have hn_ : ru = [] := hu
   subst hn_
   try simp only [iU, iS] at hst
   refine (bO func235 rfl (hd 2 22 rfl rfl) ((CopyEntriesI W (h38.below hst.below) aC).mono ?_)); rintro _ W43 ⟨v41, rfl, hk44⟩; refine ⟨_, rfl, ?_⟩
   have st45 := St.call hst hk44
   exact ⟨⟨v41, rfl⟩, ⟨_, ⟨_, _, rfl, ⟨v41, (ce rfl rfl), rfl⟩, rfl⟩, st45⟩, (hbl.trans (Below.mono hk44.below hbl.size))⟩
  ·intro f W ru oth hu hst hbl hd hf
   obtain ⟨_, _, rfl, ⟨v41, he47, rfl⟩, hn_⟩ := hu
   have hn_ : _ = [] := hn_
   subst hn_
   have hu47_23 : f 23 = v41 := congrArg (fun l => l.getD 0 undef) he47
   try simp only [iU, iS] at hst
   refine (aZ (cs := [v41]) (e := 217) (eS (v := v41) hu47_23 jD) (bT kB _ _ (Sl.cells (cN (hst.get 0 rfl))) rfl aU) hst ?_); intro b48 W49 hb50 st51
   exact ⟨⟨b48, rfl⟩, ⟨_, ⟨_, _, rfl, ⟨(b48, v41), (ce hu47_23 (ce rfl rfl)), rfl⟩, _, _, rfl, ⟨v41, (ce hu47_23 rfl), rfl⟩, rfl⟩, st51⟩, (hbl.trans (Below.mono hb50 hbl.size))⟩
  intro f53 W54 rs_ hAL_ st57 hbl58 hv55 hf56
  obtain ⟨_, _, rfl, ⟨⟨b48, v41⟩, he59, rfl⟩, _, _, rfl, ⟨v41z60, he60, rfl⟩, hn_⟩ := hAL_
  have hn_ : _ = [] := hn_
  subst hn_
  have hu59_23 : f53 23 = v41 := congrArg (fun l => l.getD 0 undef) he59
  have hu59_24 : f53 24 = .slice (some ⟨b48, 0, none⟩) 1 1 := congrArg (fun l => l.getD 1 undef) he59
  have hu60_23 : f53 23 = v41z60 := congrArg (fun l => l.getD 0 undef) he60
  obtain rfl : v41 = v41z60 := by have h_ := hu59_23.symm.trans hu60_23; first | exact h_ | (simp at h_; first | exact h_ | exact h_.1 | exact h_.2 | exact h_.1.1)
  try simp only [iU, iS] at st57
  have st62 := st57.f1
  obtain ⟨fp63, st64⟩ := st62.shut
  have st65 := st64.cs1
  refine sg (gL kB (hv55 1 21 aU rfl) hu59_24 st65.f1.f2 (by rw [length_take]; unfold maxLen; omega) (by rw [length_take]; omega) ?_); intro v68 W69 st70
  refine sg (aL jJ ((hf56 3 rfl).trans (h40_.at 3)) (sgn (aN (v := v68) aD rfl rfl (Sl.cells (cN (st70.f1.get 1 rfl))) (Sl.one (cN (st70.f1.get 1 rfl))) st70.f1 bX rfl ?_))); intro W74 st75
  refine aB (aA (sg (bW ((hf56 16 rfl).trans (h40_.at 16)) rfl eI (sg (aG (v := I ((k : Int) + 1)) rfl (aB ?_))))))
  exact ⟨_, y.shelf.length - (k + 1), aC, rfl, k + 1, v68, fe26 ++ fp63, aC, rfl, (Ag.cons ((hf56 1 rfl).trans (h40_.at 1)) (Ag.cons ((hf56 2 rfl).trans (h40_.at 2)) (Ag.cons ((hf56 3 rfl).trans (h40_.at 3)) (Ag.cons ((hf56 14 rfl).trans (h40_.at 14)) (Ag.cons ((hf56 15 rfl).trans (h40_.at 15)) (Ag.cons rfl Ag.nil)))))), (by rw [← xY _ _ aC]; exact st75.f3.f3.f2.f3)⟩
 refine wp_exit (wp_seq (wp_seq (aA (rn st31 4 hA32.put [] [(29, v12_1), (30, I (y.runs.length : Int)), (31, I 0)] [qb 3 rfl 3, ql h12_1] aD fun f83 h83_ => (aB (wp_block ?_))))))
 have hke : k = y.shelf.length := by omega
 rw [hke, take_length] at st31
 have st84 := st31.row_nil (α := Run) 55
 refine aQ (fun (m : Nat) (f : Nat → Value) (W : World) => ∃ (j : Nat) (v86 : Value) (fe87 : List Nat), j ≤ y.runs.length ∧ m = y.runs.length - j ∧ Ag [(2, pt_ b6), (3, pt_ b14), (29, v12_1), (30, I (y.runs.length : Int)), (31, I (j : Int))] f ∧ St w W ([Res.row (α := Run) 55 v86 (y.runs.take j) fe87, Res.row (α := (List Entry)) 217 v25 y.shelf fe26, Res.bx b14 [I y.now, I y.seq, v25, v86] 27, Res.bx b6 [I 0, I 0, .slice none 0 0, .slice none 0 0] 27, Res.bx b1 [I y.now, I y.seq, v12_0, v12_1] 27])) (y.runs.length - 0) ?_ ?_
 ·exact ⟨0, (.slice none 0 0), [], Nat.zero_le _, rfl, (h83_.to aD), st84⟩
 intro m88 f89 W90 hJ91
 obtain ⟨j, v86, fe87, hcd93_0, rfl, hA93, st92⟩ := hJ91
 refine wp_seq (aA (sg (bA (hA93.at 31) (hA93.at 30) (aB (wp_seq (aK rfl (fun h96p => ?_) (fun h96p => ?_)))))))
 ·refine wp_skip (wp_seq (wp_block (wp_seq (aA ?_))))
  have hif099f : j < y.runs.length := aC
  obtain ⟨b97, o97, cs97, f97, hp97, hr97, hc97, hm97⟩ := idx h12_1 (i := j) hif099f
  refine sg (aY pX (hA93.at 29) hp97 (hA93.at 31) rfl (sg (dX fU rfl rfl hr97 st92.below (Shape.len hc97) (sg (aT oW st92 ?_))))); intro b100 W101 hb102 st103
  refine sgn (bR (cs := cs97) fU hc97 rfl rfl st103 rfl ?_); intro W105 st106
  refine aB ?_
  have hyk := mR (y := y) (k := j) aC
  refine iH 5 [(some 3, some 4, .of (ι := List Value × List Nat) [38] (fun ⟨cs107, fp107⟩ => [.agg cs107.toArray]) (fun ⟨cs107, fp107⟩ => Res.own (α := Run) (.agg cs107.toArray) (y.runs[j]'hif099f) fp107)), (some 4, none, .of (ι := Nat × List Value) [38, 39] (fun ⟨b114, cs107⟩ => [.agg cs107.toArray, .slice (some ⟨b114, 0, none⟩) 1 1]) (fun ⟨b114, cs107⟩ => Res.bx b114 cs107 55)), (some 4, none, .of (ι := List Value × List Nat) [38] (fun ⟨cs107, fp107⟩ => [.agg cs107.toArray]) (fun ⟨cs107, fp107⟩ => Res.own (α := Run) (.agg cs107.toArray) (y.runs[j]'hif099f) fp107))] [(true, .is (.pointer (some ⟨b14, 0 + 3, none⟩))), (true, .is (v86)), (true, .is (.agg cs97.toArray)), (false, .ex (fun (cs107 : List Value) => .agg cs107.toArray)), (false, .ex (fun (b114 : Nat) => .slice (some ⟨b114, 0, none⟩) 1 1))] mix aD aD aD aD (rs0 := []) rfl st106 (Below.refl _ _) ⟨(fq_ iC (hA93.at 3)), (fun f W hst hbl hd hf => bI tV rfl (hd 0 35 rfl rfl) (hst.get 3 rfl) (i := 3) rfl rfl brq), (fun f W hst hbl hd hf => dB fU rfl ((hf 7 rfl).trans (show _ = (pt_ b100 : Value) from rfl)) (hst.get 0 rfl) (Shape.len hc97) brq), ?_, ?_, trivial⟩ ?_
  ·intro f W ru oth hu hst hbl hd hf
   have hn_ : ru = [] := hu
   subst hn_
   try simp only [iU, iS] at hst
   refine (bO func236 rfl (hd 2 37 rfl rfl) ((CopyRunI W (bG hc97 hst.below) aC).mono ?_)); rintro _ W109 ⟨cs107, fp107, rfl, hk110⟩; refine ⟨_, rfl, ?_⟩
   have st111 := St.call hst hk110
   exact ⟨⟨cs107, rfl⟩, ⟨_, ⟨_, _, rfl, ⟨(cs107, fp107), (ce rfl rfl), rfl⟩, rfl⟩, st111⟩, (hbl.trans (Below.mono hk110.below hbl.size))⟩
  ·intro f W ru oth hu hst hbl hd hf
   obtain ⟨_, _, rfl, ⟨⟨cs107, fp107⟩, he113, rfl⟩, hn_⟩ := hu
   have hn_ : _ = [] := hn_
   subst hn_
   have hu113_38 : f 38 = .agg cs107.toArray := congrArg (fun l => l.getD 0 undef) he113
   try simp only [iU, iS] at hst
   refine (aZ (cs := cs107) (e := 55) (eS (v := .agg cs107.toArray) hu113_38 jD) (bT rK _ _ rfl (Shape.len (dN (hst.get 0 rfl) rfl)) aU) hst ?_); intro b114 W115 hb116 st117
   exact ⟨⟨b114, rfl⟩, ⟨_, ⟨_, _, rfl, ⟨(b114, cs107), (ce hu113_38 (ce rfl rfl)), rfl⟩, _, _, rfl, ⟨(cs107, fp107), (ce hu113_38 rfl), rfl⟩, rfl⟩, st117⟩, (hbl.trans (Below.mono hb116 hbl.size))⟩
  intro f119 W120 rs_ hAL_ st123 hbl124 hv121 hf122
  obtain ⟨_, _, rfl, ⟨⟨b114, cs107⟩, he125, rfl⟩, _, _, rfl, ⟨⟨cs107z126, fp107⟩, he126, rfl⟩, hn_⟩ := hAL_
  have hn_ : _ = [] := hn_
  subst hn_
  have hu125_38 : f119 38 = .agg cs107.toArray := congrArg (fun l => l.getD 0 undef) he125
  have hu125_39 : f119 39 = .slice (some ⟨b114, 0, none⟩) 1 1 := congrArg (fun l => l.getD 1 undef) he125
  have hu126_38 : f119 38 = .agg cs107z126.toArray := congrArg (fun l => l.getD 0 undef) he126
  obtain rfl : cs107 = cs107z126 := by have h_ := hu125_38.symm.trans hu126_38; first | exact h_ | (simp at h_; first | exact h_ | exact h_.1 | exact h_.2 | exact h_.1.1)
  try simp only [iU, iS] at st123
  have st128 := st123.f1
  have st129 := st128.cs rfl
  refine sg (gL rK (hv121 1 36 aU rfl) hu125_39 st129.f1.f3 (by rw [length_take]; unfold maxLen; omega) (by rw [length_take]; omega) ?_); intro v132 W133 st134
  refine sg (aL iC ((hf122 3 rfl).trans (hA93.at 3)) (sgn (aN (v := v132) aD rfl rfl (Sl.cells (cN (st134.f3.get 1 rfl))) (Sl.one (cN (st134.f3.get 1 rfl))) st134.f3 bX rfl ?_))); intro W138 st139
  refine aB (aA (sg (bW ((hf122 31 rfl).trans (hA93.at 31)) rfl eI (sg (aG (v := I ((j : Int) + 1)) rfl (aB ?_))))))
  exact ⟨_, y.runs.length - (j + 1), aC, rfl, j + 1, v132, fe87 ++ fp107, aC, rfl, (Ag.cons ((hf122 2 rfl).trans (hA93.at 2)) (Ag.cons ((hf122 3 rfl).trans (hA93.at 3)) (Ag.cons ((hf122 29 rfl).trans (hA93.at 29)) (Ag.cons ((hf122 30 rfl).trans (hA93.at 30)) (Ag.cons rfl Ag.nil))))), (by rw [← zV _ _ aC]; exact st139.f5.f5.f2.f5.f4.d5)⟩
 refine wp_exit (wp_seq (aA (sg (aV (cs := [I y.now, I y.seq, v25, v86]) iL rfl (hA93.at 3) (st92.get 2 rfl) rfl rfl (sgn (aX aD (hA93.at 2) rfl (aI rfl (aI rfl (aI (Sl.one (cN (st92.f3.get 2 rfl))) (aI (Sl.one (cN (st92.f3.get 1 rfl))) dC)))) st92.f3 bX rfl ?_)))))); intro W151 st152
 refine aB (wr (iR iL rfl results119 (hA93.at 2) (st152.get 0 rfl) rfl ?_))
 have hje : j = y.runs.length := by omega
 rw [hje, take_length] at st152
 have st153 := st152.f2
 obtain ⟨fp155, st154⟩ := st153.shut
 exact ⟨_, _, _, _, rfl, st154.f2.f1.fst2⟩
theorem CopyYardI {y : Yard} (hc : Shape.C w cs y fp) (hw : y.wt ≤ 1048576) :
  Calls prog 119 #[.agg cs.toArray] w (rO_ y w) := by
 have hok_ : y.ok := by obtain ⟨v0, v1, g0, g1, rfl, hok, h0, h1, rfl⟩ := hc; exact hok
 refine (CopyYardIr w hc hw).mono ?_
 rintro _ w' ⟨vs, vr, fs, fe, rfl, st⟩
 obtain ⟨fr, st2⟩ := st.f1.shut
 have st3 := kY (x := y) st2.f1 hok_
 exact ⟨_, _, rfl, st3.only 0 rfl⟩

theorem CopyYardSr {y : Yard} (hc : Shape.C w cs y fp) (hw : y.wt ≤ 1048576) :
  Calls prog 184 #[.agg cs.toArray] w fun e w' => ∃ (vs vr : Value) (fs fe : List Nat), e = .returned (.agg #[I y.now, I y.seq, vs, vr]) ∧ St w w' [Res.own vs y.shelf fs, Res.row (α := Run) 55 vr y.runs fe] := by
 have hys : y.shelf.length + y.runs.length ≤ y.wt := by unfold Yard.wt wtL; omega
 refine cC func184 rfl ntmps184 aU (wp_seq (aA (sg (aH (cs := cs) rfl (St.start w) ?_)))); intro b1 W2 hb3 st4
 refine sg (aT nO st4 ?_); intro b6 W7 hb8 st9
 refine aB (wp_seq (aA ?_))
 have hk12 := hc
 obtain ⟨v12_0, v12_1, g12_0, g12_1, rfl, hok12, h12_0, h12_1, rfl⟩ := hk12
 refine rn st9 4 Ag.nil.put.put.put [] [(7, I y.now), (9, I y.seq)] [qb 1 rfl 0, qb 1 rfl 1] aD fun f13 h13_ => (sg (xB (vs := [(0, I y.now), (1, I y.seq)]) (cs := [I y.now, I y.seq, .slice none 0 0, .slice none 0 0]) (eS (h13_.at 7) (eS (h13_.at 9) jD)) aD (sg (aT nO st9 ?_)))); intro b14 W15 hb16 st17
 refine sgn (aX aD rfl rfl (aI rfl (aI rfl (aI rfl (aI rfl dC)))) st17 bX rfl ?_); intro W19 st20
 refine aB (wp_seq (wp_seq (aA (sg (aE (aB (wp_block ?_)))))))
 have st23 := st20.row_nil (α := (List Entry)) 217
 refine aQ (fun (m : Nat) (f : Nat → Value) (W : World) => ∃ (k : Nat) (v25 : Value) (fe26 : List Nat), k ≤ y.shelf.length ∧ m = y.shelf.length - k ∧ Ag [(1, pt_ b1), (2, pt_ b6), (3, pt_ b14), (4, I (k : Int))] f ∧ St w W ([Res.row (α := (List Entry)) 217 v25 (y.shelf.take k) fe26, Res.bx b14 [I y.now, I y.seq, v25, .slice none 0 0] 27, Res.bx b6 [I 0, I 0, .slice none 0 0, .slice none 0 0] 27, Res.bx b1 [I y.now, I y.seq, v12_0, v12_1] 27])) (y.shelf.length - 0) ?_ ?_
 ·exact ⟨0, (.slice none 0 0), [], Nat.zero_le _, rfl, (h13_.put.put.put.to aD), st23⟩
 intro m27 f28 W29 hJ30
 obtain ⟨k, v25, fe26, hcd32_0, rfl, hA32, st31⟩ := hJ30
 refine wp_seq (wp_seq (aA (rn st31 5 hA32 [] [(15, .bool (decide ((k : Int) < (y.shelf.length : Int))))] [qb 3 rfl 2, ql h12_0, .o] aD fun f34 h34_ => (aB (aK (h34_.at 15) (fun h35p => ?_) (fun h35p => ?_))))))
 ·refine wp_skip (wp_seq (wp_block ?_))
  have hi019db : k < y.shelf.length := aC
  obtain ⟨b53, o53, cs53, f53, hp53, hr53, hc53, hm53⟩ := idx h12_0 (i := k) hi019db
  have hk53 := hc53
  obtain ⟨v54, rfl, h55⟩ := hk53
  have hyk := xG y k aC
  refine iH 10 [(some 2, some 8, .of (ι := Nat) [20] (fun b48 => [(.slice (some ⟨b48, 0, none⟩) 0 0)]) (fun b48 => Res.row (α := Entry) 243 (.slice (some ⟨b48, 0, none⟩) 0 0) [] [])), (some 8, some 9, .of (ι := Value) [26] (fun v57 => [v57]) (fun v57 => Res.row (α := Entry) 243 v57 ([] ++ (y.shelf[k]'hi019db)) [])), (some 9, none, .of (ι := Nat × Value) [26, 27] (fun ⟨b61, v57⟩ => [v57, .slice (some ⟨b61, 0, none⟩) 1 1]) (fun ⟨b61, v57⟩ => Res.bx b61 [v57] 217)), (some 9, none, .of (ι := Value) [26] (fun v57 => [v57]) (fun v57 => Res.row (α := Entry) 243 v57 ([] ++ (y.shelf[k]'hi019db)) []))] [(true, .is (.pointer (some ⟨b14, 0 + 2, none⟩))), (true, .is (v25)), (false, .ex (fun (b48 : Nat) => (.slice (some ⟨b48, 0, none⟩) 0 0))), (true, .is (.pointer (some ⟨b1, 0 + 2, none⟩))), (true, .is (v12_0)), (true, .is (I (k : Int))), (true, .is (.pointer (some ⟨b53, o53, none⟩))), (true, .is (v54)), (false, .ex (fun (v57 : Value) => v57)), (false, .ex (fun (b61 : Nat) => .slice (some ⟨b61, 0, none⟩) 1 1))] mix aD aD aD aD (rs0 := []) rfl st31 st31.below ⟨(fq_ jJ (h34_.at 3)), (fun f W hst hbl hd hf => bI pK rfl (hd 0 18 rfl rfl) (hst.get 1 rfl) (i := 2) rfl rfl brq), ?_, (fq_ jJ (h34_.at 1)), (fun f W hst hbl hd hf => bI pK rfl (hd 3 21 rfl rfl) (hst.get 3 rfl) (i := 2) rfl rfl brq), (mq_ (h34_.at 4)), (fun f W hst hbl hd hf => aY uL (hd 4 22 rfl rfl) hp53 (hd 5 23 rfl rfl) rfl brq), (fun f W hst hbl hd hf => kI ld_EntryS rfl (hd 6 24 rfl rfl) hr53 hst.below (i := 0) rfl rfl brq), ?_, ?_, trivial⟩ ?_
  ·intro f W ru oth hu hst hbl hd hf
   have hn_ : ru = [] := hu
   subst hn_
   try simp only [iU, iS] at hst
   refine (aZ (cs := []) (e := 243) jD (dU iE _) hst ?_); intro b48 W49 hb50 st51
   have st51 := st51.row_empty (α := Entry)
   exact ⟨⟨b48, rfl⟩, ⟨_, ⟨_, _, rfl, ⟨b48, (ce rfl rfl), rfl⟩, rfl⟩, st51⟩, st51.below⟩
  ·intro f W ru oth hu hst hbl hd hf
   obtain ⟨_, _, rfl, ⟨b48, he56, rfl⟩, hn_⟩ := hu
   have hn_ : _ = [] := hn_
   subst hn_
   have hu56_20 : f 20 = (.slice (some ⟨b48, 0, none⟩) 0 0) := congrArg (fun l => l.getD 0 undef) he56
   try simp only [iU, iS] at hst
   refine (dQ kK iE hu56_20 (hd 7 25 rfl rfl) h55 hst.below hst (by simp only [length_nil]; unfold maxLen; omega) (by simp only [length_nil]; omega) ?_); intro v57 W58 st59
   exact ⟨⟨v57, rfl⟩, ⟨_, ⟨_, _, rfl, ⟨v57, (ce rfl rfl), rfl⟩, rfl⟩, st59⟩, st59.below⟩
  ·intro f W ru oth hu hst hbl hd hf
   obtain ⟨_, _, rfl, ⟨v57, he60, rfl⟩, hn_⟩ := hu
   have hn_ : _ = [] := hn_
   subst hn_
   have hu60_26 : f 26 = v57 := congrArg (fun l => l.getD 0 undef) he60
   try simp only [iU, iS] at hst
   refine (aZ (cs := [v57]) (e := 217) (eS (v := v57) hu60_26 jD) (bT kB _ _ (Sl.cells (cN (hst.get 0 rfl))) rfl aU) hst ?_); intro b61 W62 hb63 st64
   exact ⟨⟨b61, rfl⟩, ⟨_, ⟨_, _, rfl, ⟨(b61, v57), (ce hu60_26 (ce rfl rfl)), rfl⟩, _, _, rfl, ⟨v57, (ce hu60_26 rfl), rfl⟩, rfl⟩, st64⟩, st64.below⟩
  intro f66 W67 rs_ hAL_ st70 hbl71 hv68 hf69
  obtain ⟨_, _, rfl, ⟨⟨b61, v57⟩, he72, rfl⟩, _, _, rfl, ⟨v57z73, he73, rfl⟩, hn_⟩ := hAL_
  have hn_ : _ = [] := hn_
  subst hn_
  have hu72_26 : f66 26 = v57 := congrArg (fun l => l.getD 0 undef) he72
  have hu72_27 : f66 27 = .slice (some ⟨b61, 0, none⟩) 1 1 := congrArg (fun l => l.getD 1 undef) he72
  have hu73_26 : f66 26 = v57z73 := congrArg (fun l => l.getD 0 undef) he73
  obtain rfl : v57 = v57z73 := by have h_ := hu72_26.symm.trans hu73_26; first | exact h_ | (simp at h_; first | exact h_ | exact h_.1 | exact h_.2 | exact h_.1.1)
  try simp only [iU, iS] at st70
  have st75 := st70.f1
  obtain ⟨fp76, st77⟩ := st75.shut
  have st78 := st77.cs1
  refine sg (gL kB (hv68 1 19 aU rfl) hu72_27 st78.f1.f2 (by rw [length_take]; unfold maxLen; omega) (by rw [length_take]; omega) ?_); intro v81 W82 st83
  refine sg (aL jJ ((hf69 3 rfl).trans (h34_.at 3)) (sgn (aN (v := v81) aD rfl rfl (Sl.cells (cN (st83.f1.get 1 rfl))) (Sl.one (cN (st83.f1.get 1 rfl))) st83.f1 bX rfl ?_))); intro W87 st88
  refine aB (aA (rn st88 3 (Ag.cons (show f66 1 = pt_ b1 from ((hf69 1 rfl).trans (h34_.at 1))) (Ag.cons (show f66 2 = pt_ b6 from ((hf69 2 rfl).trans (h34_.at 2))) (Ag.cons (show f66 3 = pt_ b14 from ((hf69 3 rfl).trans (h34_.at 3))) (Ag.cons (show f66 4 = I (k : Int) from ((hf69 4 rfl).trans (h34_.at 4))) Ag.nil)))).put.put [4] [(4, I ((k : Int) + 1))] [qad (k : Int) 1] aD fun f90 h90_ => (aB ?_)))
  exact ⟨_, y.shelf.length - (k + 1), aC, rfl, k + 1, v81, fe26 ++ fp76, aC, rfl, (h90_.to aD), (by rw [← xY _ _ aC]; exact st88.f3.f3.f2.f3)⟩
 refine wp_exit (wp_seq (wp_seq (aA (sg (aE (aB (wp_block ?_)))))))
 have hke : k = y.shelf.length := by omega
 rw [hke, take_length] at st31
 have st97 := st31.row_nil (α := Run) 55
 refine aQ (fun (m : Nat) (f : Nat → Value) (W : World) => ∃ (j : Nat) (v99 : Value) (fe100 : List Nat), j ≤ y.runs.length ∧ m = y.runs.length - j ∧ Ag [(1, pt_ b1), (2, pt_ b6), (3, pt_ b14), (5, I (j : Int))] f ∧ St w W ([Res.row (α := Run) 55 v99 (y.runs.take j) fe100, Res.row (α := (List Entry)) 217 v25 y.shelf fe26, Res.bx b14 [I y.now, I y.seq, v25, v99] 27, Res.bx b6 [I 0, I 0, .slice none 0 0, .slice none 0 0] 27, Res.bx b1 [I y.now, I y.seq, v12_0, v12_1] 27])) (y.runs.length - 0) ?_ ?_
 ·exact ⟨0, (.slice none 0 0), [], Nat.zero_le _, rfl, (h34_.put.to aD), st97⟩
 intro m101 f102 W103 hJ104
 obtain ⟨j, v99, fe100, hcd106_0, rfl, hA106, st105⟩ := hJ104
 refine wp_seq (wp_seq (aA (rn st105 5 hA106 [] [(34, .bool (decide ((j : Int) < (y.runs.length : Int))))] [qb 4 rfl 3, ql h12_1, .o] aD fun f108 h108_ => (aB (aK (h108_.at 34) (fun h109p => ?_) (fun h109p => ?_))))))
 ·refine wp_skip (wp_seq (wp_block ?_))
  have hif099f : j < y.runs.length := aC
  obtain ⟨b110, o110, cs110, f110, hp110, hr110, hc110, hm110⟩ := idx h12_1 (i := j) hif099f
  have hyk := mR (y := y) (k := j) aC
  refine iH 9 [(some 7, some 8, .of (ι := List Value × List Nat) [44] (fun ⟨cs111, fp111⟩ => [.agg cs111.toArray]) (fun ⟨cs111, fp111⟩ => Res.own (α := Run) (.agg cs111.toArray) (y.runs[j]'hif099f) fp111)), (some 8, none, .of (ι := Nat × List Value) [44, 45] (fun ⟨b118, cs111⟩ => [.agg cs111.toArray, .slice (some ⟨b118, 0, none⟩) 1 1]) (fun ⟨b118, cs111⟩ => Res.bx b118 cs111 55)), (some 8, none, .of (ι := List Value × List Nat) [44] (fun ⟨cs111, fp111⟩ => [.agg cs111.toArray]) (fun ⟨cs111, fp111⟩ => Res.own (α := Run) (.agg cs111.toArray) (y.runs[j]'hif099f) fp111))] [(true, .is (.pointer (some ⟨b14, 0 + 3, none⟩))), (true, .is (v99)), (true, .is (.pointer (some ⟨b1, 0 + 3, none⟩))), (true, .is (v12_1)), (true, .is (I (j : Int))), (true, .is (.pointer (some ⟨b110, o110, none⟩))), (true, .is (.agg cs110.toArray)), (false, .ex (fun (cs111 : List Value) => .agg cs111.toArray)), (false, .ex (fun (b118 : Nat) => .slice (some ⟨b118, 0, none⟩) 1 1))] mix aD aD aD aD (rs0 := []) rfl st105 (Below.refl _ _) ⟨(fq_ iC (h108_.at 3)), (fun f W hst hbl hd hf => bI tV rfl (hd 0 37 rfl rfl) (hst.get 2 rfl) (i := 3) rfl rfl brq), (fq_ iC (h108_.at 1)), (fun f W hst hbl hd hf => bI tV rfl (hd 2 39 rfl rfl) (hst.get 4 rfl) (i := 3) rfl rfl brq), (mq_ (h108_.at 5)), (fun f W hst hbl hd hf => aY pX (hd 3 40 rfl rfl) hp110 (hd 4 41 rfl rfl) rfl brq), (fun f W hst hbl hd hf => dX fU rfl (hd 5 42 rfl rfl) hr110 hst.below (Shape.len hc110) brq), ?_, ?_, trivial⟩ ?_
  ·intro f W ru oth hu hst hbl hd hf
   have hn_ : ru = [] := hu
   subst hn_
   try simp only [iU, iS] at hst
   refine (bO func288 rfl (hd 6 43 rfl rfl) ((CopyRunS W (bG hc110 hst.below) aC).mono ?_)); rintro _ W113 ⟨cs111, fp111, rfl, hk114⟩; refine ⟨_, rfl, ?_⟩
   have st115 := St.call hst hk114
   exact ⟨⟨cs111, rfl⟩, ⟨_, ⟨_, _, rfl, ⟨(cs111, fp111), (ce rfl rfl), rfl⟩, rfl⟩, st115⟩, (hbl.trans (Below.mono hk114.below hbl.size))⟩
  ·intro f W ru oth hu hst hbl hd hf
   obtain ⟨_, _, rfl, ⟨⟨cs111, fp111⟩, he117, rfl⟩, hn_⟩ := hu
   have hn_ : _ = [] := hn_
   subst hn_
   have hu117_44 : f 44 = .agg cs111.toArray := congrArg (fun l => l.getD 0 undef) he117
   try simp only [iU, iS] at hst
   refine (aZ (cs := cs111) (e := 55) (eS (v := .agg cs111.toArray) hu117_44 jD) (bT rK _ _ rfl (Shape.len (dN (hst.get 0 rfl) rfl)) aU) hst ?_); intro b118 W119 hb120 st121
   exact ⟨⟨b118, rfl⟩, ⟨_, ⟨_, _, rfl, ⟨(b118, cs111), (ce hu117_44 (ce rfl rfl)), rfl⟩, _, _, rfl, ⟨(cs111, fp111), (ce hu117_44 rfl), rfl⟩, rfl⟩, st121⟩, (hbl.trans (Below.mono hb120 hbl.size))⟩
  intro f123 W124 rs_ hAL_ st127 hbl128 hv125 hf126
  obtain ⟨_, _, rfl, ⟨⟨b118, cs111⟩, he129, rfl⟩, _, _, rfl, ⟨⟨cs111z130, fp111⟩, he130, rfl⟩, hn_⟩ := hAL_
  have hn_ : _ = [] := hn_
  subst hn_
  have hu129_44 : f123 44 = .agg cs111.toArray := congrArg (fun l => l.getD 0 undef) he129
  have hu129_45 : f123 45 = .slice (some ⟨b118, 0, none⟩) 1 1 := congrArg (fun l => l.getD 1 undef) he129
  have hu130_44 : f123 44 = .agg cs111z130.toArray := congrArg (fun l => l.getD 0 undef) he130
  obtain rfl : cs111 = cs111z130 := by have h_ := hu129_44.symm.trans hu130_44; first | exact h_ | (simp at h_; first | exact h_ | exact h_.1 | exact h_.2 | exact h_.1.1)
  try simp only [iU, iS] at st127
  have st132 := st127.f1
  have st133 := st132.cs rfl
  refine sg (gL rK (hv125 1 38 aU rfl) hu129_45 st133.f1.f2 (by rw [length_take]; unfold maxLen; omega) (by rw [length_take]; omega) ?_); intro v136 W137 st138
  refine sg (aL iC ((hf126 3 rfl).trans (h108_.at 3)) (sgn (aN (v := v136) aD rfl rfl (Sl.cells (cN (st138.f2.get 1 rfl))) (Sl.one (cN (st138.f2.get 1 rfl))) st138.f2 bX rfl ?_))); intro W142 st143
  refine aB (aA (rn st143 3 (Ag.cons (show f123 1 = pt_ b1 from ((hf126 1 rfl).trans (h108_.at 1))) (Ag.cons (show f123 2 = pt_ b6 from ((hf126 2 rfl).trans (h108_.at 2))) (Ag.cons (show f123 3 = pt_ b14 from ((hf126 3 rfl).trans (h108_.at 3))) (Ag.cons (show f123 5 = I (j : Int) from ((hf126 5 rfl).trans (h108_.at 5))) Ag.nil)))).put.put [5] [(5, I ((j : Int) + 1))] [qad (j : Int) 1] aD fun f145 h145_ => (aB ?_)))
  exact ⟨_, y.runs.length - (j + 1), aC, rfl, j + 1, v136, fe100 ++ fp111, aC, rfl, (h145_.to aD), (by rw [← zV _ _ aC]; exact st143.f4.f4.f2.f4.f4)⟩
 refine wp_exit (wp_seq (aA (sg (aV (cs := [I y.now, I y.seq, v25, v99]) iL rfl (h108_.at 3) (st105.get 2 rfl) rfl rfl (sgn (aX aD (h108_.at 2) rfl (aI rfl (aI rfl (aI (Sl.one (cN (st105.f3.get 2 rfl))) (aI (Sl.one (cN (st105.f3.get 1 rfl))) dC)))) st105.f3 bX rfl ?_)))))); intro W154 st155
 refine aB (wr (iR iL rfl results184 (h108_.at 2) (st155.get 0 rfl) rfl ?_))
 have hje : j = y.runs.length := by omega
 rw [hje, take_length] at st155
 have st156 := st155.f2
 obtain ⟨fp158, st157⟩ := st156.shut
 exact ⟨_, _, _, _, rfl, st157.f2.f1.fst2⟩
theorem CopyYardS {y : Yard} (hc : Shape.C w cs y fp) (hw : y.wt ≤ 1048576) :
  Calls prog 184 #[.agg cs.toArray] w (rO_ y w) := by
 have hok_ : y.ok := by obtain ⟨v0, v1, g0, g1, rfl, hok, h0, h1, rfl⟩ := hc; exact hok
 refine (CopyYardSr w hc hw).mono ?_
 rintro _ w' ⟨vs, vr, fs, fe, rfl, st⟩
 obtain ⟨fr, st2⟩ := st.f1.shut
 have st3 := kY (x := y) st2.f1 hok_
 exact ⟨_, _, rfl, st3.only 0 rfl⟩

theorem aM4 {w W : World} {e : Ending} {x : Yard} (h : ∃ (cs' : List Value) (fp' : List Nat), e = .returned (.agg cs'.toArray) ∧ St w W [Res.own (.agg cs'.toArray) x fp']) : ∃ (a : Unit) (vs : List Value) (rs : List Res), True ∧ e = .returned (wO vs) ∧ Rks vs [Rk.S x] rs ∧ St w W rs := by
 obtain ⟨cs, fp, he, st⟩ := h
 exact ⟨(), [.agg cs.toArray], [Res.cs cs x fp], trivial, he, ⟨[Res.cs cs x fp], [], ⟨cs, fp, rfl, rfl⟩, rfl, rfl⟩, st.cs rfl⟩
structure waitP (e : Engine) (k : Nat) (w : Wait) : Prop where
 rng : inB w.call 1 e.calls = true
 up : ∀ j v, k = j + 1 → e.waits[j]? = some v → v.call < w.call
structure engH (e : Engine) : Prop where
 yard : dF e.yard = true
 disk : bS e.disk = true
 next : inB e.next 1 999999999 = true
 calls : inB e.calls 0 999999999 = true
 waits : ¬ (60 : Int) < e.waits.length
 state : inB e.state 1 3 = true
structure engP (e : Engine) : Prop extends engH e where
 ok : ∀ k w, e.waits[k]? = some w → waitP e k w
noncomputable def gS (e : Engine) : Bool := pB (engP e)
theorem engOk_iff {e : Engine} : gS e = true ↔ engP e := pB_iff
structure EgJ (e : Engine) (k : Nat) : Prop extends engH e where
 le : k ≤ e.waits.length
 ok : ∀ j w, j < k → e.waits[j]? = some w → waitP e j w
theorem mP {e : Engine} (h : ¬ engH e) : false = gS e := (dV fun hp => h hp.toengH).symm
theorem zD {e : Engine} {k : Nat} {w : Wait} (hw : e.waits[k]? = some w) (h : ¬ waitP e k w) : false = gS e := (dV fun hp => h (hp.ok k w hw)).symm
theorem EgJ.start {e : Engine} (h : engH e) : EgJ e 0 := ⟨h, Nat.zero_le _, fun j w h => by omega⟩
theorem EgJ.step {e : Engine} {k : Nat} {w : Wait} (h : EgJ e k) (hw : e.waits[k]? = some w) (hok : waitP e k w) : EgJ e (k + 1) := by
 refine ⟨h.toengH, (gsi_.1 hw).1, fun j g hj hg => ?_⟩
 rcases Nat.lt_succ_iff_lt_or_eq.1 hj with h1 | rfl
 ·exact h.ok j g h1 hg
 rw [hw] at hg; cases hg; exact hok
theorem aO2 {e : Engine} {k : Nat} (h : EgJ e k) (hk : ¬ (k : Int) < e.waits.length) : true = gS e := (lX ⟨h.toengH, fun j w hj => h.ok j w (by have := (gsi_.1 hj).1; omega) hj⟩).symm
theorem uB {e : Engine} {k : Nat} {w : Wait} (h1 : inB w.call 1 e.calls = true) (h : ¬ (0 : Int) < k) : waitP e k w := ⟨h1, fun j v e1 _ => by omega⟩
theorem wU {e : Engine} {k : Nat} {w v : Wait} (h1 : inB w.call 1 e.calls = true) (hv : e.waits[k - 1]? = some v) (h : ¬ w.call ≤ v.call) : waitP e k w := ⟨h1, fun j u e1 hu => by subst e1; rw [Nat.add_sub_cancel, hu] at hv; cases hv; omega⟩
theorem zL {e : Engine} {k : Nat} {w v : Wait} (hk : (0 : Int) < k) (hv : e.waits[k - 1]? = some v) (h : w.call ≤ v.call) : ¬ waitP e k w := fun hp => by
 have := hp.up (k - 1) v aC hv
 omega
theorem EngineOkI (e : Engine) (hw : e.yard.wt ≤ 1048576) : Ct1 prog 29 [.S e] [.B (gS e)] :=
 .one (gS e) (rk := fun a => [.B a]) <| vc func29 (fun hg => .c func118 (aJ8 e.yard hw) (hg := ⟨hg.1.1.1, trivial⟩) fun _ => .v (dF e.yard)
  (fun h => .rt false ⟨mP (fun e => by have := e.yard; simp_all), trivial⟩)
  (fun g1 => .c func84 (oJ e.disk) fun _ => .v (bS e.disk)
  (fun h => .rt false ⟨mP (fun e => by have := e.disk; simp_all), trivial⟩)
  (fun g2 => .c func92 (iN e.next 1 999999999) fun _ => .v (inB e.next 1 999999999)
  (fun h => .rt false ⟨mP (fun e => by have := e.next; simp_all), trivial⟩)
  (fun g3 => .c func92 (iN e.calls 0 999999999) fun _ => .v (inB e.calls 0 999999999)
  (fun h => .rt false ⟨mP (fun e => by have := e.calls; simp_all), trivial⟩)
  (fun g4 => .s ((60 : Int) < e.waits.length)
  (fun h => .rt false ⟨mP (fun e => e.waits h), trivial⟩)
  (fun g5 => .c func92 (iN e.state 1 3) fun _ => .v (inB e.state 1 3)
  (fun h => .rt false ⟨mP (fun e => by have := e.state; simp_all), trivial⟩)
  (fun g6 => .l (Γ := Nat) (fun k => EgJ e k) (fun k => e.waits.length - k) [1, 40, 41] [4] [0, 1, 2, 3] (fun k => [vI 42 k]) (fun _ => []) 0 (h := EgJ.start ⟨g1, g2, g3, g4, g5, g6⟩) fun k hJ t => let hkl : k ≤ e.waits.length := hJ.le
   .s ((k : Int) < e.waits.length)
    (fun h => .x e.waits k (h := by omega) fun w hw0 gw => .c func92 (iN w.call 1 e.calls) fun _ => .v (inB w.call 1 e.calls)
     (fun h1 => .rt false ⟨zD hw0 (fun h => by have := h.rng; simp_all), trivial⟩)
     (fun h1 => .s ((0 : Int) < (k : Int))
      (fun h2 => .m (k : Int) 1 (h := by unfold I64; omega) <| .xe e.waits (k - 1) ((k : Int) - 1) (h := by omega) (he := by omega) fun v hv gv => .s (w.call ≤ v.call)
       (fun h3 => .rt false ⟨zD hw0 (zL h2 hv h3), trivial⟩)
       (fun h3 => .p k 1 (h := by unfold I64; omega) <| .n t (k + 1) [] (hJ.step hw0 (wU h1 hv h3)) aC))
      (fun h2 => .p k 1 (h := by unfold I64; omega) <| .n t (k + 1) [] (hJ.step hw0 (uB h1 h2)) aC)))
    (fun h => .rt true ⟨aO2 hJ h, trivial⟩)))))))) aD
theorem EngineOkS (e : Engine) (hw : e.yard.wt ≤ 1048576) : Ct1 prog 80 [.S e] [.B (gS e)] :=
 .one (gS e) (rk := fun a => [.B a]) <| vc func80 (fun hg => .c func185 (aB9 e.yard hw) (hg := ⟨hg.1.1.1, trivial⟩) fun _ => .v (dF e.yard)
  (fun h => .rt false ⟨mP (fun e => by have := e.yard; simp_all), trivial⟩)
  (fun g1 => .c func116 (iW e.disk) fun _ => .v (bS e.disk)
  (fun h => .rt false ⟨mP (fun e => by have := e.disk; simp_all), trivial⟩)
  (fun g2 => .c func138 (InV e.next 1 999999999) fun _ => .v (inB e.next 1 999999999)
  (fun h => .rt false ⟨mP (fun e => by have := e.next; simp_all), trivial⟩)
  (fun g3 => .c func138 (InV e.calls 0 999999999) fun _ => .v (inB e.calls 0 999999999)
  (fun h => .rt false ⟨mP (fun e => by have := e.calls; simp_all), trivial⟩)
  (fun g4 => .s ((60 : Int) < e.waits.length)
  (fun h => .rt false ⟨mP (fun e => e.waits h), trivial⟩)
  (fun g5 => .c func138 (InV e.state 1 3) fun _ => .v (inB e.state 1 3)
  (fun h => .rt false ⟨mP (fun e => by have := e.state; simp_all), trivial⟩)
  (fun g6 => .l (Γ := Nat) (fun k => EgJ e k) (fun k => e.waits.length - k) [1] [4] [0, 1, 2, 3] (fun k => [vI 3 k]) (fun _ => []) 0 (h := EgJ.start ⟨g1, g2, g3, g4, g5, g6⟩) fun k hJ t => let hkl : k ≤ e.waits.length := hJ.le
   .s ((k : Int) < e.waits.length)
    (fun h => .x e.waits k (h := by omega) fun w hw0 gw => .c func138 (InV w.call 1 e.calls) fun _ => .v (inB w.call 1 e.calls)
     (fun h1 => .rt false ⟨zD hw0 (fun h => by have := h.rng; simp_all), trivial⟩)
     (fun h1 => .s ((0 : Int) < (k : Int))
      (fun h2 => .m (k : Int) 1 (h := by unfold I64; omega) <| .xe e.waits (k - 1) ((k : Int) - 1) (h := by omega) (he := by omega) fun v hv gv => .y hw0 fun _ => .s (w.call ≤ v.call)
       (fun h3 => .rt false ⟨zD hw0 (zL h2 hv h3), trivial⟩)
       (fun h3 => .p k 1 (h := by unfold I64; omega) <| .n t (k + 1) [] (hJ.step hw0 (wU h1 hv h3)) aC))
      (fun h2 => .p k 1 (h := by unfold I64; omega) <| .n t (k + 1) [] (hJ.step hw0 (uB h1 h2)) aC)))
    (fun h => .rt true ⟨aO2 hJ h, trivial⟩)))))))) aD
theorem CopyYardID (y : Yard) (hw : y.wt ≤ 1048576) : Ct1 prog 119 [.S y] [.S y] := ⟨fun w us _ hp => by
 match us, hp with
 | [_], ⟨⟨cs0, fp0, rfl, hc0⟩, _⟩ => exact (CopyYardI w hc0 hw).mono fun e w' h => aM4 h⟩
theorem CopyYardSD (y : Yard) (hw : y.wt ≤ 1048576) : Ct1 prog 184 [.S y] [.S y] := ⟨fun w us _ hp => by
 match us, hp with
 | [_], ⟨⟨cs0, fp0, rfl, hc0⟩, _⟩ => exact (CopyYardS w hc0 hw).mono fun e w' h => aM4 h⟩
theorem nN (e : Engine) (hw : e.yard.wt ≤ 1048576) (hd : e.disk.files.length ≤ 1048576) (hs : e.waits.length ≤ 1048576) : Ct1 prog 82 [.S e] [.S e] :=
 vc func82 (fun hg => .c func119 (CopyYardID e.yard hw) (hg := ⟨hg.1.1.1, trivial⟩) fun _ => .c func89 (iG e.disk aC) fun _ => .as (inferInstance : Shape Wait) uZ [] e.waits 40 (by simp only [length_nil]; unfold maxLen; omega) (by simp only [length_nil]; omega) <| .wt 15 <| .sh 8 <| .sh 9 <| .rt () ⟨trivial, hg.1.1, trivial⟩) aD
theorem fO (e : Engine) (hw : e.yard.wt ≤ 1048576) (hd : e.disk.files.length ≤ 1048576) (hs : e.waits.length ≤ 1048576) : Ct1 prog 79 [.S e] [.S e] :=
 vc func79 (fun hg => .c func184 (CopyYardSD e.yard hw) (hg := ⟨hg.1.1.1, trivial⟩) fun _ => .c func107 (dP e.disk aC) fun _ => .e Wait <| .as (inferInstance : Shape Wait) uZ [] e.waits 40 (by simp only [length_nil]; unfold maxLen; omega) (by simp only [length_nil]; omega) <| .wt 16 <| .sh 8 <| .sh 9 <| .rt () ⟨trivial, hg.1.1, trivial⟩) aD
def brk (e : Engine) : Engine := ⟨e.yard, e.disk, e.next, e.calls, e.waits, 2, false⟩
theorem BrokenI (e : Engine) (hw : e.yard.wt ≤ 1048576) (hd : e.disk.files.length ≤ 1048576) (hs : e.waits.length ≤ 1048576) : Ct1 prog 93 [.S e] [.S (brk e)] :=
 vc func93 (fun hg => .c func82 (nN e hw hd hs) (hg := ⟨hg.1.1, trivial⟩) fun _ => .rt () ⟨trivial, ⟨hg.1.1.1, hg.1.1.2.1, hg.1.1.2.2.1, by show I64 2; unfold I64; omega⟩, trivial⟩) aD
theorem rQ : ∀ (C vs : List Value) (o : Nat), o + vs.length ≤ C.length → cA C o vs = C.take o ++ vs ++ C.drop (o + vs.length)
 | C, [], 0, h => by cases C <;> simp [cA]
 | c :: C, v :: vs, 0, h => by
  have := rQ C vs 0 (by simp at h ⊢; omega)
  simp [cA] at this ⊢
  rw [this]
 | c :: C, vs, o + 1, h => by
  have := rQ C vs o (by simp at h ⊢; omega)
  rw [show o + 1 + vs.length = (o + vs.length) + 1 by omega]
  simp [cA] at this ⊢
  rw [this]
 | [], v :: vs, o, h => by simp at h
 | [], [], o + 1, h => by simp at h
theorem rV {b o l h c s : Nat} (hne : l < c) : sliced (some ⟨b, o, none⟩) l h c s = .slice (some ⟨b, o + l * s, none⟩) (h - l) (c - l) := by
 have : ¬ c = l := by omega
 simp [sliced, this, Addr.add]
section
variable {P : Program} {n : Nat} {f : Nat → Value} {w0 W : World} {rs : List Res} {Q : Exit → Act → World → Prop} {d : Option Tmp} {ty : TypeId} {pos : String} {af : Array Go.Edge} {g : Option (Nat × Bool)} {K : Value → World → Prop} {α : Type} [Shape α]
theorem stp_xl {t t' : TypeId} {x y : Operand} {b o m c l : Nat} {e : Int} (hT : SlOk P t t' α) (hx : ev n f x = .slice (some ⟨b, o, none⟩) m c) (hy : ev n f y = I e) (he : e = l) (hl : l ≤ m) (hne : l < c) (k : K (.slice (some ⟨b, o + l * Shape.size α, none⟩) (m - l) (c - l)) W) : Stp P n ⟨d, .slice t x (some y) none none, ty, pos, af, g⟩ f W Q K := by
 subst he
 have hel : P.elem t = t' := by simp [Program.elem, hT.desc]
 have hu : P.underlying t = some (.slice (P.elem t)) := by rw [hel]; exact hT.desc
 refine Stp.run (v := sliced (some ⟨b, o, none⟩) l m c (Shape.size α)) ?_ (by rw [rV hne]; exact k)
 simp only [execOp, hx, hy, Sem.run_bind, Option.map_none, Option.map_some]
 rw [run_sliceAt_slice (h := hu), run_slice_l (ht := hu) (h0 := by omega) (h1 := by omega), hel, gM hT.size]
 simp
theorem aL5 {t t' : TypeId} {x y : Operand} {b o m c h : Nat} {e : Int} (hT : SlOk P t t' α) (hx : ev n f x = .slice (some ⟨b, o, none⟩) m c) (hy : ev n f y = I e) (he : e = h) (hl : h ≤ c) (hc : 0 < c) (k : K (.slice (some ⟨b, o, none⟩) h c) W) : Stp P n ⟨d, .slice t x none (some y) none, ty, pos, af, g⟩ f W Q K := by
 subst he
 have hel : P.elem t = t' := by simp [Program.elem, hT.desc]
 have hu : P.underlying t = some (.slice (P.elem t)) := by rw [hel]; exact hT.desc
 refine Stp.run (v := sliced (some ⟨b, o, none⟩) 0 h c (Shape.size α)) ?_ (by rw [rV hc, Nat.zero_mul]; exact k)
 simp only [execOp, hx, hy, Sem.run_bind, Option.map_none, Option.map_some]
 rw [run_sliceAt_slice (h := hu), run_slice_h (ht := hu) (h0 := by omega) (h2 := by omega), hel, gM hT.size]
 simp
end
theorem Elems.parts {α : Type} [Shape α] {W : World} : ∀ {xs : List α} {cells : List Value} (i : Nat), i ≤ xs.length → Elems W cells xs [] → Elems W (cells.take (i * Shape.size α)) (xs.take i) [] ∧ Elems W (cells.drop (i * Shape.size α)) (xs.drop i) []
 | xs, cells, 0, _, h => by simpa using (show Elems W [] ([] : List α) [] ∧ Elems W cells xs [] from ⟨⟨rfl, rfl⟩, h⟩)
 | x :: xs, cells, i + 1, hi, ⟨cs, rest, f1, f2, h1, h2, h3, h4⟩ => by
  have hf := append_eq_nil_iff.1 h4.symm
  obtain ⟨rfl, rfl⟩ := hf
  have hl := Shape.len h2
  obtain ⟨p1, p2⟩ := Elems.parts i (by simpa using hi) h3
  subst h1
  have e1 : (cs ++ rest).take ((i + 1) * Shape.size α) = cs ++ rest.take (i * Shape.size α) := by
   rw [Nat.add_mul, Nat.one_mul, Nat.add_comm, ← hl, take_length_add_append]
  have e2 : (cs ++ rest).drop ((i + 1) * Shape.size α) = rest.drop (i * Shape.size α) := by
   rw [Nat.add_mul, Nat.one_mul, Nat.add_comm, ← hl, drop_length_add_append]
  rw [e1, e2]
  exact ⟨⟨cs, _, [], [], rfl, h2, p1, rfl⟩, p2⟩
 | [], cells, i + 1, hi, _ => by simp at hi
theorem aA7 {C : List Value} {o m j : Nat} {v : Value} (h : ((C.drop o).take m)[j]? = some v) : C[o + j]? = some v := by
 rw [getElem?_take] at h
 split at h
 ·rwa [getElem?_drop] at h
 cases h
section
variable {P : Program} {n : Nat} {f : Nat → Value} {w0 W : World} {rs : List Res} {Q : Exit → Act → World → Prop} {d : Option Tmp} {ty : TypeId} {pos : String} {af : Array Go.Edge} {g : Option (Nat × Bool)} {K : Value → World → Prop}
end
section
variable {α : Type} [Shape α]
def Res.es (cells : List Value) (xs : List α) (fe : List Nat) : Res where
 fp := fe
 holds := fun W => Elems W cells xs fe ∧ ∀ b ∈ fe, Wr W b
 loc := fun hs hb h => ⟨h.1.loc hs hb, fun b hm => (h.2 b hm).loc (hb b hm)⟩
 wr := fun h b hb => h.2 b hb
theorem Elems.parts' {W : World} : ∀ {xs : List α} {cells : List Value} {fe : List Nat} (i : Nat), i ≤ xs.length → Elems W cells xs fe → ∃ f1 f2, fe = f1 ++ f2 ∧ Elems W (cells.take (i * Shape.size α)) (xs.take i) f1 ∧ Elems W (cells.drop (i * Shape.size α)) (xs.drop i) f2
 | xs, cells, fe, 0, _, h => ⟨[], fe, rfl, by simpa using (show Elems W [] ([] : List α) [] from ⟨rfl, rfl⟩), by simpa using h⟩
 | x :: xs, cells, fe, i + 1, hi, ⟨cs, rest, f1, f2, h1, h2, h3, h4⟩ => by
  have hl := Shape.len h2
  obtain ⟨g1, g2, e, p1, p2⟩ := Elems.parts' i (by simpa using hi) h3
  subst h1 h4 e
  have e1 : (cs ++ rest).take ((i + 1) * Shape.size α) = cs ++ rest.take (i * Shape.size α) := by
   rw [Nat.add_mul, Nat.one_mul, Nat.add_comm, ← hl, take_length_add_append]
  have e2 : (cs ++ rest).drop ((i + 1) * Shape.size α) = rest.drop (i * Shape.size α) := by
   rw [Nat.add_mul, Nat.one_mul, Nat.add_comm, ← hl, drop_length_add_append]
  refine ⟨f1 ++ g1, g2, by rw [append_assoc], ?_, ?_⟩
  ·rw [e1]; exact ⟨cs, _, f1, g1, rfl, h2, p1, rfl⟩
  rw [e2]; exact p2
 | [], cells, fe, i + 1, hi, _ => by simp at hi
theorem St.ownOpen' {w0 W : World} {rs : List Res} {v : Value} {xs : List α} {fp : List Nat} (h : St w0 W (Res.own v xs fp :: rs)) (hs : 0 < Shape.size α) (hne : 0 < xs.length) :
  ∃ b off cap C e fe, v = .slice (some ⟨b, off, none⟩) xs.length cap ∧ xs.length ≤ cap ∧ cap ≤ 9223372036854775807 ∧ off + xs.length * Shape.size α ≤ C.length ∧ St w0 W (Res.bx b C e :: Res.es ((C.drop off).take (xs.length * Shape.size α)) xs fe :: rs) := by
 have hown := h.get 0 rfl
 have hwr := hown.2
 obtain ⟨ao, cap, e0, h1, h2, h3⟩ := aR hown
 rcases h3 with ⟨h0, _⟩ | ⟨b, off, f, _, e4, rfl, hb, h3⟩
 ·rw [h0] at hne; exact absurd hne (by simp)
 subst e4
 obtain ⟨cells, he, hr⟩ := Elems.of_at off h3
 obtain ⟨C, e, hC⟩ := hwr b (by simp)
 have hcl : cells.length = xs.length * Shape.size α := he.len
 have hpos : 0 < xs.length * Shape.size α := Nat.mul_pos hne hs
 have hget : ∀ j v, cells[j]? = some v → C.toList[off + j]? = some v := fun j v hj => by
  have := hr j v hj
  simpa [World.cell?, hC] using this
 have hle : off + xs.length * Shape.size α ≤ C.toList.length := by
  have hj := getElem?_eq_getElem (l := cells) (i := xs.length * Shape.size α - 1) aC
  have := (gsi_.1 (hget _ _ hj)).1
  omega
 have hce : cells = (C.toList.drop off).take (xs.length * Shape.size α) := by
  apply ext_getElem?
  intro j
  rw [getElem?_take]
  by_cases hj : j < xs.length * Shape.size α
  ·rw [if_pos hj, getElem?_drop, getElem?_eq_getElem aC]
   exact (hget j _ (getElem?_eq_getElem aC)).symm
  rw [if_neg hj, getElem?_eq_none aC]
 refine ⟨b, off, cap, C.toList, e, f, e0, h1, h2, hle, ?_⟩
 refine St.trade (rs1 := [Res.own v xs (b :: f)]) (rs2 := [Res.bx b C.toList e, Res.es _ xs f]) h ?_ ?_ ?_
 ·have := h.nodup
  rw [flatMap_cons, nodup_append] at this
  simpa [Res.own, Res.bx, Res.es] using this.1
 ·intro c hc; simpa [Res.own, Res.bx, Res.es] using hc
 intro r hr2
 rcases mem_cons.1 hr2 with rfl | hr2
 ·show W.heap[b]? = some (.cells C.toList.toArray e (0, 0)); simpa using hC
 rw [mem_singleton] at hr2; subst hr2
 exact ⟨by rw [← hce]; exact he, fun c hc => hwr c (mem_cons_of_mem _ hc)⟩
theorem St.ownShut' {w0 W : World} {rs : List Res} {b off cap m : Nat} {C cells : List Value} {e : TypeId} {ys : List α} {fe : List Nat} (h : St w0 W (Res.bx b C e :: Res.es cells ys fe :: rs)) (hcl : cells = (C.drop off).take (m * Shape.size α)) (hm : ys.length = m) (h1 : m ≤ cap) (h2 : cap ≤ 9223372036854775807) :
  ∃ fp, St w0 W (Res.own (.slice (some ⟨b, off, none⟩) m cap) ys fp :: rs) := by
 have hB : W.heap[b]? = some (.cells C.toArray e (0, 0)) := h.get 0 rfl
 have hE := h.get 1 rfl
 subst hm
 cases ys with
 | nil =>
  refine ⟨[], St.trade (rs1 := [Res.bx b C e, Res.es cells [] fe]) (rs2 := [Res.own _ ([] : List α) []]) h (by simp [Res.own]) (by simp [Res.own]) ?_⟩
  intro r hr; rw [mem_singleton] at hr; subst hr
  exact ⟨Sl.v ⟨_, cap, rfl, h1, h2, .inl ⟨rfl, rfl⟩⟩, by simp⟩
 | cons y ys =>
  refine ⟨b :: fe, St.trade (rs1 := [Res.bx b C e, Res.es cells (y :: ys) fe]) (rs2 := [Res.own _ (y :: ys) (b :: fe)]) h ?_ (by intro c hc; simpa [Res.own, Res.bx, Res.es] using hc) ?_⟩
  ·have hn := h.nodup
   rw [flatMap_cons, flatMap_cons, ← append_assoc, nodup_append] at hn
   simpa [Res.own, Res.bx, Res.es] using hn.1
  intro r hr; rw [mem_singleton] at hr; subst hr
  refine ⟨Sl.v ⟨_, cap, rfl, h1, h2, .inr ⟨b, off, fe, by simp, rfl, rfl, (Array.getElem?_eq_some_iff.1 hB).1, ?_⟩⟩, ?_⟩
  ·refine hE.1.at off ?_
   intro j u hj
   rw [hcl] at hj
   have := cI hB (off + j) u (aA7 hj)
   simpa using this
  intro c hc
  rcases mem_cons.1 hc with rfl | hc
  ·exact ⟨_, _, hB⟩
  exact hE.2 c hc
theorem St.es_sub {w0 W : World} {rs : List Res} {cells cells' : List Value} {xs ys : List α} {fe fe' : List Nat} (h : St w0 W (Res.es cells xs fe :: rs)) (hs : fe'.Sublist fe) (he : Elems W cells' ys fe') : St w0 W (Res.es cells' ys fe' :: rs) := by
 have hh := h.get 0 rfl
 refine St.trade (rs1 := [Res.es cells xs fe]) (rs2 := [Res.es cells' ys fe']) h ?_ ?_ ?_
 ·have := h.nodup
  rw [flatMap_cons, nodup_append] at this
  simpa [Res.es] using hs.nodup this.1
 ·intro c hc; simp [Res.es] at hc ⊢; exact hs.subset hc
 intro r hr; rw [mem_singleton] at hr; subst hr
 exact ⟨he, fun c hc => hh.2 c (hs.subset hc)⟩
theorem Elems.erase {W : World} {xs : List α} {cells : List Value} {fe : List Nat} {k : Nat} (hk : k < xs.length) (h : Elems W cells xs fe) : ∃ f1 f2 f3, fe = f1 ++ (f2 ++ f3) ∧ Elems W (cells.take (k * Shape.size α) ++ cells.drop ((k + 1) * Shape.size α)) (xs.eraseIdx k) (f1 ++ f3) := by
 obtain ⟨f1, g, rfl, h1, h2⟩ := h.parts' k aC
 obtain ⟨f2, f3, rfl, h3, h4⟩ := h2.parts' 1 (by rw [length_drop]; omega)
 refine ⟨f1, f2, f3, rfl, ?_⟩
 rw [drop_drop, drop_drop] at h4
 rw [eraseIdx_eq_take_drop_succ]
 have e : k * Shape.size α + 1 * Shape.size α = (k + 1) * Shape.size α := by rw [Nat.add_mul]
 rw [e] at h4
 exact h1.append h4
end
section
variable {P : Program} {n : Nat} {f : Nat → Value} {w0 W : World} {rs : List Res} {Q : Exit → Act → World → Prop} {d : Option Tmp} {ty : TypeId} {pos : String} {af : Array Go.Edge} {g : Option (Nat × Bool)} {K : Value → World → Prop} {α : Type} [Shape α]
theorem stp_x3 {t t' : TypeId} {x y z u : Operand} {ao : Option Addr} {m c l h mx : Nat} {e1 e2 e3 : Int} (hT : SlOk P t t' α) (hx : ev n f x = .slice ao m c) (hy : ev n f y = I e1) (hz : ev n f z = I e2) (hu : ev n f u = I e3) (h1 : e1 = l) (h2 : e2 = h) (h3 : e3 = mx) (hl : l ≤ h) (hh : h ≤ mx) (hm : mx ≤ c) (k : ∀ v, K v W) :
  Stp P n ⟨d, .slice t x (some y) (some z) (some u), ty, pos, af, g⟩ f W Q K := by
 subst h1 h2 h3
 have hel : P.elem t = t' := by simp [Program.elem, hT.desc]
 have hu2 : P.underlying t = some (.slice (P.elem t)) := by rw [hel]; exact hT.desc
 refine Stp.run (v := sliced ao l h mx (Shape.size α)) ?_ (k _)
 simp only [execOp, hx, hy, hz, hu, Sem.run_bind, Option.map_none, Option.map_some]
 rw [run_sliceAt_slice (h := hu2), run_slice_lhm (ht := hu2) (h0 := by omega) (h1 := by omega) (h2 := by omega) (h3 := by omega), hel, gM hT.size]
 simp
theorem aL6 {t t' : TypeId} {x y z : Operand} {b o m c l h : Nat} {e1 e2 : Int} (hT : SlOk P t t' α) (hx : ev n f x = .slice (some ⟨b, o, none⟩) m c) (hy : ev n f y = I e1) (hz : ev n f z = I e2) (h1 : e1 = l) (h2 : e2 = h) (hl : l ≤ h) (hh : h ≤ c) (hne : l < c) (k : K (.slice (some ⟨b, o + l * Shape.size α, none⟩) (h - l) (c - l)) W) :
  Stp P n ⟨d, .slice t x (some y) (some z) none, ty, pos, af, g⟩ f W Q K := by
 subst h1 h2
 have hel : P.elem t = t' := by simp [Program.elem, hT.desc]
 have hu2 : P.underlying t = some (.slice (P.elem t)) := by rw [hel]; exact hT.desc
 refine Stp.run (v := sliced (some ⟨b, o, none⟩) l h c (Shape.size α)) ?_ (by rw [rV hne]; exact k)
 simp only [execOp, hx, hy, hz, Sem.run_bind, Option.map_none, Option.map_some]
 rw [run_sliceAt_slice (h := hu2), run_slice_lh (ht := hu2) (h0 := by omega) (h1 := by omega) (h2 := by omega), hel, gM hT.size]
 simp
theorem stp_xe {t t' : TypeId} {x y : Operand} {ao : Option Addr} {m c l : Nat} {e : Int} (hT : SlOk P t t' α) (hx : ev n f x = .slice ao m c) (hy : ev n f y = I e) (he : e = l) (hl : l = m) (hc : l = c) (k : K (.slice ao 0 0) W) : Stp P n ⟨d, .slice t x (some y) none none, ty, pos, af, g⟩ f W Q K := by
 subst he hl hc
 have hel : P.elem t = t' := by simp [Program.elem, hT.desc]
 have hu : P.underlying t = some (.slice (P.elem t)) := by rw [hel]; exact hT.desc
 refine Stp.run (W' := W) (v := sliced ao l l l (Shape.size α)) ?_ (by simpa [sliced] using k)
 simp only [execOp, hx, hy, Sem.run_bind, Option.map_none, Option.map_some]
 rw [run_sliceAt_slice (h := hu), run_slice_l (ht := hu) (h0 := by omega) (h1 := by omega), hel, gM hT.size]
 simp
theorem xC {t e e' : TypeId} {x y : Operand} {b o i c m c2 oy q : Nat} {ad : Addr} {C : List Value} (hT : SlOk P t e α) (hx : ev n f x = .slice (some ⟨b, o, none⟩) i c) (hy : ev n f y = .slice (some ad) m c2) (had : 0 < m → ad = ⟨b, oy, none⟩) (hq : i + m = q) (hroom : q ≤ c) (hl1 : oy + m * Shape.size α ≤ C.length) (hl2 : o + i * Shape.size α + m * Shape.size α ≤ C.length)
  (h1 : ∀ v ∈ (C.drop oy).take (m * Shape.size α), v.oneCell' = true) (hst : St w0 W (Res.bx b C e' :: rs)) (k : ∀ W', St w0 W' (Res.bx b (cA C (o + i * Shape.size α) ((C.drop oy).take (m * Shape.size α))) e' :: rs) → K (.slice (some ⟨b, o, none⟩) q c) W') :
  Stp P n ⟨d, .call { callee := .builtin .append, args := #[x, y], argTypes := #[t, t] }, ty, pos, af, g⟩ f W Q K := by
 subst hq
 have hB : W.heap[b]? = some (.cells C.toArray e' (0, 0)) := hst.get 0 rfl
 have hnl : ((C.drop oy).take (m * Shape.size α)).length = m * Shape.size α := by rw [length_take, length_drop]; omega
 have hsz := hT.size
 cases hi : P.info? e with
 | none => simp [hi] at hsz
 | some i0 =>
  have hs : i0.size = Shape.size α := by simpa [hi] using hsz
  have hr := run_append_room_cells (P := P) (w := W) t ty e i0 hT.desc hi b o i c ad m c2 ((C.drop oy).take (m * Shape.size α)) (by rw [hnl, hs]) (fun j u hj => by
    have hj2 := (gsi_.1 hj).1
    rw [hnl] at hj2
    have hm : 0 < m := Nat.pos_of_ne_zero (fun h0 => by rw [h0] at hj2; simp at hj2)
    rw [had hm, Addr.add_mid]
    have := cI hB (oy + j) u (aA7 hj)
    simpa using this) h1 hroom (fun j hj => by rw [hnl] at hj; rw [hs]; simp [World.cell?, hB]; omega) (fun j hj => by simp [World.frozen?, hB])
  rw [hs] at hr
  refine Stp.run (v := .slice (some ⟨b, o, none⟩) (i + m) c) (W' := W.setCells b (o + i * Shape.size α) ((C.drop oy).take (m * Shape.size α))) ?_ (k _ (hst.store _ _ (by rw [hnl]; omega)))
  simp only [execOp, resolve, invoke, builtin, Sem.run_bind, Sem.run_pure, Result.andThen_ok, map_toArray, map_cons, map_nil, hx, hy, hr]
theorem uI {t e e' : TypeId} {x : Operand} {b o m c s : Nat} {C zs : List Value} (hT : P.underlying t = some (.slice e)) (hz : ((P.info? e).bind (·.zero)).map (·.cells) = some zs.toArray) (hzl : zs.length = s) (hs : 0 < s) (hz1 : ∀ v ∈ zs, v.oneCell' = true) (hx : ev n f x = .slice (some ⟨b, o, none⟩) m c) (hm : 0 < m) (hst : St w0 W (Res.bx b C e' :: rs)) (hle : o + m * s ≤ C.length)
  (k : ∀ Z W', Z.length = m * s → St w0 W' (Res.bx b (cA C o Z) e' :: rs) → K (.tuple #[]) W') : Stp P n ⟨d, .call { callee := .builtin .clear, args := #[x], argTypes := #[t] }, ty, pos, af, g⟩ f W Q K := by
 have hB : W.heap[b]? = some (.cells C.toArray e' (0, 0)) := hst.get 0 rfl
 have hZl : (Builtin.zeroCells zs.toArray m).toList.length = m * s := by rw [Array.length_toList, size_zeroCells, size_toArray, hzl]
 cases hi : P.info? e with
 | none => simp [hi] at hz
 | some i =>
  cases hzz : i.zero with
  | none => simp [hi, hzz] at hz
  | some z =>
   have hzc : z.cells = zs.toArray := by simpa [hi, hzz] using hz
   have h1 : ∀ v ∈ (Builtin.zeroCells zs.toArray m).toList, v.oneCell' = true := by
    intro v hv
    simp only [Builtin.zeroCells, Array.toList_map, mem_map] at hv
    obtain ⟨j, _, rfl⟩ := hv
    have hj : j % zs.length < zs.length := Nat.mod_lt _ aC
    have hq : zs.toArray[j % zs.toArray.size]! = zs[j % zs.length] := by simp [hj]
    first | (rw [hq]; exact hz1 _ (getElem_mem _)) | (simp only [size_toArray] at *; rw [hq]; exact hz1 _ (getElem_mem _))
   have hst2 := run_storeCells_cells (P := P) b o (Builtin.zeroCells zs.toArray m).toList 0 W (fun j hj => by simp [World.cell?, hB]; omega) (fun j hj => by simp [World.frozen?, hB]) h1
   simp only [Nat.add_zero] at hst2
   have hr : (Builtin.clear_ #[t] ty #[.slice (some ⟨b, o, none⟩) m c]).run P W = .ok (.tuple #[]) (W.setCells b o (Builtin.zeroCells zs.toArray m).toList) := by
    obtain ⟨m', rfl⟩ : ∃ m', m = m' + 1 := ⟨m - 1, by omega⟩
    simp [Builtin.clear_, run_underlying hT, zeroValue, typeInfo, hi, hzz, hzc, hst2]
   refine Stp.run (v := .tuple #[]) (W' := W.setCells b o (Builtin.zeroCells zs.toArray m).toList) ?_ (k _ _ hZl (hst.store o _ (by rw [hZl]; exact hle)))
   simp only [execOp, resolve, invoke, builtin, Sem.run_bind, Sem.run_pure, Result.andThen_ok, map_toArray, map_cons, map_nil, hx, hr]
end
theorem aG2 {C : List Value} {o a b c : Nat} {v : Value} (h : v ∈ (C.drop (o + a)).take b) (hc : a + b ≤ c) : v ∈ (C.drop o).take c := by
 obtain ⟨j, hj⟩ := mem_iff_getElem?.1 h
 rw [getElem?_take] at hj
 split at hj
 ·refine mem_iff_getElem?.2 ⟨a + j, ?_⟩
  rw [getElem?_take, if_pos aC, getElem?_drop]
  rwa [getElem?_drop, Nat.add_assoc] at hj
 cases hj
theorem xD {P Q R V : List Value} (h : Q.length = V.length) : cA (P ++ (Q ++ R)) P.length V = P ++ (V ++ R) := by
 rw [rQ _ _ _ (by simp; omega), take_left, append_assoc]
 congr 2
 rw [drop_length_add_append, ← h, drop_left]
theorem yD {C Z : List Value} {o s k m : Nat} (hk : k < m) (hle : o + m * s ≤ C.length) (hZ : Z.length = 1 * s) :
  ((cA (cA C (o + k * s) ((C.drop (o + (k + 1) * s)).take ((m - (k + 1)) * s))) (o + (m - 1) * s) Z).drop o).take ((m - 1) * s) = ((C.drop o).take (m * s)).take (k * s) ++ ((C.drop o).take (m * s)).drop ((k + 1) * s) := by
 obtain ⟨p, rfl⟩ : ∃ p, m = k + 1 + p := ⟨m - (k + 1), by omega⟩
 have a1 : k + 1 + p - (k + 1) = p := by omega
 have a2 : k + 1 + p - 1 = k + p := by omega
 rw [a1, a2]
 have b1 : (k + 1 + p) * s = k * s + s + p * s := by rw [Nat.add_mul, Nat.add_mul, Nat.one_mul]
 have b2 : (k + p) * s = k * s + p * s := Nat.add_mul ..
 have b3 : (k + 1) * s = k * s + s := by rw [Nat.add_mul, Nat.one_mul]
 rw [b1] at hle
 rw [b1, b2, b3]
 rw [Nat.one_mul] at hZ
 generalize k * s = A at *
 generalize p * s = B at *
 obtain ⟨P, X, S, Y, T, rfl, rfl, rfl, rfl, rfl⟩ : ∃ P X S Y T : List Value, C = P ++ (X ++ (S ++ (Y ++ T))) ∧ P.length = o ∧ X.length = A ∧ S.length = s ∧ Y.length = B := by
  refine ⟨C.take o, (C.drop o).take A, ((C.drop o).drop A).take s, (((C.drop o).drop A).drop s).take B, (((C.drop o).drop A).drop s).drop B, ?_, ?_, ?_, ?_, ?_⟩
  ·simp only [take_append_drop]
  all_goals (simp only [length_take, length_drop]; omega)
 have e1 : ((P ++ (X ++ (S ++ (Y ++ T)))).drop (P.length + (X.length + S.length))).take Y.length = Y := by
  rw [drop_length_add_append, drop_length_add_append, drop_left, take_left]
 rw [e1]
 have hl : Y.length ≤ (S ++ (Y ++ T)).length := by simp; omega
 have e2 : cA (P ++ (X ++ (S ++ (Y ++ T)))) (P.length + X.length) Y = (P ++ X) ++ (Y ++ (S ++ (Y ++ T)).drop Y.length) := by
  have := xD (P := P ++ X) (Q := (S ++ (Y ++ T)).take Y.length) (R := (S ++ (Y ++ T)).drop Y.length) (V := Y) (by rw [length_take]; omega)
  rw [take_append_drop, length_append, append_assoc] at this
  exact this
 rw [e2]
 have hr : ((S ++ (Y ++ T)).drop Y.length).length = S.length + T.length := by simp; omega
 generalize (S ++ (Y ++ T)).drop Y.length = R at hr
 have e3 : cA ((P ++ X) ++ (Y ++ R)) (P.length + (X.length + Y.length)) Z = ((P ++ X) ++ Y) ++ (Z ++ R.drop S.length) := by
  have := xD (P := (P ++ X) ++ Y) (Q := R.take S.length) (R := R.drop S.length) (V := Z) (by rw [length_take]; omega)
  rw [take_append_drop, length_append, length_append, append_assoc, Nat.add_assoc] at this
  exact this
 rw [e3, append_assoc, append_assoc, drop_left, drop_left, ← append_assoc X Y, ← length_append, take_left]
 have e4 : (X ++ (S ++ (Y ++ T))).take (X.length + S.length + Y.length) = X ++ (S ++ Y) := by
  have : X.length + S.length + Y.length = (X ++ (S ++ Y)).length := by simp; omega
  rw [this, show X ++ (S ++ (Y ++ T)) = (X ++ (S ++ Y)) ++ T by simp, take_left]
 rw [e4, take_left, drop_length_add_append, drop_left]
theorem DeleteFile {w W0 : World} {rs : List Res} {v : Value} {xs : List File} {fp : List Nat} {k : Nat} (hst : St w W0 (Res.own v xs fp :: rs)) (hk : k < xs.length) (hxl : xs.length ≤ 1048576 := by omega) :
  Calls prog 198 #[v, I (k : Int), I ((k : Int) + 1)] W0 fun e w' => ∃ (v' : Value) (fp' : List Nat), e = .returned v' ∧ St w w' (Res.own v' (xs.eraseIdx k) fp' :: rs) := by
 refine aE4 func198 rfl ntmps198 aU (wp_seq ?_)
 have hq_ := St.ownOpen' hst aU aC
 obtain ⟨bD, oD, cD, CD, eD, feD, hvD, hcD, hmD, hlD, st1⟩ := hq_
 subst hvD
 refine aA (sg (aF (v := .slice none 0 0) rfl (aB (wp_seq (aA (rn st1 5 Ag.nil.put.put.put.put [] [(8, .slice (some ⟨bD, oD, none⟩) xs.length cD), (9, I (k : Int)), (10, I ((k : Int) + 1)), (12, I ((xs.length : Nat) : Int))] [.l (.slice (some ⟨bD, oD, none⟩) xs.length cD) xs.length ⟨_, _, rfl⟩] aD fun f5 h5_ => (sg (stp_x3 (l := k) (h := k + 1) (mx := xs.length) fW (h5_.at 8) (h5_.at 9) (h5_.at 10) (h5_.at 12) aC aC aC aC aC aC ?_)))))))); intro v3_
 refine aB (wp_seq (wp_seq (aA (rn st1 3 h5_.put [] [(16, .bool (decide ((k : Int) = ((k : Int) + 1))))] [.o] aD fun f7 h7_ => (aB (aK (h7_.at 16) (fun h8p => ?_) (fun h8p => ?_)))))))
 ·omega
 refine wp_skip (wp_seq (aA (rn st1 3 h7_ [] [(7, I ((xs.length : Nat) : Int))] [.l (.slice (some ⟨bD, oD, none⟩) xs.length cD) xs.length ⟨_, _, rfl⟩] aD fun f10 h10_ => (aB (wp_seq ?_)))))
 rcases nem (k + 1 < cD) with h11p | h11p
 ·refine iH 6 [] [(true, .is (.slice (some ⟨bD, oD, none⟩) xs.length cD)), (true, .is (I (k : Int))), (true, .is (.slice (some ⟨bD, oD, none⟩) k cD)), (true, .is (.slice (some ⟨bD, oD, none⟩) xs.length cD)), (true, .is (I ((k : Int) + 1))), (true, .is (.slice (some ⟨bD, oD, none⟩) 0 0))] mix aD aD aD aD (rs0 := []) rfl st1 (Below.refl _ _) ⟨(mq_ (h10_.at 0)), (mq_ (h10_.at 1)), (fun f W hst hbl hd hf => aL5 (h := k) fW (hd 0 20 rfl rfl) (hd 1 21 rfl rfl) aC aC aC brq), (mq_ (h10_.at 0)), (mq_ (h10_.at 2)), (fun f W hst hbl hd hf => stp_xe (l := k + 1) fW (hd 3 23 rfl rfl) (hd 4 24 rfl rfl) aC aC aC brq), trivial⟩ ?_
  intro f12 W13 rs_ hAL_ st16 hbl17 hv14 hf15
  have hn_ : rs_ = [] := hAL_
  subst hn_
  try simp only [iU, iS] at st16
  have h1_ : ∀ v ∈ (CD.drop (oD + (k + 1) * 3)).take ((xs.length - (k + 1)) * 3), v.oneCell' = true := fun v hv => (st16.get 1 rfl).1.one v (aG2 hv (by show (k + 1) * 3 + (xs.length - (k + 1)) * 3 ≤ xs.length * 3; omega))
  have h0_ : xs.length - (k + 1) = 0 := by omega
  refine sg (xC (α := File) (i := k) (m := xs.length - (k + 1)) (oy := oD + (k + 1) * 3) (q := xs.length - 1) fW (hv14 2 22 aU rfl) (Eq.trans (hv14 5 25 aU rfl) (by rw [h0_])) (fun hz => by omega) aC aC (by show oD + (k + 1) * 3 + (xs.length - (k + 1)) * 3 ≤ CD.length; have hl_ : oD + xs.length * 3 ≤ CD.length := hlD; omega) (by show oD + k * 3 + (xs.length - (k + 1)) * 3 ≤ CD.length; have hl_ : oD + xs.length * 3 ≤ CD.length := hlD; omega) h1_ st16 ?_); intro W19 st20
  refine sg (aF (v := .slice (some ⟨bD, oD, none⟩) (xs.length - 1) cD) rfl (aB (wp_seq (aA (rn st20 4 (Ag.cons (show f12 7 = I ((xs.length : Nat) : Int) from ((hf15 7 rfl).trans (h10_.at 7))) Ag.nil).put.put [] [(27, .slice (some ⟨bD, oD, none⟩) (xs.length - 1) cD), (29, I (((xs.length - 1) : Nat) : Int)), (30, I ((xs.length : Nat) : Int))] [.l (.slice (some ⟨bD, oD, none⟩) (xs.length - 1) cD) (xs.length - 1) ⟨_, _, rfl⟩] aD fun f24 h24_ => (sg (aL6 (l := xs.length - 1) (h := xs.length) fW (h24_.at 27) (h24_.at 29) (h24_.at 30) aC aC aC aC aC ?_)))))))
  refine sgn (uI (s := 3) (zs := [.string ByteArray.empty, .string ByteArray.empty, I 0]) underlying28 aD rfl aC (by intro v hv; simp only [mem_cons, not_mem_nil, or_false] at hv; rcases hv with rfl | rfl | rfl <;> rfl) rfl aC st20 (by rw [lQ]; have hl_ : oD + xs.length * 3 ≤ CD.length := hlD; show oD + (xs.length - 1) * 3 + (xs.length - (xs.length - 1)) * 3 ≤ _; omega) ?_); intro ZD W25 hZD st26
  refine aB (wp_seq (aA (sg (aG (h24_.at 0) (sg (aF (v := .slice (some ⟨bD, oD, none⟩) (xs.length - 1) cD) rfl (aB (wr (aM results198 rfl ?_)))))))))
  have hE_ := (st26.get 1 rfl).1.erase hk
  obtain ⟨f1, f2, f3, hfe_, hE3⟩ := hE_
  have hs_ := st26.f1.es_sub (fe' := f1 ++ f3) (by rw [hfe_]; exact (List.Sublist.refl _).append (sublist_append_right _ _)) hE3
  have hq_ := St.ownShut' (off := oD) (cap := cD) (m := xs.length - 1) hs_.f1 (yD hk hlD (by rw [hZD, show xs.length - (xs.length - 1) = 1 by omega]; rfl)).symm (by rw [length_eraseIdx_of_lt hk]) aC hmD
  obtain ⟨fpz, stz⟩ := hq_
  exact ⟨_, fpz, rfl, stz⟩
 refine iH 6 [] [(true, .is (.slice (some ⟨bD, oD, none⟩) xs.length cD)), (true, .is (I (k : Int))), (true, .is (.slice (some ⟨bD, oD, none⟩) k cD)), (true, .is (.slice (some ⟨bD, oD, none⟩) xs.length cD)), (true, .is (I ((k : Int) + 1))), (true, .is (.slice (some ⟨bD, oD + (k + 1) * 3, none⟩) (xs.length - (k + 1)) (cD - (k + 1))))] mix aD aD aD aD (rs0 := []) rfl st1 (Below.refl _ _) ⟨(mq_ (h10_.at 0)), (mq_ (h10_.at 1)), (fun f W hst hbl hd hf => aL5 (h := k) fW (hd 0 20 rfl rfl) (hd 1 21 rfl rfl) aC aC aC brq), (mq_ (h10_.at 0)), (mq_ (h10_.at 2)), (fun f W hst hbl hd hf => stp_xl (l := k + 1) fW (hd 3 23 rfl rfl) (hd 4 24 rfl rfl) aC aC aC brq), trivial⟩ ?_
 intro f29 W30 rs_ hAL_ st33 hbl34 hv31 hf32
 have hn_ : rs_ = [] := hAL_
 subst hn_
 try simp only [iU, iS] at st33
 have h1_ : ∀ v ∈ (CD.drop (oD + (k + 1) * 3)).take ((xs.length - (k + 1)) * 3), v.oneCell' = true := fun v hv => (st33.get 1 rfl).1.one v (aG2 hv (by show (k + 1) * 3 + (xs.length - (k + 1)) * 3 ≤ xs.length * 3; omega))
 refine sg (xC (α := File) (i := k) (m := xs.length - (k + 1)) (oy := oD + (k + 1) * 3) (q := xs.length - 1) fW (hv31 2 22 aU rfl) (hv31 5 25 aU rfl) (fun _ => rfl) aC aC (by show oD + (k + 1) * 3 + (xs.length - (k + 1)) * 3 ≤ CD.length; have hl_ : oD + xs.length * 3 ≤ CD.length := hlD; omega) (by show oD + k * 3 + (xs.length - (k + 1)) * 3 ≤ CD.length; have hl_ : oD + xs.length * 3 ≤ CD.length := hlD; omega) h1_ st33 ?_); intro W36 st37
 refine sg (aF (v := .slice (some ⟨bD, oD, none⟩) (xs.length - 1) cD) rfl (aB (wp_seq (aA (rn st37 4 (Ag.cons (show f29 7 = I ((xs.length : Nat) : Int) from ((hf32 7 rfl).trans (h10_.at 7))) Ag.nil).put.put [] [(27, .slice (some ⟨bD, oD, none⟩) (xs.length - 1) cD), (29, I (((xs.length - 1) : Nat) : Int)), (30, I ((xs.length : Nat) : Int))] [.l (.slice (some ⟨bD, oD, none⟩) (xs.length - 1) cD) (xs.length - 1) ⟨_, _, rfl⟩] aD fun f41 h41_ => (sg (aL6 (l := xs.length - 1) (h := xs.length) fW (h41_.at 27) (h41_.at 29) (h41_.at 30) aC aC aC aC aC ?_)))))))
 refine sgn (uI (s := 3) (zs := [.string ByteArray.empty, .string ByteArray.empty, I 0]) underlying28 aD rfl aC (by intro v hv; simp only [mem_cons, not_mem_nil, or_false] at hv; rcases hv with rfl | rfl | rfl <;> rfl) rfl aC st37 (by rw [lQ]; have hl_ : oD + xs.length * 3 ≤ CD.length := hlD; show oD + (xs.length - 1) * 3 + (xs.length - (xs.length - 1)) * 3 ≤ _; omega) ?_); intro ZD W42 hZD st43
 refine aB (wp_seq (aA (sg (aG (h41_.at 0) (sg (aF (v := .slice (some ⟨bD, oD, none⟩) (xs.length - 1) cD) rfl (aB (wr (aM results198 rfl ?_)))))))))
 have hE_ := (st43.get 1 rfl).1.erase hk
 obtain ⟨f1, f2, f3, hfe_, hE3⟩ := hE_
 have hs_ := st43.f1.es_sub (fe' := f1 ++ f3) (by rw [hfe_]; exact (List.Sublist.refl _).append (sublist_append_right _ _)) hE3
 have hq_ := St.ownShut' (off := oD) (cap := cD) (m := xs.length - 1) hs_.f1 (yD hk hlD (by rw [hZD, show xs.length - (xs.length - 1) = 1 by omega]; rfl)).symm (by rw [length_eraseIdx_of_lt hk]) aC hmD
 obtain ⟨fpz, stz⟩ := hq_
 exact ⟨_, fpz, rfl, stz⟩
theorem DeleteFileO (xs : List File) (k : Nat) (hk : k < xs.length) (hl : xs.length ≤ 1048576) : Co prog 198 [.o (inferInstance : Shape File) xs] false [.I (k : Int), .I ((k : Int) + 1)] (fun _ : Unit => True) (fun _ => [.L (xs.eraseIdx k)]) :=
 ⟨fun w W0 cs r us rs hlv st hp => by
  cases cs with
  | nil => exact hlv.elim
  | cons c cs =>
   obtain ⟨fp, r2, rfl, hc⟩ := hlv
   cases cs with
   | cons _ _ => exact hc.elim
   | nil =>
    have hc : r2 = [] := hc
    subst hc
    cases us with
    | nil => exact hp.elim
    | cons u1 us =>
     cases us with
     | nil => exact hp.2.elim
     | cons u2 us =>
      cases us with
      | cons _ _ => exact hp.2.2.elim
      | nil =>
       obtain ⟨h1, h2, _⟩ := hp
       have h1 : u1 = I (k : Int) := h1
       have h2 : u2 = I ((k : Int) + 1) := h2
       subst h1 h2
       refine (DeleteFile (v := c) (xs := xs) (fp := fp) (k := k) (rs := rs) st hk hl).mono ?_
       rintro e W ⟨v, fp2, rfl, st2⟩
       exact ⟨(), [v], [Res.own v (xs.eraseIdx k) fp2], trivial, rfl, ⟨[Res.own v (xs.eraseIdx k) fp2], [], ⟨fp2, rfl⟩, rfl, rfl⟩, st2⟩⟩
theorem aA1 {f : File} {nm : ByteArray} (gf : f.ok) (h : gO nm = true) : File.ok (mvF f nm) := ⟨by show nm.size ≤ _; unfold gO inB at h; simp only [Bool.and_eq_true, decide_eq_true_eq] at h; unfold maxLen; omega, gf.2.1, gf.2.2⟩
theorem mv_del {d : Disk} {fr to : ByteArray} {k j : Nat} {f : File} (hk : fAt d.files fr = (k : Int)) (hf : d.files[k]? = some f) (h : bS d = true) (h2 : ¬ fr = to) (h3 : gO to = true) (h4 : f.safe = (f.data.size : Int)) (hj : fAt d.files to = (j : Int)) : ((⟨(d.files.set k (mvF f to)).eraseIdx j⟩ : Disk), true) = fE d fr to := by
 rw [← aD7 hk hf h h2 h3 h4, sD h hk hf h2 (.inl hj) d.files.length (Nat.le_refl _), take_of_length_le (by rw [length_set]; exact Nat.le_refl _)]
theorem mv_set {d : Disk} {fr to : ByteArray} {k : Nat} {f : File} (hk : fAt d.files fr = (k : Int)) (hf : d.files[k]? = some f) (h : bS d = true) (h2 : ¬ fr = to) (h3 : gO to = true) (h4 : f.safe = (f.data.size : Int)) (hj : fAt d.files to < 0) : ((⟨d.files.set k (mvF f to)⟩ : Disk), true) = fE d fr to := by
 rw [← aD7 hk hf h h2 h3 h4, sD h hk hf h2 (.inr ⟨hj, rfl⟩) d.files.length (Nat.le_refl _), take_of_length_le (by rw [length_set]; exact Nat.le_refl _), eraseIdx_of_length_le (by rw [length_set]; exact Nat.le_refl _)]
theorem MoveFileI (d : Disk) (fr to : ByteArray) (hl : d.files.length ≤ 1048576) : Ct1 prog 99 [.S d, .T fr, .T to] [.S (fE d fr to).1, .B (fE d fr to).2] :=
 .one (fE d fr to) (rk := fun p => [.S p.1, .B p.2]) <| vc func99 (fun hg => .c func89 (iG d aC) fun _ => .c func94 (kP d fr) fun _ => .s (fAt d.files fr < 0)
  (fun h => .sh 3 <| .rt (d, false) ⟨oT (fun e => e.1 h), trivial, trivial⟩)
  (fun h => .c func84 (oJ d) fun _ => .v (bS d)
   (fun hb => .sh 3 <| .rt (d, false) ⟨oT (fun e => by rw [hb] at e; cases e.2.1), trivial, trivial⟩)
   (fun hd => .s (fr = to)
    (fun he => .sh 3 <| .rt (d, false) ⟨oT (fun e => e.2.2.1 he), trivial, trivial⟩)
    (fun he => .c func186 (aK2 to) fun _ => .v (gO to)
     (fun hb => .sh 3 <| .rt (d, false) ⟨oT (fun e => by rw [hb] at e; cases e.2.2.2.1), trivial, trivial⟩)
     (fun hn => .ex (p := fun k : Nat => fAt d.files fr = (k : Int) ∧ k < d.files.length) (kO h) fun k hk => .ex (p := fun f => d.files[k]? = some f) ⟨_, getElem?_eq_getElem hk.2⟩ fun f hf => .ye hf (fAt d.files fr) (he := hk.1) fun gf => .ye hf (fAt d.files fr) (he := hk.1) fun _ => .u (f.safe = (f.data.size : Int))
      (fun hs => .sh 3 <| .rt (d, false) ⟨oT (fun e => hs (by have := e.2.2.2.2; rwa [yX hk.1 hf, sQ hk.1 hf] at this)), trivial, trivial⟩)
      (fun hs => .sh 3 <| .d 3 hf fun _ => .ie k (fAt d.files fr) (he := hk.1) <| .wt 56 <| .f 3 d.files (mvF f to) (h := aA1 gf hn) <| .c func94 (kP d to) fun _ => .s ((0 : Int) ≤ fAt d.files to)
       (fun h0 => .ex (p := fun j : Nat => fAt d.files to = (j : Int) ∧ j < d.files.length) (kO aC) fun j hj => .rv 10 (I (j : Int)) (y := I (fAt d.files to)) (by rw [hj.1]) <| .p (j : Int) 1 <|
        .co _ func198 (DeleteFileO (d.files.set k (mvF f to)) j (by rw [length_set]; exact hj.2) (by rw [length_set]; exact hl)) trivial fun _ _ _ => .rt (⟨(d.files.set k (mvF f to)).eraseIdx j⟩, true) ⟨mv_del hk.1 hf hd he hn hs hj.1, trivial, trivial⟩)
       (fun h0 => .rt (⟨d.files.set k (mvF f to)⟩, true) ⟨mv_set hk.1 hf hd he hn hs aC, trivial, trivial⟩))))))) aD
theorem MoveFileS (d : Disk) (fr to : ByteArray) (hl : d.files.length ≤ 1048576) : Ct1 prog 140 [.S d, .T fr, .T to] [.S (fE d fr to).1, .B (fE d fr to).2] :=
 .one (fE d fr to) (rk := fun p => [.S p.1, .B p.2]) <| vc func140 (fun hg => .c func108 (mN d fr aC) fun _ => .s (fAt d.files fr < 0)
  (fun h => .c func107 (dP d aC) fun _ => .sh 3 <| .rt (d, false) ⟨oT (fun e => e.1 h), trivial, trivial⟩)
  (fun h => .c func116 (iW d) fun _ => .v (bS d)
   (fun hb => .c func107 (dP d aC) fun _ => .sh 3 <| .rt (d, false) ⟨oT (fun e => by rw [hb] at e; cases e.2.1), trivial, trivial⟩)
   (fun hd => .s (fr = to)
    (fun he => .c func107 (dP d aC) fun _ => .sh 3 <| .rt (d, false) ⟨oT (fun e => e.2.2.1 he), trivial, trivial⟩)
    (fun he => .c func227 (aK1 to) fun _ => .v (gO to)
     (fun hb => .c func107 (dP d aC) fun _ => .sh 3 <| .rt (d, false) ⟨oT (fun e => by rw [hb] at e; cases e.2.2.2.1), trivial, trivial⟩)
     (fun hn => .ex (p := fun k : Nat => fAt d.files fr = (k : Int) ∧ k < d.files.length) (kO h) fun k hk => .ex (p := fun f => d.files[k]? = some f) ⟨_, getElem?_eq_getElem hk.2⟩ fun f hf => .ye hf (fAt d.files fr) (he := hk.1) fun gf => .ye hf (fAt d.files fr) (he := hk.1) fun _ => .u (f.safe = (f.data.size : Int))
      (fun hs => .c func107 (dP d aC) fun _ => .sh 5 <| .rt (d, false) ⟨oT (fun e => hs (by have := e.2.2.2.2; rwa [yX hk.1 hf, sQ hk.1 hf] at this)), trivial, trivial⟩)
      (fun hs => .r0 (inferInstance : Shape File) 131 <| .l (Γ := Nat) (fun i => i ≤ d.files.length) (fun i => d.files.length - i) [2, 3, 6, 8, 9] [1, 2] [0] (fun i => [vI 10 i]) (fun i => [oR 5 131 (mvG d.files k to i), oB 6 [.r 5]]) 0 fun i hi t =>
       let hml : (mvG d.files k to i).length ≤ i := yY _ _ _ _
       .s ((i : Int) < d.files.length)
        (fun h => .x d.files i (h := by omega) fun g hg gg => .s (g.name = to)
         (fun h1 => .g 5 (aA2 (k := k) hg h1) <| .p i 1 (h := by unfold I64; omega) <| .n t (i + 1) [])
         (fun h1 => .s ((i : Int) = fAt d.files fr)
          (fun h2 => .a (mvG d.files k to i) (mvF g to) 40 (hy := aA1 gg hn) (h63 := by unfold maxLen; omega) (hby := by omega) <| .g 5 (aA3 (k := k) hg h1 aC) <| .p i 1 (h := by unfold I64; omega) <| .n t (i + 1) [])
          (fun h2 => .a (mvG d.files k to i) g 40 (hy := gg) (h63 := by unfold maxLen; omega) (hby := by omega) <| .g 5 (aA4 (k := k) hg h1 aC) <| .p i 1 (h := by unfold I64; omega) <| .n t (i + 1) [])))
        (fun h => .sh 5 <| .rt (⟨mvG d.files k to i⟩, true) ⟨by rw [show i = d.files.length by omega]; exact aD7 hk.1 hf hd he hn hs, trivial, trivial⟩))))))) aD
theorem VarsI (l : List Int) (hl : l.length ≤ 20000000) : Ct1 prog 203 [.L l] [.T ⟨(fJ l).toArray⟩] :=
 vc func203 (fun hg => .w UInt8 5 3 <| .l (Γ := Nat) (fun k => k ≤ l.length) (fun k => l.length - k) [6, 7] [] [0] (fun k => [vR 3 1, vI 8 k]) (fun k => [oR 1 5 (fJ (l.take k))]) 0 fun k hk t =>
  let hb : (fJ (l.take k)).length ≤ 5 * l.length := by have := oX (l.take k); rw [length_take] at this; omega
  .s ((k : Int) < l.length)
   (fun h => .x l k (h := by omega) fun z hz gz => .c func202 (VarTextD z) fun _ => .bs (fJ (l.take k)) (dW z) (by have := jA z; unfold maxLen; omega) (by have := jA z; omega) <|
    .g 1 (sX hz) <| .p k 1 (h := by unfold I64; omega) <| .n t (k + 1) [])
   (fun h => .g 1 (show fJ (l.take k) = fJ l by rw [take_of_length_le aC]) <| .so (fJ l) <| .rt () ⟨trivial, trivial⟩)) aD
theorem rC {e : Entry} (h : e.ok) : ∀ y ∈ fF e, (inferInstance : Dsh Int).good y := by
 obtain ⟨h1, h2, h3, h4⟩ := h
 intro y hy
 simp only [fF, mem_cons, not_mem_nil, or_false] at hy
 rcases hy with rfl | rfl | rfl | rfl
 ·exact h1
 ·exact h2
 ·exact h3
 exact h4
theorem sZ {e : Task} (h : e.ok) : ∀ y ∈ gK e, (inferInstance : Dsh Int).good y := by
 obtain ⟨h1, h2, h3, h4⟩ := h
 intro y hy
 simp only [gK, mem_cons, not_mem_nil, or_false] at hy
 rcases hy with rfl | rfl | rfl | rfl
 ·exact h1
 ·exact h2
 ·exact h3
 exact h4
theorem zJ {y : Yard} (h : dF y = false) : (⟨#[]⟩ : ByteArray) = gD y := by unfold gD; rw [if_neg (by rw [h]; simp)]
theorem wS {y : Yard} (h : dF y = true) : (⟨(fJ (eU y)).toArray⟩ : ByteArray) = gD y := by unfold gD; rw [if_pos h]
theorem YardTextI (y : Yard) (hw : y.wt ≤ 1048576) : Ct1 prog 195 [.S y] [.T (gD y)] :=
 .one (gD y) (rk := fun a => [.T a]) <| vc func195 (fun hg => .c func118 (aJ8 y hw) (hg := ⟨hg.1.1, trivial⟩) fun _ => .v (dF y)
  (fun hb => .rt ⟨#[]⟩ ⟨zJ hb, trivial⟩)
  (fun hb => let hsl : y.shelf.length ≤ 1048576 := Nat.le_trans (nQ y).1 hw
   let hrl : y.runs.length ≤ 1048576 := Nat.le_trans (nQ y).2 hw
   .lr (inferInstance : Dsh Int) nW 19 [y.now, y.seq] (by simp) (all2 hg.1.1.1 hg.1.1.2) <|
   .l (Γ := Nat) (fun i => i ≤ y.shelf.length) (fun i => y.shelf.length - i) [1, 21, 22] [2] [0, 1] (fun i => [vR 3 3, vI 23 i]) (fun i => [oR 3 3 (kU y i)]) 0 fun i hi t =>
   let m1 := gN (jT y i) hw
   .s ((i : Int) < y.shelf.length)
    (fun h => .x y.shelf i (h := by omega) fun l hl gl => let hll : l.length ≤ 1048576 := Nat.le_trans (tC (mem_of_getElem? hl)) hw
     .a (kU y i) (l.length : Int) 8 (hy := by show I64 _; unfold I64; omega) (h63 := by unfold maxLen; omega) (hby := by omega) <|
     .g 3 (aM6 y i l) <| .l (Γ := Nat) (fun k => k ≤ l.length) (fun k => l.length - k) [1, 21, 22, 23, 32, 33] [2] [0, 1, 5] (fun k => [vR 3 3, vI 34 k]) (fun k => [oR 3 3 (pH y i l k)]) 0 fun k hk t2 =>
     let m2 := gN (zX hl k) hw
     .s ((k : Int) < l.length)
      (fun h2 => .x l k (h := by omega) fun e he ge => .ap (inferInstance : Dsh Int) (pH y i l k) (fF e) (rC ge) 8 (by simp only [fF, length_cons, length_nil]; unfold maxLen; omega) (by simp only [fF, length_cons, length_nil]; omega) <|
       .g 3 (xL (y := y) (i := i) he) <| .p k 1 (h := by unfold I64; omega) <| .n t2 (k + 1) [])
      (fun h2 => .g 3 (show pH y i l k = kU y (i + 1) by rw [show k = l.length by omega]; exact vG hl) <| .p i 1 (h := by unfold I64; omega) <| .n t (i + 1) []))
    (fun h => .g 3 (show kU y i = kU y y.shelf.length by rw [show i = y.shelf.length by omega]) <| .a (kU y y.shelf.length) (y.runs.length : Int) 8 (hy := by show I64 _; unfold I64; omega) (h63 := by have := gN (jT y y.shelf.length) hw; unfold maxLen; omega) (hby := by have := gN (jT y y.shelf.length) hw; omega) <|
     .g 3 (aM5 y) <| .l (Γ := Nat) (fun i => i ≤ y.runs.length) (fun i => y.runs.length - i) [1, 58, 59] [2] [0, 1] (fun i => [vR 3 3, vI 60 i]) (fun i => [oR 3 3 (iX y i)]) 0 fun i hi t =>
     let m1 := gN (qH y i) hw
     .s ((i : Int) < y.runs.length)
      (fun h => .x y.runs i (h := by omega) fun r hr gr => let gr : r.ok := gr
       let hwr : r.wt ≤ 1048576 := Nat.le_trans (xH (mem_of_getElem? hr)) hw
       let m0 := gN (qG hr 0) hw
       let mm : (iX y i).length + (gZ r.plan).length + 2 ≤ 8388611 := by have := m0; rw [← yT] at this; simp only [length_append, length_cons, length_nil] at this; omega
       .a (iX y i) r.id 8 (hy := gr.1) (h63 := by unfold maxLen; omega) (hby := by omega) <|
       .c func301 (PlanNumbersI r.plan (by unfold Run.wt Plan.wt at hwr; omega)) (hg := ⟨gr.2.1, trivial⟩) fun _ =>
       .as (inferInstance : Shape Int) nW (iX y i ++ [r.id]) (gZ r.plan) 8 (by simp only [length_append, length_cons, length_nil]; unfold maxLen; omega) (by simp only [length_append, length_cons, length_nil]; omega) <|
       .a ((iX y i ++ [r.id]) ++ gZ r.plan) r.state 8 (hy := gr.2.2) (h63 := by simp only [length_append, length_cons, length_nil]; unfold maxLen; omega) (hby := by simp only [length_append, length_cons, length_nil]; omega) <|
       .g 3 (yT y i r) <| .l (Γ := Nat) (fun k => k ≤ r.tasks.length) (fun k => r.tasks.length - k) [1, 58, 59, 60, 79, 80] [2] [0, 1, 7] (fun k => [vR 3 3, vI 81 k]) (fun k => [oR 3 3 (pG y i r k)]) 0 fun k hk t2 =>
       let m2 := gN (qG hr k) hw
       .s ((k : Int) < r.tasks.length)
        (fun h2 => .x r.tasks k (h := by omega) fun e he ge => .ap (inferInstance : Dsh Int) (pG y i r k) (gK e) (sZ ge) 8 (by simp only [gK, length_cons, length_nil]; unfold maxLen; omega) (by simp only [gK, length_cons, length_nil]; omega) <|
         .g 3 (xK (y := y) (i := i) he) <| .p k 1 (h := by unfold Run.wt at hwr; unfold I64; omega) <| .n t2 (k + 1) [])
        (fun h2 => .g 3 (show pG y i r k = iX y (i + 1) by rw [show k = r.tasks.length by omega]; exact vE hr) <| .p i 1 (h := by unfold I64; omega) <| .n t (i + 1) []))
      (fun h => .g 3 (show iX y i = eU y by rw [show i = y.runs.length by omega]; exact vF y) <| .c func203 (VarsI (eU y) (by have := nR y; omega)) fun _ => .rt ⟨(fJ (eU y)).toArray⟩ ⟨wS hb, trivial⟩)))) aD
def kV (l : List Int) : ByteArray := ⟨(fJ l).toArray⟩
theorem strOf_size (l : List Int) : (kV l).size ≤ 5 * l.length := by
 have := oX l
 show (fJ l).toArray.size ≤ _
 simpa using this
theorem str_step {l : List Int} {k : Nat} {z : Int} (h : l[k]? = some z) : kV (l.take k) ++ dW z = kV (l.take (k + 1)) := by
 apply ByteArray.ext
 rw [ByteArray.data_append]
 apply Array.toList_inj.1
 show _ = fJ (l.take (k + 1))
 rw [← sX h]
 simp [kV]
theorem VarsS (l : List Int) (hl : l.length ≤ 20000000) : Ct1 prog 218 [.L l] [.T (kV l)] :=
 vc func218 (fun hg => .l (Γ := Nat) (fun k => k ≤ l.length) (fun k => l.length - k) [0] [] [0] (fun k => [vT 3 (kV (l.take k)), vI 4 k]) (fun _ => []) 0 fun k hk t =>
  let hb : (kV (l.take k)).size ≤ 5 * l.length := by have := strOf_size (l.take k); rw [length_take] at this; omega
  .s ((k : Int) < l.length)
   (fun h => .x l k (h := by omega) fun z hz gz => .c func214 (VarTextSD z) fun _ => .pb .add (jG (kV (l.take k)) (dW z) (by have := jA z; omega)) <|
    .rv 17 (.string (kV (l.take (k + 1)))) (y := .string (kV (l.take k) ++ dW z)) (by rw [str_step hz]) <| .p k 1 (h := by unfold I64; omega) <| .n t (k + 1) [])
   (fun h => .rv 3 (.string (kV l)) (y := .string (kV (l.take k))) (by rw [take_of_length_le aC]) <| .rt () ⟨trivial, trivial⟩)) aD
theorem L18PlanS (out : List Int) (p : Plan) (hl : p.edges.length ≤ 1048576) (ho : out.length ≤ 100000000) : Co prog 356 [.r (inferInstance : Shape Int) 3 out] false [.S p] (fun _ : Unit => True) (fun _ => [.rw (inferInstance : Shape Int) 3 (out ++ gZ p)]) :=
 vco func356 (fun hg _ => .ap (inferInstance : Dsh Int) out (jS p) (xJ hg.1.1 hl) 8 (by simp only [jS, length_cons, length_nil]; unfold maxLen; omega) (by simp only [jS, length_cons, length_nil]; omega) <|
  .g 0 (show out ++ jS p = out ++ eY p 0 by simp [eY]) <| .l (Γ := Nat) (fun k => k ≤ p.edges.length) (fun k => p.edges.length - k) [3] [2, 1000000] [1] (fun k => [vR 0 0, vI 5 k]) (fun k => [oR 0 3 (out ++ eY p k)]) 0 fun k hk t =>
   .s ((k : Int) < p.edges.length)
    (fun h => .x p.edges k (h := by omega) fun e he ge => .y he fun _ => .ap (inferInstance : Dsh Int) (out ++ eY p k) [e.from_, e.to_] (yC ge) 8 (by have := lW p k; simp only [length_append, length_cons, length_nil]; unfold maxLen; omega) (by have := lW p k; simp only [length_append, length_cons, length_nil]; omega) <|
     .g 0 (show (out ++ eY p k) ++ [e.from_, e.to_] = out ++ eY p (k + 1) by rw [append_assoc, tG he]) <| .p k 1 (h := by unfold I64; omega) <| .n t (k + 1) [])
    (fun h => .g 0 (show out ++ eY p k = out ++ gZ p by unfold gZ; rw [show k = p.edges.length by omega]) <| .rt () ⟨trivial, trivial⟩)) aD
theorem YardTextS (y : Yard) (hw : y.wt ≤ 1048576) : Ct1 prog 255 [.S y] [.T (gD y)] :=
 .one (gD y) (rk := fun a => [.T a]) <| vc func255 (fun hg => .c func185 (aB9 y hw) (hg := ⟨hg.1.1, trivial⟩) fun _ => .v (dF y)
  (fun hb => .rt ⟨#[]⟩ ⟨zJ hb, trivial⟩)
  (fun hb => let hsl : y.shelf.length ≤ 1048576 := Nat.le_trans (nQ y).1 hw
   let hrl : y.runs.length ≤ 1048576 := Nat.le_trans (nQ y).2 hw
   .lr (inferInstance : Dsh Int) nW 18 [y.now, y.seq] (by simp) (all2 hg.1.1.1 hg.1.1.2) <|
   .l (Γ := Nat) (fun i => i ≤ y.shelf.length) (fun i => y.shelf.length - i) [1] [2] [0, 1] (fun i => [vR 3 3, vI 4 i]) (fun i => [oR 3 3 (kU y i)]) 0 fun i hi t =>
   let m1 := gN (jT y i) hw
   .s ((i : Int) < y.shelf.length)
    (fun h => .x y.shelf i (h := by omega) fun l hl gl => let hll : l.length ≤ 1048576 := Nat.le_trans (tC (mem_of_getElem? hl)) hw
     .a (kU y i) (l.length : Int) 8 (hy := by show I64 _; unfold I64; omega) (h63 := by unfold maxLen; omega) (hby := by omega) <|
     .g 3 (aM6 y i l) <| .l (Γ := Nat) (fun k => k ≤ l.length) (fun k => l.length - k) [1, 4] [2] [0, 1] (fun k => [vR 3 3, vI 5 k]) (fun k => [oR 3 3 (pH y i l k)]) 0 fun k hk t2 =>
     let m2 := gN (zX hl k) hw
     .y hl fun _ => .s ((k : Int) < l.length)
      (fun h2 => .y hl fun _ => .x l k (h := by omega) fun e he ge => .ap (inferInstance : Dsh Int) (pH y i l k) (fF e) (rC ge) 8 (by simp only [fF, length_cons, length_nil]; unfold maxLen; omega) (by simp only [fF, length_cons, length_nil]; omega) <|
       .g 3 (xL (y := y) (i := i) he) <| .p k 1 (h := by unfold I64; omega) <| .n t2 (k + 1) [])
      (fun h2 => .g 3 (show pH y i l k = kU y (i + 1) by rw [show k = l.length by omega]; exact vG hl) <| .p i 1 (h := by unfold I64; omega) <| .n t (i + 1) []))
    (fun h => .g 3 (show kU y i = kU y y.shelf.length by rw [show i = y.shelf.length by omega]) <| .a (kU y y.shelf.length) (y.runs.length : Int) 8 (hy := by show I64 _; unfold I64; omega) (h63 := by have := gN (jT y y.shelf.length) hw; unfold maxLen; omega) (hby := by have := gN (jT y y.shelf.length) hw; omega) <|
     .g 3 (aM5 y) <| .l (Γ := Nat) (fun i => i ≤ y.runs.length) (fun i => y.runs.length - i) [1] [2] [0, 1] (fun i => [vR 3 3, vI 7 i]) (fun i => [oR 3 3 (iX y i)]) 0 fun i hi t =>
     let m1 := gN (qH y i) hw
     .s ((i : Int) < y.runs.length)
      (fun h => .x y.runs i (h := by omega) fun r hr gr => let gr : r.ok := gr
       let hwr : r.wt ≤ 1048576 := Nat.le_trans (xH (mem_of_getElem? hr)) hw
       let m0 := gN (qG hr 0) hw
       let mm : (iX y i).length + (gZ r.plan).length + 2 ≤ 8388611 := by have := m0; rw [← yT] at this; simp only [length_append, length_cons, length_nil] at this; omega
       .a (iX y i) r.id 8 (hy := gr.1) (h63 := by unfold maxLen; omega) (hby := by omega) <|
       .co _ func356 (L18PlanS (iX y i ++ [r.id]) r.plan (by unfold Run.wt Plan.wt at hwr; omega) (by simp only [length_append, length_cons, length_nil]; omega)) ⟨gr.2.1, trivial⟩ fun _ _ _ =>
       .a ((iX y i ++ [r.id]) ++ gZ r.plan) r.state 8 (hy := gr.2.2) (h63 := by simp only [length_append, length_cons, length_nil]; unfold maxLen; omega) (hby := by simp only [length_append, length_cons, length_nil]; omega) <|
       .g 10 (yT y i r) <| .l (Γ := Nat) (fun k => k ≤ r.tasks.length) (fun k => r.tasks.length - k) [1, 7, 8] [2, 8] [0, 1, 7] (fun k => [vR 3 10, vI 9 k]) (fun k => [oR 10 3 (pG y i r k)]) 0 fun k hk t2 =>
       let m2 := gN (qG hr k) hw
       .s ((k : Int) < r.tasks.length)
        (fun h2 => .x r.tasks k (h := by omega) fun e he ge => .ap (inferInstance : Dsh Int) (pG y i r k) (gK e) (sZ ge) 8 (by simp only [gK, length_cons, length_nil]; unfold maxLen; omega) (by simp only [gK, length_cons, length_nil]; omega) <|
         .g 10 (xK (y := y) (i := i) he) <| .p k 1 (h := by unfold Run.wt at hwr; unfold I64; omega) <| .n t2 (k + 1) [])
        (fun h2 => .g 10 (show pG y i r k = iX y (i + 1) by rw [show k = r.tasks.length by omega]; exact vE hr) <| .p i 1 (h := by unfold I64; omega) <| .n t (i + 1) [(3, 10)]))
      (fun h => .g 3 (show iX y i = eU y by rw [show i = y.runs.length by omega]; exact vF y) <| .sh 3 <| .c func218 (VarsS (eU y) (by have := nR y; omega)) fun _ => .rt (kV (eU y)) ⟨wS hb, trivial⟩)))) aD
abbrev nextN : ByteArray := ⟨#[110, 101, 120, 116]⟩
abbrev qV : ByteArray := ⟨#[108, 111, 103]⟩
abbrev tI : ByteArray := ⟨#[109, 97, 114, 107]⟩
def jM (e : Engine) (d : Disk) : Engine := ⟨e.yard, d, e.next, e.calls, e.waits, e.state, e.broken⟩
noncomputable def oV (d : Disk) (nm : ByteArray) : Disk × Bool := if 0 ≤ fAt d.files nm then cU d nm 0 else (d, true)
noncomputable def opF (e : Engine) (k : Int) : Disk × Bool :=
 if k = 0 then oV e.disk nextN else if k = 4 then oV e.disk qV else if k = 1 then eF e.disk nextN (hH (e.next - 1) (gD e.yard)) else if k = 2 then fR e.disk nextN else fE e.disk nextN tI
noncomputable def eR (e : Engine) (k : Int) : Engine × Bool :=
 if ¬ (gS e = true ∧ e.state = 1 ∧ inB k 0 4 = true) then (e, false) else if e.broken = true then (brk e, false) else (jM e (opF e k).1, (opF e k).2)
theorem sE {e : Engine} {k : Int} (h : ¬ (gS e = true ∧ e.state = 1 ∧ inB k 0 4 = true)) : (e, false) = eR e k := by unfold eR; rw [if_pos h]
theorem aH3 {e : Engine} {k : Int} (h1 : gS e = true) (h2 : e.state = 1) (h3 : inB k 0 4 = true) (h : e.broken = true) : (brk e, false) = eR e k := by unfold eR; rw [if_neg (fun h => h ⟨h1, h2, h3⟩), if_pos h]
theorem yZ {e : Engine} {k : Int} (h1 : gS e = true) (h2 : e.state = 1) (h3 : inB k 0 4 = true) (h : e.broken = false) : eR e k = (jM e (opF e k).1, (opF e k).2) := by unfold eR; rw [if_neg (fun h => h ⟨h1, h2, h3⟩), if_neg (by rw [h]; simp)]
theorem inB4 {k : Int} (h : inB k 0 4 = true) : 0 ≤ k ∧ k ≤ 4 := by unfold inB at h; simpa using h
theorem op_0 {e : Engine} {k : Int} (h : k = 0) (h2 : 0 ≤ fAt e.disk.files nextN) : opF e k = cU e.disk nextN 0 := by unfold opF oV; rw [if_pos h, if_pos h2]
theorem op_0n {e : Engine} {k : Int} (h : k = 0) (h2 : ¬ 0 ≤ fAt e.disk.files nextN) : opF e k = (e.disk, true) := by unfold opF oV; rw [if_pos h, if_neg h2]
theorem op_4 {e : Engine} {k : Int} (h : k = 4) (h2 : 0 ≤ fAt e.disk.files qV) : opF e k = cU e.disk qV 0 := by unfold opF oV; rw [if_neg aC, if_pos h, if_pos h2]
theorem op_4n {e : Engine} {k : Int} (h : k = 4) (h2 : ¬ 0 ≤ fAt e.disk.files qV) : opF e k = (e.disk, true) := by unfold opF oV; rw [if_neg aC, if_pos h, if_neg h2]
theorem op_1 {e : Engine} {k : Int} (h : k = 1) : opF e k = eF e.disk nextN (hH (e.next - 1) (gD e.yard)) := by unfold opF; rw [if_neg aC, if_neg aC, if_pos h]
theorem op_2 {e : Engine} {k : Int} (h : k = 2) : opF e k = fR e.disk nextN := by unfold opF; rw [if_neg aC, if_neg aC, if_neg aC, if_pos h]
theorem op_3 {e : Engine} {k : Int} (h0 : ¬ k = 0) (h4 : ¬ k = 4) (h1 : ¬ k = 1) (h2 : ¬ k = 2) : opF e k = fE e.disk nextN tI := by unfold opF; rw [if_neg h0, if_neg h4, if_neg h1, if_neg h2]
theorem write_f {d : Disk} {nm more : ByteArray} (h : (eF d nm more).2 = false) : (eF d nm more).1 = d := by
 unfold eF at *; split <;> simp_all
theorem sync_f {d : Disk} {nm : ByteArray} (h : (fR d nm).2 = false) : (fR d nm).1 = d := by
 unfold fR at *; split <;> simp_all
theorem cut_f {d : Disk} {nm : ByteArray} {n : Int} (h : (cU d nm n).2 = false) : (cU d nm n).1 = d := by
 unfold cU at *; split <;> simp_all
theorem move_f {d : Disk} {fr to : ByteArray} (h : (fE d fr to).2 = false) : (fE d fr to).1 = d := by
 unfold fE at *; split <;> simp_all
theorem op_f {e : Engine} {k : Int} (h : (opF e k).2 = false) : (opF e k).1 = e.disk := by
 unfold opF oV at *
 split
 ·rename_i h0; rw [if_pos h0] at h
  split
  ·rename_i h1; rw [if_pos h1] at h; exact cut_f h
  rfl
 rename_i h0; rw [if_neg h0] at h
 split
 ·rename_i h4; rw [if_pos h4] at h
  split
  ·rename_i h1; rw [if_pos h1] at h; exact cut_f h
  rfl
 rename_i h4; rw [if_neg h4] at h
 split
 ·rename_i h1; rw [if_pos h1] at h; exact write_f h
 rename_i h1; rw [if_neg h1] at h
 split
 ·rename_i h2; rw [if_pos h2] at h; exact sync_f h
 rename_i h2; rw [if_neg h2] at h; exact move_f h
theorem nC {e : Engine} {k : Int} {q : Disk × Bool} (h1 : gS e = true) (h2 : e.state = 1) (h3 : inB k 0 4 = true) (h : e.broken = false) (hq : opF e k = q) : (jM e q.1, q.2) = eR e k := by rw [yZ h1 h2 h3 h, hq]
theorem qP {e : Engine} {k : Int} (h1 : gS e = true) (h2 : e.state = 1) (h3 : inB k 0 4 = true) (h : e.broken = false) (hq : opF e k = (e.disk, true)) : (e, true) = eR e k := by rw [yZ h1 h2 h3 h, hq]; rfl
theorem qO {e : Engine} {k : Int} {q : Disk × Bool} (h1 : gS e = true) (h2 : e.state = 1) (h3 : inB k 0 4 = true) (h : e.broken = false) (hq : opF e k = q) (ht : q.2 = true) : (jM e q.1, true) = eR e k := by rw [yZ h1 h2 h3 h, hq, ht]
theorem nB {e : Engine} {k : Int} {q : Disk × Bool} (h1 : gS e = true) (h2 : e.state = 1) (h3 : inB k 0 4 = true) (h : e.broken = false) (hq : opF e k = q) (hf : q.2 = false) : (e, false) = eR e k := by
 rw [yZ h1 h2 h3 h]
 subst hq
 rw [op_f hf, hf]; rfl
theorem vL (n : Int) (t : ByteArray) : (hH n t).size ≤ 1000000000 := by
 unfold hH
 split
 ·rename_i h
  have := eE n
  have := eE (gE t)
  rw [ByteArray.size_append, ByteArray.size_append]
  omega
 exact Nat.zero_le _
theorem qM {e : Engine} (h : gS e = true) : I64 (e.next - 1) := by
 have := (engOk_iff.1 h).next
 unfold inB at this
 simp only [Bool.and_eq_true, decide_eq_true_eq] at this
 unfold I64; omega
theorem xN : nextN.size ≤ maxLen := by unfold maxLen; decide
theorem MarkStepI (e : Engine) (k : Int) (hw : e.yard.wt ≤ 1048576) (hl : e.disk.files.length ≤ 1048576) (hs : e.waits.length ≤ 1048576) : Ct1 prog 23 [.S e, .I k] [.S (eR e k).1, .B (eR e k).2] :=
 .one (eR e k) (rk := fun p => [.S p.1, .B p.2]) <| vc func23 (fun (hg : gin [Par.S e, Par.I k]) => let ge : e.ok := hg.1.1
  let gb : (brk e).ok := ⟨ge.1, ge.2.1, ge.2.2.1, by show I64 2; unfold I64; omega⟩
  .c func82 (nN e hw hl hs) (hg := ⟨ge, trivial⟩) fun _ => .c func29 (EngineOkI e hw) (hg := ⟨ge, trivial⟩) fun _ => .v (gS e)
  (fun h => .rt (e, false) ⟨sE (fun g => by rw [h] at g; cases g.1), ge, trivial⟩)
  (fun g1 => .u (e.state = 1)
  (fun h => .rt (e, false) ⟨sE (fun g => h g.2.1), ge, trivial⟩)
  (fun g2 => .c func92 (iN k 0 4) fun _ => .v (inB k 0 4)
  (fun h => .rt (e, false) ⟨sE (fun g => by rw [h] at g; cases g.2.2), ge, trivial⟩)
  (fun g3 => .sb e.broken
  (fun h => .c func93 (BrokenI e hw hl hs) (hg := ⟨ge, trivial⟩) fun _ => .rt (brk e, false) ⟨aH3 g1 g2 g3 h, gb, trivial⟩)
  (fun g4 => .s (k = 0)
   (fun h0 => .kf (k = 4) aC <| .c func94 (kP e.disk nextN) fun _ => .s ((0 : Int) ≤ fAt e.disk.files nextN)
    (fun h => .c func95 (aC3 e.disk nextN 0 hl) fun _ => .rt (jM e (cU e.disk nextN 0).1, (cU e.disk nextN 0).2) ⟨nC g1 g2 g3 g4 (op_0 h0 h), ge, trivial⟩)
    (fun h => .rt (e, true) ⟨qP g1 g2 g3 g4 (op_0n h0 h), ge, trivial⟩))
   (fun h0 => .s (k = 4)
    (fun h4 => .kt (k = 4) h4 <| .c func94 (kP e.disk qV) fun _ => .s ((0 : Int) ≤ fAt e.disk.files qV)
     (fun h => .c func95 (aC3 e.disk qV 0 hl) fun _ => .rt (jM e (cU e.disk qV 0).1, (cU e.disk qV 0).2) ⟨nC g1 g2 g3 g4 (op_4 h4 h), ge, trivial⟩)
     (fun h => .rt (e, true) ⟨qP g1 g2 g3 g4 (op_4n h4 h), ge, trivial⟩))
    (fun h4 => .s (k = 1)
     (fun h1 => .m e.next 1 (h := qM g1) <| .c func97 (MarkTextI (e.next - 1) e.yard (gD e.yard) (qM g1) (YardTextI e.yard hw) (tX hw)) (hg := ⟨ge.1, trivial⟩) fun _ => .c func96 (WriteFileI e.disk nextN (hH (e.next - 1) (gD e.yard)) hl xN (vL _ _)) fun _ =>
      .rt (jM e (eF e.disk nextN (hH (e.next - 1) (gD e.yard))).1, (eF e.disk nextN (hH (e.next - 1) (gD e.yard))).2) ⟨nC g1 g2 g3 g4 (op_1 h1), ge, trivial⟩)
     (fun h1 => .s (k = 2)
      (fun h2 => .c func98 (SyncFileI e.disk nextN hl) fun _ => .rt (jM e (fR e.disk nextN).1, (fR e.disk nextN).2) ⟨nC g1 g2 g3 g4 (op_2 h2), ge, trivial⟩)
      (fun h2 => .c func99 (MoveFileI e.disk nextN tI hl) fun _ => .rt (jM e (fE e.disk nextN tI).1, (fE e.disk nextN tI).2) ⟨nC g1 g2 g3 g4 (op_3 h0 h4 h1 h2), ge, trivial⟩)))))))) ) aD
theorem MarkStepS (e : Engine) (k : Int) (hw : e.yard.wt ≤ 1048576) (hl : e.disk.files.length ≤ 1048576) (hs : e.waits.length ≤ 1048576) : Ct1 prog 42 [.S e, .I k] [.S (eR e k).1, .B (eR e k).2] :=
 .one (eR e k) (rk := fun p => [.S p.1, .B p.2]) <| vc func42 (fun (hg : gin [Par.S e, Par.I k]) => let ge : e.ok := hg.1.1
  let gb : (brk e).ok := ⟨ge.1, ge.2.1, ge.2.2.1, by show I64 2; unfold I64; omega⟩
  .c func79 (fO e hw hl hs) (hg := ⟨ge, trivial⟩) fun _ => .c func80 (EngineOkS e hw) (hg := ⟨ge, trivial⟩) fun _ => .v (gS e)
  (fun h => .rt (e, false) ⟨sE (fun g => by rw [h] at g; cases g.1), ge, trivial⟩)
  (fun g1 => .u (e.state = 1)
  (fun h => .rt (e, false) ⟨sE (fun g => h g.2.1), ge, trivial⟩)
  (fun g2 => .c func138 (InV k 0 4) fun _ => .v (inB k 0 4)
  (fun h => .rt (e, false) ⟨sE (fun g => by rw [h] at g; cases g.2.2), ge, trivial⟩)
  (fun g3 => .sb e.broken
  (fun h => .rt (brk e, false) ⟨aH3 g1 g2 g3 h, gb, trivial⟩)
  (fun g4 => .s (k = 0)
   (fun h0 => .c func108 (mN e.disk nextN aC) fun _ => .s ((0 : Int) ≤ fAt e.disk.files nextN)
    (fun h => .c func111 (aC2 e.disk nextN 0 hl) fun _ => .v (cU e.disk nextN 0).2 (fun hf => .c func79 (fO e hw hl hs) (hg := ⟨ge, trivial⟩) fun _ => .rt (e, false) ⟨nB g1 g2 g3 g4 (op_0 h0 h) hf, ge, trivial⟩) (fun ht => .rt (jM e (cU e.disk nextN 0).1, true) ⟨qO g1 g2 g3 g4 (op_0 h0 h) ht, ge, trivial⟩))
    (fun h => .rt (e, true) ⟨qP g1 g2 g3 g4 (op_0n h0 h), ge, trivial⟩))
   (fun h0 => .s (k = 1)
    (fun h1 => .m e.next 1 (h := qM g1) <| .c func139 (MarkTextS (e.next - 1) e.yard (gD e.yard) (qM g1) (YardTextS e.yard hw) (tX hw)) (hg := ⟨ge.1, trivial⟩) fun _ =>
     .c func112 (WriteFileS e.disk nextN (hH (e.next - 1) (gD e.yard)) hl xN (vL _ _)) fun _ => .v (eF e.disk nextN (hH (e.next - 1) (gD e.yard))).2 (fun hf => .c func79 (fO e hw hl hs) (hg := ⟨ge, trivial⟩) fun _ => .rt (e, false) ⟨nB g1 g2 g3 g4 (op_1 h1) hf, ge, trivial⟩) (fun ht => .rt (jM e (eF e.disk nextN (hH (e.next - 1) (gD e.yard))).1, true) ⟨qO g1 g2 g3 g4 (op_1 h1) ht, ge, trivial⟩))
    (fun h1 => .s (k = 2)
     (fun h2 => .c func81 (SyncFileS e.disk nextN hl) fun _ => .v (fR e.disk nextN).2 (fun hf => .c func79 (fO e hw hl hs) (hg := ⟨ge, trivial⟩) fun _ => .rt (e, false) ⟨nB g1 g2 g3 g4 (op_2 h2) hf, ge, trivial⟩) (fun ht => .rt (jM e (fR e.disk nextN).1, true) ⟨qO g1 g2 g3 g4 (op_2 h2) ht, ge, trivial⟩))
     (fun h2 => .s (k = 3)
      (fun h3 => .c func140 (MoveFileS e.disk nextN tI hl) fun _ => .v (fE e.disk nextN tI).2 (fun hf => .c func79 (fO e hw hl hs) (hg := ⟨ge, trivial⟩) fun _ => .rt (e, false) ⟨nB g1 g2 g3 g4 (op_3 h0 aC h1 h2) hf, ge, trivial⟩) (fun ht => .rt (jM e (fE e.disk nextN tI).1, true) ⟨qO g1 g2 g3 g4 (op_3 h0 aC h1 h2) ht, ge, trivial⟩))
      (fun h3 => let h4 : k = 4 := (by have := inB4 g3; omega)
       .kt (k = 4) h4 <| .c func108 (mN e.disk qV aC) fun _ => .s ((0 : Int) ≤ fAt e.disk.files qV)
       (fun h => .c func111 (aC2 e.disk qV 0 hl) fun _ => .v (cU e.disk qV 0).2 (fun hf => .c func79 (fO e hw hl hs) (hg := ⟨ge, trivial⟩) fun _ => .rt (e, false) ⟨nB g1 g2 g3 g4 (op_4 h4 h) hf, ge, trivial⟩) (fun ht => .rt (jM e (cU e.disk qV 0).1, true) ⟨qO g1 g2 g3 g4 (op_4 h4 h) ht, ge, trivial⟩))
       (fun h => .rt (e, true) ⟨qP g1 g2 g3 g4 (op_4n h4 h), ge, trivial⟩)))))))))) aD
def pW (d : Disk) : Prop := d.files.length ≤ 4 ∧ ∀ f ∈ d.files, f.wt ≤ 60010
theorem aL3 {α : Type} (f : α → Nat) (c : Nat) : ∀ l : List α, (∀ x ∈ l, f x ≤ c) → (l.map f).sum ≤ l.length * c
 | [], _ => by simp
 | x :: l, h => by
  have h1 := h x mem_cons_self
  have h2 := aL3 f c l fun y hy => h y (mem_cons_of_mem _ hy)
  simp only [map_cons, sum_cons, length_cons, Nat.add_mul, Nat.one_mul]
  omega
theorem small_wt {d : Disk} (h : pW d) : d.wt ≤ 300000 := by
 have := aL3 (fun y : File => y.wt) 60010 d.files h.2
 have := h.1
 unfold Disk.wt wtL
 omega
theorem lT {d : Disk} (h : bS d = true) {f : File} (hf : f ∈ d.files) : f.name.size ≤ 10 ∧ f.data.size ≤ 60000 := by
 obtain ⟨k, hk⟩ := mem_iff_getElem?.1 hf
 have h1 := ((diskOk_iff.1 h).ok k f hk)
 have h2 := h1.name
 have h3 := h1.data
 unfold gO inB at h2
 simp only [Bool.and_eq_true, decide_eq_true_eq] at h2
 omega
theorem zZ {d : Disk} (h : bS d = true) : pW d := ⟨sN h, fun f hf => by have := lT h hf; unfold File.wt; omega⟩
theorem xE {d : Disk} (h : bS d = true) {k : Nat} {y : File} (hy : y.wt ≤ 60010) : pW ⟨d.files.set k y⟩ := ⟨by show (d.files.set k y).length ≤ 4; rw [length_set]; exact sN h, fun f hf => by
 rcases mem_or_eq_of_mem_set hf with h1 | rfl
 ·exact (zZ h).2 f h1
 ·exact hy⟩
theorem aH2 {d : Disk} (h : bS d = true) {k : Nat} {to : ByteArray} (ht : to.size ≤ 10) : ∀ i, ∀ f ∈ mvG d.files k to i, f.wt ≤ 60010
 | 0, f, hf => by cases hf
 | i + 1, f, hf => by
  have ih := aH2 h (k := k) ht i
  have hf : f ∈ (match d.files[i]? with | some g => if g.name = to then mvG d.files k to i else mvG d.files k to i ++ [if i = k then mvF g to else g] | none => mvG d.files k to i) := hf
  split at hf
  ·rename_i g hg
   have hs := lT h (mem_of_getElem? hg)
   split at hf
   ·exact ih f hf
   ·rcases mem_append.1 hf with h1 | h1
    ·exact ih f h1
    ·rw [mem_singleton] at h1
     subst h1
     split
     ·show to.size + g.data.size ≤ 60010; omega
     ·unfold File.wt; omega
  ·exact ih f hf
theorem write_s (d : Disk) (nm more : ByteArray) : (eF d nm more).1 = d ∨ pW (eF d nm more).1 := by
 unfold eF
 split
 ·rename_i h; exact .inr (zZ h.2)
 exact .inl rfl
theorem sync_s (d : Disk) (nm : ByteArray) : (fR d nm).1 = d ∨ pW (fR d nm).1 := by
 unfold fR
 split
 ·rename_i h
  unfold synD
  simp only
  split
  ·rename_i f hf
   have := lT h.2 (mem_of_getElem? hf)
   exact .inr (xE h.2 (by show f.name.size + f.data.size ≤ _; omega))
  exact .inl rfl
 exact .inl rfl
theorem cut_s (d : Disk) (nm : ByteArray) (n : Int) : (cU d nm n).1 = d ∨ pW (cU d nm n).1 := by
 unfold cU
 split
 ·rename_i h
  unfold cutD
  simp only
  split
  ·rename_i f hf
   have := lT h.2.1 (mem_of_getElem? hf)
   exact .inr (xE h.2.1 (by show f.name.size + (f.data.extract 0 n.toNat).size ≤ _; rw [ByteArray.size_extract]; omega))
  exact .inl rfl
 exact .inl rfl
theorem move_s (d : Disk) (fr to : ByteArray) : (fE d fr to).1 = d ∨ pW (fE d fr to).1 := by
 unfold fE
 split
 ·rename_i h
  have h3 := h.2.2.2.1
  unfold gO inB at h3
  simp only [Bool.and_eq_true, decide_eq_true_eq] at h3
  refine .inr ⟨?_, fun f hf => aH2 h.2.1 aC _ f hf⟩
  have := yY d.files (fAt d.files fr).toNat to d.files.length
  have := sN h.2.1
  simp only
  omega
 exact .inl rfl
theorem aJ0 (d : Disk) (nm : ByteArray) : (oV d nm).1 = d ∨ pW (oV d nm).1 := by
 unfold oV
 split
 ·exact cut_s d nm 0
 exact .inl rfl
theorem op_s (e : Engine) (k : Int) : (opF e k).1 = e.disk ∨ pW (opF e k).1 := by
 unfold opF
 split
 ·exact aJ0 _ _
 split
 ·exact aJ0 _ _
 split
 ·exact write_s _ _ _
 split
 ·exact sync_s _ _
 exact move_s _ _ _
noncomputable def mstE (e : Engine) (k : Int) : Engine := (eR e k).1
theorem mst_wt (e : Engine) (k : Int) : (mstE e k).wt ≤ e.wt + 300000 := by
 unfold mstE eR
 split
 ·simp only; omega
 split
 ·show (brk e).wt ≤ _; unfold brk Engine.wt; simp only; omega
 simp only
 unfold jM Engine.wt
 simp only
 rcases op_s e k with h | h
 ·rw [h]; omega
 have := small_wt h; omega
theorem own_2 {w W : World} {b : Bool} {x : Engine} {vs : List Value} {rs : List Res} {e : Ending} (he : e = .returned (wO vs)) (hr : Rks vs [Rk.S x, Rk.B b] rs) (st : St w W rs) : ∃ (cs' : List Value) (fp' : List Nat), e = .returned (.tuple #[.agg cs'.toArray, .bool b]) ∧ St w W [Res.own (.agg cs'.toArray) x fp'] := by
 match vs, hr with
 | [v1, v2], hr =>
  obtain ⟨r1, r2, h1, h2, h6⟩ := hr
  obtain ⟨cs, fp, hv1, hr1⟩ := h1
  obtain ⟨r5, r6, h7, h8, h9⟩ := h2
  obtain ⟨hv3, hr5⟩ := h7
  have h8 : r6 = [] := h8
  subst h8 hr5 h9 hr1 h6 hv1 hv3
  refine ⟨cs, fp, he, ?_⟩
  have st2 : St w W (Res.cs cs x fp :: []) := st
  exact st2.trade1 rfl fun h => ⟨⟨cs, rfl, h.1⟩, h.2⟩
theorem lH {e : Engine} (hw : e.wt ≤ 1048576) : e.yard.wt ≤ 1048576 ∧ e.disk.files.length ≤ 1048576 ∧ e.waits.length ≤ 1048576 := by
 unfold Engine.wt Disk.wt wtL at hw
 omega
def iV (n a b : Int) : Int := if b < a then a else if n < a then a else min n b
theorem BroughtID (n a b : Int) : Ct1 prog 83 [.I n, .I a, .I b] [.I (iV n a b)] :=
 .one (iV n a b) (rk := fun x => [.I x]) <| vc func83 (fun hg => .s (b < a)
  (fun h => .rt a ⟨by unfold iV; rw [if_pos h], trivial⟩)
  (fun h => .s (n < a)
   (fun h2 => .rt a ⟨by unfold iV; rw [if_neg h, if_pos h2], trivial⟩)
   (fun h2 => .rt (min n b) ⟨by unfold iV; rw [if_neg h, if_neg h2], trivial⟩))) aD
theorem BroughtSD (n a b : Int) : Ct1 prog 117 [.I n, .I a, .I b] [.I (iV n a b)] :=
 .one (iV n a b) (rk := fun x => [.I x]) <| vc func117 (fun hg => .s (b < a)
  (fun h => .rt a ⟨by unfold iV; rw [if_pos h], trivial⟩)
  (fun h => .s (n < a)
   (fun h2 => .rt a ⟨by unfold iV; rw [if_neg h, if_pos h2], trivial⟩)
   (fun h2 => .s (b < n)
    (fun h3 => .rt b ⟨by unfold iV; rw [if_neg h, if_neg h2, Int.min_def, if_neg aC], trivial⟩)
    (fun h3 => .rt n ⟨by unfold iV; rw [if_neg h, if_neg h2, Int.min_def, if_pos aC], trivial⟩)))) aD
theorem zG (n : Int) : 0 ≤ iV n 0 5 ∧ iV n 0 5 ≤ 5 := by
 unfold iV
 rw [if_neg aC]
 split
 ·omega
 omega
noncomputable def kD (e : Engine) : Nat → Engine × Bool
 | 0 => (e, true)
 | k + 1 => if (kD e k).2 = true then eR (kD e k).1 k else kD e k
noncomputable def tM (e : Engine) (n : Int) : Engine × Bool := kD e (iV n 0 5).toNat
theorem mrk_step {e : Engine} {k : Nat} (h : (kD e k).2 = true) : kD e (k + 1) = eR (kD e k).1 k := by
 show (if _ then _ else _) = _
 rw [if_pos h]
theorem aA5 {e : Engine} {k : Nat} (h : (kD e k).2 = false) : ∀ j, kD e (k + j) = kD e k
 | 0 => rfl
 | j + 1 => by
  show (if (kD e (k + j)).2 = true then eR (kD e (k + j)).1 ((k + j : Nat) : Int) else kD e (k + j)) = _
  rw [aA5 h j, if_neg (by rw [h]; simp)]
theorem mst_yw (e : Engine) (k : Int) : (eR e k).1.yard = e.yard ∧ (eR e k).1.waits = e.waits := by
 unfold eR
 split
 ·exact ⟨rfl, rfl⟩
 split
 ·exact ⟨rfl, rfl⟩
 exact ⟨rfl, rfl⟩
theorem mst_fl (e : Engine) (k : Int) (h : e.disk.files.length ≤ 1048576) : (eR e k).1.disk.files.length ≤ 1048576 := by
 unfold eR
 split
 ·exact h
 split
 ·exact h
 show (opF e k).1.files.length ≤ _
 rcases op_s e k with h1 | h1
 ·rw [h1]; exact h
 have := h1.1; omega
structure MkJ (e : Engine) (n : Int) (g : Nat × Engine) : Prop where
 le : (g.1 : Int) ≤ iV n 0 5
 ok : kD e g.1 = (g.2, true)
 yard : g.2.yard = e.yard
 waits : g.2.waits = e.waits
 files : g.2.disk.files.length ≤ 1048576
 good : g.2.ok
theorem MkJ.start {e : Engine} (n : Int) (h : e.disk.files.length ≤ 1048576) (hg : e.ok) : MkJ e n (0, e) := ⟨(zG n).1, rfl, rfl, rfl, h, hg⟩
theorem MkJ.next_ {e : Engine} {n : Int} {g : Nat × Engine} (h : MkJ e n g) : kD e (g.1 + 1) = eR g.2 g.1 := by
 have := mrk_step (e := e) (k := g.1) (by rw [h.ok])
 rw [this, h.ok]
theorem MkJ.step {e : Engine} {n : Int} {g : Nat × Engine} (h : MkJ e n g) (hk : (g.1 : Int) < iV n 0 5) (ht : (eR g.2 g.1).2 = true) (hg : (eR g.2 g.1).1.ok) : MkJ e n (g.1 + 1, (eR g.2 g.1).1) := by
 have e1 := h.next_
 have h2 := mst_yw g.2 g.1
 exact ⟨by show ((g.1 + 1 : Nat) : Int) ≤ _; omega, by show kD e (g.1 + 1) = _; rw [e1, ← ht], h2.1.trans h.yard, h2.2.trans h.waits, mst_fl _ _ h.files, hg⟩
theorem aA6 {e : Engine} {n : Int} {g : Nat × Engine} (h : MkJ e n g) (hk : (g.1 : Int) < iV n 0 5) (hf : (eR g.2 g.1).2 = false) : ((eR g.2 g.1).1, false) = tM e n := by
 have e1 := h.next_
 unfold tM
 obtain ⟨j, hj⟩ : ∃ j, (iV n 0 5).toNat = (g.1 + 1) + j := ⟨(iV n 0 5).toNat - (g.1 + 1), by omega⟩
 rw [hj, aA5 (by rw [e1]; exact hf) j, e1, ← hf]
theorem aH4 {e : Engine} {n : Int} {g : Nat × Engine} (h : MkJ e n g) (hk : ¬ (g.1 : Int) < iV n 0 5) : (g.2, true) = tM e n := by
 unfold tM
 have : (iV n 0 5).toNat = g.1 := by have := h.le; omega
 rw [this, h.ok]
theorem MarkI (e : Engine) (n : Int) (hw : e.yard.wt ≤ 1048576) (hl : e.disk.files.length ≤ 1048576) (hs : e.waits.length ≤ 1048576) : Ct1 prog 19 [.S e, .I n] [.S (tM e n).1, .B (tM e n).2] :=
 .one (tM e n) (rk := fun p => [.S p.1, .B p.2]) <| vc func19 (fun (hg : gin [Par.S e, Par.I n]) => .c func82 (nN e hw hl hs) (hg := ⟨hg.1.1, trivial⟩) fun _ => .l (Γ := Nat × Engine) (fun g => MkJ e n g) (fun g => (iV n 0 5).toNat - g.1) [1, 2, 4, 6] [4, 5] [0, 1, 2, 3] (fun g => [vI 7 g.1]) (fun g => [oO 6 (g.2.yard.shelf), oO 7 (g.2.yard.runs), oO 8 (g.2.disk.files), oO 9 (g.2.waits), oB 10 [.v (I g.2.yard.now), .v (I g.2.yard.seq), .r 6, .r 7, .r 8, .v (I g.2.next), .v (I g.2.calls), .r 9, .v (I g.2.state), .b g.2.broken]]) (0, e) (h := MkJ.start n hl hg.1.1) fun g hJ t =>
    .c func83 (BroughtID n 0 5) fun _ => .s ((g.1 : Int) < iV n 0 5)
     (fun h => let hkl := zG n
     .c func23 (MarkStepI g.2 g.1 (by rw [hJ.yard]; exact hw) hJ.files (by rw [hJ.waits]; exact hs)) (hg := ⟨hJ.good, trivial⟩) fun hq => .v (eR g.2 g.1).2
     (fun hf => .rt ((eR g.2 g.1).1, false) ⟨aA6 hJ h hf, hq.1.1, trivial⟩)
     (fun ht => .p g.1 1 (h := by unfold I64; omega) <| .n t (g.1 + 1, (eR g.2 g.1).1) [(6, 11), (7, 12), (8, 13), (9, 14)] (hJ.step h ht hq.1.1) (by dsimp only; omega)))
     (fun h => .rt (g.2, true) ⟨aH4 hJ h, hJ.good, trivial⟩)) aD
theorem MarkS (e : Engine) (n : Int) (hw : e.yard.wt ≤ 1048576) (hl : e.disk.files.length ≤ 1048576) (hs : e.waits.length ≤ 1048576) : Ct1 prog 47 [.S e, .I n] [.S (tM e n).1, .B (tM e n).2] :=
 .one (tM e n) (rk := fun p => [.S p.1, .B p.2]) <| vc func47 (fun (hg : gin [Par.S e, Par.I n]) => .c func117 (BroughtSD n 0 5) fun _ => .c func79 (fO e hw hl hs) (hg := ⟨hg.1.1, trivial⟩) fun _ => .l (Γ := Nat × Engine) (fun g => MkJ e n g) (fun g => (iV n 0 5).toNat - g.1) [1, 2, 4, 6] [4, 5] [0, 1, 2, 3] (fun g => [vI 7 g.1]) (fun g => [oO 6 (g.2.yard.shelf), oO 7 (g.2.yard.runs), oO 8 (g.2.disk.files), oO 9 (g.2.waits), oB 10 [.v (I g.2.yard.now), .v (I g.2.yard.seq), .r 6, .r 7, .r 8, .v (I g.2.next), .v (I g.2.calls), .r 9, .v (I g.2.state), .b g.2.broken]]) (0, e) (h := MkJ.start n hl hg.1.1) fun g hJ t =>
    .s ((g.1 : Int) < iV n 0 5)
     (fun h => let hkl := zG n
     .c func42 (MarkStepS g.2 g.1 (by rw [hJ.yard]; exact hw) hJ.files (by rw [hJ.waits]; exact hs)) (hg := ⟨hJ.good, trivial⟩) fun hq => .v (eR g.2 g.1).2
     (fun hf => .rt ((eR g.2 g.1).1, false) ⟨aA6 hJ h hf, hq.1.1, trivial⟩)
     (fun ht => .p g.1 1 (h := by unfold I64; omega) <| .n t (g.1 + 1, (eR g.2 g.1).1) [(6, 11), (7, 12), (8, 13), (9, 14)] (hJ.step h ht hq.1.1) (by dsimp only; omega)))
     (fun h => .rt (g.2, true) ⟨aH4 hJ h, hJ.good, trivial⟩)) aD
noncomputable def kE (e : Engine) (n : Int) : Engine := (tM e n).1
noncomputable def oK (e : Engine) (n : Int) : Bool := (tM e n).2
theorem mrkG_succ (e : Engine) (k : Nat) : kD e (k + 1) = if (kD e k).2 = true then eR (kD e k).1 k else kD e k := rfl
theorem aH5 (e : Engine) (c : Nat) (hc : ∀ e k, (eR e k).1.wt ≤ e.wt + c) : ∀ k, (kD e k).1.wt ≤ e.wt + k * c
 | 0 => by rw [Nat.zero_mul]; exact Nat.le_refl _
 | k + 1 => by
  have ih := aH5 e c hc k
  rw [mrkG_succ, Nat.add_mul, Nat.one_mul]
  split
  ·have := hc (kD e k).1 k
   omega
  ·omega
theorem five_ (a b m c d : Nat) (h1 : a ≤ b + m * c) (h : m ≤ 5) (hd : 5 * c ≤ d) : a ≤ b + d := by
 have : m * c ≤ 5 * c := Nat.mul_le_mul_right c h
 omega
theorem mrk_wt (e : Engine) (n : Int) : (kE e n).wt ≤ e.wt + 1500000 :=
 five_ _ _ _ 300000 1500000 (aH5 e 300000 mst_wt _) (by have := zG n; omega) aU
theorem aP6 {e : Engine} (hc : Shape.C w cs e fp) (k : Int) (hw : e.wt ≤ 1048576) : Calls prog 19 #[.agg cs.toArray, I k] w fun r W => ∃ (cs' : List Value) (fp' : List Nat), r = .returned (.tuple #[.agg cs'.toArray, .bool (oK e k)]) ∧ St w W [Res.own (.agg cs'.toArray) (kE e k) fp'] :=
 ((MarkI e k (lH hw).1 (lH hw).2.1 (lH hw).2.2).run w [.agg cs.toArray, I k] trivial ⟨⟨cs, fp, rfl, hc⟩, rfl, trivial⟩).mono fun r W ⟨_, vs, rs, _, he, hr, st⟩ => own_2 he hr st
theorem MarkSC {e : Engine} (hc : Shape.C w cs e fp) (k : Int) (hw : e.wt ≤ 1048576) : Calls prog 47 #[.agg cs.toArray, I k] w fun r W => ∃ (cs' : List Value) (fp' : List Nat), r = .returned (.tuple #[.agg cs'.toArray, .bool (oK e k)]) ∧ St w W [Res.own (.agg cs'.toArray) (kE e k) fp'] :=
 ((MarkS e k (lH hw).1 (lH hw).2.1 (lH hw).2.2).run w [.agg cs.toArray, I k] trivial ⟨⟨cs, fp, rfl, hc⟩, rfl, trivial⟩).mono fun r W ⟨_, vs, rs, _, he, hr, st⟩ => own_2 he hr st
def dch (k : Nat) : ByteArray := ⟨#[UInt8.ofNat (48 + k % 10)]⟩
def wQ (k : Nat) (out : ByteArray) : ByteArray := if h : k = 0 then out else wQ (k / 10) (dch k ++ out)
termination_by k
decreasing_by omega
theorem aO1 (out : ByteArray) : wQ 0 out = out := by rw [wQ]; simp
theorem aO0 {k : Nat} (h : 0 < k) (out : ByteArray) : wQ k out = wQ (k / 10) (dch k ++ out) := by
 conv => lhs; rw [wQ]
 rw [dif_neg aC]
theorem figs_size : ∀ (k : Nat) (out : ByteArray), (wQ k out).size ≤ k + out.size := by
 intro k
 induction k using Nat.strongRecOn with
 | _ k ih =>
  intro out
  by_cases h : k = 0
  ·subst h; rw [aO1]; omega
  rw [aO0 aC]
  have := ih (k / 10) aC (dch k ++ out)
  rw [ByteArray.size_append] at this
  have e : (dch k).size = 1 := rfl
  omega
def bM : ByteArray := ⟨#[109]⟩
def bM0 : ByteArray := ⟨#[109, 48]⟩
def fY (k : Int) : ByteArray := if k ≤ 0 then bM0 else bM ++ wQ k.toNat ⟨#[]⟩

theorem dch_eq (K : Nat) : (⟨#[UInt8.ofNat (48 + (K : Int) % 10).toNat]⟩ : ByteArray) = dch K := by
 have : (48 + (K : Int) % 10).toNat = 48 + K % 10 := by omega
 rw [this]; rfl
theorem vK {k : Int} (h : k ≤ 4611686018427387904) : (fY k).size ≤ maxLen := by
 unfold fY maxLen
 split
 ·show 2 ≤ _; omega
 rw [ByteArray.size_append]
 have := figs_size k.toNat ⟨#[]⟩
 have e1 : bM.size = 1 := rfl
 have e2 : (⟨#[]⟩ : ByteArray).size = 0 := rfl
 omega
theorem size_app (a b : ByteArray) : (a ++ b).size = a.size + b.size := ByteArray.size_append

theorem lZ (k : Int) (hk : k ≤ 4611686018427387904) :
  Calls prog 247 #[I k] w fun e w' => e = .returned (.string (fY k)) ∧ St w w' [] := by
 refine cC func247 rfl ntmps247 aU (wp_seq (aA (sg (aF (v := .string (⟨#[]⟩ : ByteArray)) rfl (aB (wp_seq (wp_seq (aA (sg (aG (v := I k) rfl (sg (aG8 rfl rfl (aB (aK rfl (fun h5p => ?_) (fun h5p => ?_)))))))))))))))
 ·refine wp_seq (aA (sg (aF (v := .string (⟨#[109, 48]⟩ : ByteArray)) rfl (aB (wr (aM results247 rfl ?_))))))
  exact ⟨congrArg (fun z => Ending.returned (.string z)) (by unfold fY; rw [if_pos aC]; rfl), (St.start w).bare⟩
 refine wp_skip (wp_seq (aA (sg (aF (v := .string (⟨#[]⟩ : ByteArray)) rfl (aB (wp_seq (wp_block (aQ (fun (m : Nat) (f : Nat → Value) (W : World) => ∃ (K : Nat) (out : ByteArray), wQ K out = wQ k.toNat ⟨#[]⟩ ∧ out.size + K ≤ k.toNat ∧ m = 2 * K ∧ Ag [(0, I (K : Int)), (3, .string out)] f ∧ St w W ([])) (2 * k.toNat) ?_ ?_))))))))
 ·exact ⟨k.toNat, ⟨#[]⟩, rfl, (by show 0 + _ ≤ _; omega), rfl, (Ag.cons (Eq.trans (show _ = I k from rfl) (show I k = I ((k.toNat : Nat) : Int) from congrArg I aC)) (Ag.cons rfl Ag.nil)), (St.start w)⟩
 intro m10 f11 W12 hJ13
 obtain ⟨K, out, hfig, hsz, rfl, hA15, st14⟩ := hJ13
 refine wp_seq (wp_seq (aA (sg (aG (hA15.at 0) (sg (yN rfl rfl (aB (aK rfl (fun h18p => ?_) (fun h18p => ?_)))))))))
 ·refine wp_skip (wp_block (wp_seq (aA (rn st14 3 hA15.put.put [] [(10, I (48 + ((K : Int) % 10)))] [qq (K : Int) 10, .ad 48 ((K : Int) % 10) (by (simp only [I64]; omega))] aD fun f20 h20_ => (sg (mW aD underlying5 (h20_.at 10) aC (sg (aZ (cs := [.int .u8 (48 + ((K : Int) % 10))]) (e := 5) (eS (v := .int .u8 (48 + ((K : Int) % 10))) rfl jD) (bT eX _ _ rfl rfl aU) st14 ?_)))))))); intro b21 W22 hb23 st24
  refine sg (stp_str1 underlying22 underlying5 underlying9 rfl (st24.get 0 rfl) aC (sg (aG (h20_.at 3) (sg (uG rfl rfl (by show 1 + out.size ≤ _; omega) (sg (aF (v := .string ((⟨#[UInt8.ofNat (48 + ((K : Int) % 10)).toNat]⟩ : ByteArray) ++ out)) rfl (aB (aA (rn st24 3 h20_.put.put.put.put.put.put [0] [(0, I ((K : Int) / 10))] [qq (K : Int) 10] aD fun f31 h31_ => (aB ?_)))))))))))
  exact ⟨_, 2 * (K / 10), aC, rfl, K / 10, (dch K ++ out), (by rw [← aO0 aC]; exact hfig), (by rw [size_app]; show 1 + _ + _ ≤ _; omega), rfl, (Ag.cons (Eq.trans (show _ = I ((K : Int) / 10) from (h31_.at 0)) (show _ = I ((K / 10 : Nat) : Int) from congrArg I aC)) (Ag.cons (Eq.trans (show _ = (.string ((⟨#[UInt8.ofNat (48 + ((K : Int) % 10)).toNat]⟩ : ByteArray) ++ out) : Value) from (h31_.at 3)) (show _ = Value.string (dch K ++ out) from by rw [dch_eq])) Ag.nil)), st24.d0⟩
 refine wp_exit (wp_seq (aA (sg (aG (hA15.at 3) (sg (uG rfl rfl (by show 1 + out.size ≤ _; omega) (sg (aF (v := .string ((⟨#[109]⟩ : ByteArray) ++ out)) rfl (aB (wr (aM results247 rfl ?_)))))))))))
 obtain rfl : K = 0 := by omega
 rw [aO1] at hfig
 exact ⟨congrArg (fun z => Ending.returned (.string z)) (by unfold fY; rw [if_neg aC, ← hfig]; rfl), st14.bare⟩
def mkL {α : Type} (f : α → Int → α) (n : α → Nat) : List α → Int → List α
 | [], _ => []
 | x :: xs, k => f x k :: mkL f n xs (k + (n x : Nat))
def cL {α : Type} (n : α → Nat) (xs : List α) : Nat := (xs.map n).sum
section
variable {α : Type} {f : α → Int → α} {n : α → Nat}
theorem cY : ∀ (xs : List α) (k : Int), (mkL f n xs k).length = xs.length
 | [], _ => rfl
 | x :: xs, k => by simp [mkL, cY xs]
theorem cL_take (n : α → Nat) (xs : List α) (i : Nat) (h : i < xs.length) : cL n (xs.take (i + 1)) = cL n (xs.take i) + n xs[i] := mS n xs i h
theorem dI (n : α → Nat) (xs : List α) (i : Nat) : cL n (xs.take i) ≤ cL n xs := fH n xs i
theorem gU (n : α → Nat) (xs : List α) (i : Nat) (h : i = xs.length) : cL n (xs.take i) = cL n xs := by subst h; rw [take_length]
theorem pJ : ∀ (xs ys : List α) (k : Int), mkL f n (xs ++ ys) k = mkL f n xs k ++ mkL f n ys (k + (cL n xs : Nat))
 | [], ys, k => by simp [mkL, cL]
 | x :: xs, ys, k => by
  simp only [cons_append, mkL, pJ xs ys, cL, map_cons, sum_cons]
  congr 3
  push_cast; omega
theorem mk_get? {xs : List α} {k : Int} {i : Nat} (h : i < xs.length) : (mkL f n (xs.take i) k ++ xs.drop i)[i]? = some xs[i] := by
 have hl : (mkL f n (xs.take i) k).length = i := by rw [cY, length_take]; omega
 rw [getElem?_append_right aC, hl, Nat.sub_self, getElem?_drop, Nat.add_zero, getElem?_eq_getElem h]
theorem mk_step {xs : List α} {k K : Int} {i : Nat} (h : i < xs.length) (hK : K = k + (cL n (xs.take i) : Nat)) : (mkL f n (xs.take i) k ++ xs.drop i).set i (f xs[i] K) = mkL f n (xs.take (i + 1)) k ++ xs.drop (i + 1) := by
 have hl : (mkL f n (xs.take i) k).length = i := by rw [cY, length_take]; omega
 rw [set_append_right _ _ aC, hl, Nat.sub_self, drop_eq_getElem_cons h, set_cons_zero, take_succ_eq_append_getElem h, pJ, append_assoc]
 subst hK
 rfl
theorem pI {xs : List α} {k : Int} {i : Nat} (h : i = xs.length) : mkL f n (xs.take i) k ++ xs.drop i = mkL f n xs k := by subst h; simp
theorem mk_get {xs : List α} {k : Int} {i : Nat} (h : i < xs.length) : (mkL f n xs k)[i]? = some (f xs[i] (k + (cL n (xs.take i) : Nat))) := by
 have e : xs = xs.take i ++ xs.drop i := by simp
 have hl : (mkL f n (xs.take i) k).length = i := by rw [cY, length_take]; omega
 conv => lhs; rw [e, pJ]
 rw [getElem?_append_right aC, hl, Nat.sub_self, drop_eq_getElem_cons h]
 rfl
theorem idxm [Shape α] {w : World} {v : Value} {xs : List α} {fp : List Nat} {k K : Int} (hs : Sl w v (mkL f n xs k) fp) {i : Nat} (hi : i < xs.length) (hK : K = k + (cL n (xs.take i) : Nat)) : ∃ b o cs f1, PA v (Shape.size α) i b o ∧ w.rangeAt b o cs ∧ Shape.C w cs (f xs[i] K) f1 ∧ ∀ c ∈ b :: f1, c ∈ fp := by
 obtain ⟨b, o, cs, f1, h1, h2, h3, h4⟩ := idx hs (i := i) (by rw [cY]; exact hi)
 refine ⟨b, o, cs, f1, h1, h2, ?_, h4⟩
 have := mk_get (f := f) (n := n) (xs := xs) (k := k) hi
 obtain ⟨hl, he⟩ := gsi_.1 this
 rw [he, ← hK] at h3
 exact h3
end
section
variable {α : Type} {f : α → Int → α} {n : α → Nat}
theorem eL (n : α → Nat) {xs : List α} {i : Nat} {y : α} (h : xs[i]? = some y) : cL n (xs.take (i + 1)) = cL n (xs.take i) + n y := by
 obtain ⟨hl, rfl⟩ := gsi_.1 h
 exact cL_take n xs i hl
theorem lY {xs : List α} {k : Int} {i : Nat} {y : α} (h : xs[i]? = some y) : (mkL f n (xs.take i) k ++ xs.drop i)[i]? = some y := by
 obtain ⟨hl, rfl⟩ := gsi_.1 h
 exact mk_get? hl
theorem jV {xs : List α} {k K : Int} {i : Nat} {y : α} (h : xs[i]? = some y) (hK : K = k + (cL n (xs.take i) : Nat)) : (mkL f n (xs.take i) k ++ xs.drop i).set i (f y K) = mkL f n (xs.take (i + 1)) k ++ xs.drop (i + 1) := by
 obtain ⟨hl, rfl⟩ := gsi_.1 h
 exact mk_step hl hK
theorem vP [Shape α] {w : World} {v : Value} {xs : List α} {fp : List Nat} {k K : Int} {y : α} (hs : Sl w v (mkL f n xs k) fp) {i : Nat} (hi : xs[i]? = some y) (hK : K = k + (cL n (xs.take i) : Nat)) : ∃ b o cs f1, PA v (Shape.size α) i b o ∧ w.rangeAt b o cs ∧ Shape.C w cs (f y K) f1 ∧ ∀ c ∈ b :: f1, c ∈ fp := by
 obtain ⟨hl, rfl⟩ := gsi_.1 hi
 exact idxm hs hl hK
end
theorem fC {α : Type} {xs : List α} {i : Nat} (h : i < xs.length) : ∃ y, xs[i]? = some y := ⟨_, getElem?_eq_getElem h⟩
def Bd (x : Int) (r : Nat) : Prop := 0 ≤ x ∧ x + r ≤ 4611686018427387904
theorem Bd.up {x : Int} {r : Nat} (h : Bd x (1 + r)) : Bd (x + 1) r := by unfold Bd at *; omega
theorem Bd.upc {x : Int} {c r : Nat} (h : Bd x (c + r)) : Bd (x + (c : Nat)) r := by unfold Bd at *; omega
theorem Bd.i64 {x : Int} {r : Nat} (h : Bd x r) : I64 x := by unfold Bd I64 at *; omega
theorem Bd.lo {x : Int} {r : Nat} (h : Bd x r) : 0 ≤ x := h.1
theorem Bd.hi {x : Int} {c r : Nat} (h : Bd x (c + r)) : x + (c : Nat) ≤ 4611686018427387904 := by unfold Bd at *; omega
def aS (x : Edge) : Nat := 2
def gB (x : Edge) (k : Int) : Edge := ⟨k, k + 1⟩

def aJ (x : Entry) : Nat := 4
def cZ (x : Entry) (k : Int) : Entry := ⟨k, k + 1, (k + 1) + 1, ((k + 1) + 1) + 1⟩

def bL (x : Task) : Nat := 4
def fZ (x : Task) (k : Int) : Task := ⟨k, k + 1, (k + 1) + 1, ((k + 1) + 1) + 1⟩

def bU (x : Run) : Nat := 6 + cL aS x.plan.edges + cL bL x.tasks
def iK (x : Run) (k : Int) : Run := ⟨k, ⟨k + 1, (k + 1) + 1, ((k + 1) + 1) + 1, (((k + 1) + 1) + 1) + 1, mkL gB aS x.plan.edges (((((k + 1) + 1) + 1) + 1) + 1)⟩, (((((k + 1) + 1) + 1) + 1) + 1) + (cL aS x.plan.edges : Nat), mkL fZ bL x.tasks (((((((k + 1) + 1) + 1) + 1) + 1) + (cL aS x.plan.edges : Nat)) + 1)⟩

def bP (x : Yard) : Nat := cL (cL aJ) x.shelf + cL bU x.runs
def qQ (x : Yard) (k : Int) : Yard := ⟨x.now, x.seq, mkL (mkL cZ aJ) (cL aJ) x.shelf k, mkL iK bU x.runs (k + (cL (cL aJ) x.shelf : Nat))⟩

def bQ (x : Wait) : Nat := 5
def gP (x : Wait) (k : Int) : Wait := ⟨k, ⟨k + 1, (k + 1) + 1, ((k + 1) + 1) + 1, (((k + 1) + 1) + 1) + 1⟩⟩

def bJ (x : File) : Nat := 3
def gA (x : File) (k : Int) : File := ⟨fY k, fY (k + 1), (k + 1) + 1⟩

def cG (x : Disk) : Nat := cL bJ x.files
def qS (x : Disk) (k : Int) : Disk := ⟨mkL gA bJ x.files k⟩

def cB (x : Engine) : Nat := bP x.yard + cG x.disk + cL bQ x.waits
def jW (x : Engine) (k : Int) : Engine := ⟨qQ x.yard k, qS x.disk (k + (bP x.yard : Nat)), x.next, x.calls, mkL gP bQ x.waits ((k + (bP x.yard : Nat)) + (cG x.disk : Nat)), x.state, x.broken⟩

/-! ### How many numbers the marks take -/
theorem rI {α : Type} {n f : α → Nat} (h : ∀ x, n x ≤ 16 * (1 + f x)) : ∀ xs : List α, cL n xs ≤ 16 * wtL f xs
 | [] => by simp [cL, wtL]
 | x :: xs => by
  have h1 := h x
  have h2 := rI h xs
  simp only [cL, wtL, map_cons, sum_cons, length_cons] at *
  omega
theorem rH {α : Type} {n : α → Nat} {c : Nat} (h : ∀ x, n x ≤ c) : ∀ xs : List α, cL n xs ≤ c * xs.length
 | [] => by simp [cL]
 | x :: xs => by
  have h1 := h x
  have h2 := rH h xs
  simp only [cL, map_cons, sum_cons, length_cons, Nat.mul_add] at *
  omega

theorem cb_EdgeS (xs : List Edge) : cL aS xs ≤ 16 * xs.length := Nat.le_trans (rH (n := aS) (c := 16) (fun y => by simp [aS]) xs) (Nat.le_refl _)
theorem cb_EntryS (xs : List Entry) : cL aJ xs ≤ 16 * xs.length := Nat.le_trans (rH (n := aJ) (c := 16) (fun y => by simp [aJ]) xs) (Nat.le_refl _)
theorem cb_TaskS (xs : List Task) : cL bL xs ≤ 16 * xs.length := Nat.le_trans (rH (n := bL) (c := 16) (fun y => by simp [bL]) xs) (Nat.le_refl _)
theorem nb_Run (x : Run) : bU x ≤ 16 * (1 + x.wt) := by
 have h0 := cb_EdgeS x.plan.edges; have h1 := cb_TaskS x.tasks; simp only [bU, Plan.wt, Run.wt, Yard.wt, Deed.wt, Note.wt, File.wt, Disk.wt, Engine.wt, WorldD.wt, ActD.wt, Span.wt, Crew.wt] at *; omega
theorem cb_RunS (xs : List Run) : cL bU xs ≤ 16 * (wtL (fun y : Run => y.wt) xs) := rI (n := bU) (f := fun y : Run => y.wt) (fun y => nb_Run y) xs
theorem cb_EntrySS (xs : List (List Entry)) : cL (cL aJ) xs ≤ 16 * (wtL (fun y : List Entry => y.length) xs) := rI (n := cL aJ) (f := fun y : List Entry => y.length) (fun y => by have := cb_EntryS y; omega) xs
theorem nt_Yard (x : Yard) : bP x ≤ 16 * x.wt := by
 have h2 := cb_EntrySS x.shelf; have h3 := cb_RunS x.runs; unfold bP; have hw : x.wt = (wtL (fun y : List Entry => y.length) x.shelf) + (wtL (fun y : Run => y.wt) x.runs) := rfl; omega
theorem cb_WaitS (xs : List Wait) : cL bQ xs ≤ 16 * xs.length := Nat.le_trans (rH (n := bQ) (c := 16) (fun y => by simp [bQ]) xs) (Nat.le_refl _)
theorem nb_File (x : File) : bJ x ≤ 16 * (1 + x.wt) := by unfold bJ; omega
theorem cb_FileS (xs : List File) : cL bJ xs ≤ 16 * (wtL (fun y : File => y.wt) xs) := rI (n := bJ) (f := fun y : File => y.wt) (fun y => nb_File y) xs
theorem nt_Disk (x : Disk) : cG x ≤ 16 * x.wt := by
 have h0 := cb_FileS x.files; unfold cG; have hw : x.wt = (wtL (fun y : File => y.wt) x.files) := rfl; omega
theorem nX (x : Engine) : cB x ≤ 16 * x.wt := by
 have h0 := nt_Yard x.yard; have h1 := nt_Disk x.disk; have h4 := cb_WaitS x.waits; unfold cB; have hw : x.wt = x.yard.wt + x.disk.wt + x.waits.length := rfl; omega
theorem markEdgeS_n {w W0 : World} {rs : List Res} {v : Value} {xs : List Edge} {fp : List Nat} (hst : St w W0 (Res.own v xs fp :: rs)) (k : Int) (h0 : 0 ≤ k) (hk : k + (cL aS xs : Nat) ≤ 4611686018427387904) :
  Calls prog 175 #[v, I k] W0 fun e w' => ∃ fp', e = .returned (I (k + (cL aS xs : Nat))) ∧ St w w' (Res.own v (mkL gB aS xs k) fp' :: rs) := by
 have hcap := (aR (hst.get 0 rfl)).len_le
 refine bC func175 rfl ntmps175 aU (wp_seq (aA (sg (aE (aB (wp_seq (wp_seq (aA (sg (aE (aB (wp_block (aQ (fun (m : Nat) (f : Nat → Value) (W : World) => ∃ (i : Nat) (K : Int) (fo5 : List Nat), i ≤ xs.length ∧ K = k + (cL aS (xs.take i) : Nat) ∧ m = xs.length - i ∧ Ag [(0, v), (1, I K), (5, I (i : Int))] f ∧ St w W (Res.own (α := List Edge) v (mkL gB aS (xs.take i) k ++ xs.drop i) fo5 :: rs)) (xs.length - 0) ?_ ?_)))))))))))))
 ·exact ⟨0, k, fp, Nat.zero_le _, (by simp [cL]), rfl, (Ag.nil.put.put.put.put.to aD), (by simpa [mkL] using hst)⟩
 intro m6 f7 W8 hJ9
 obtain ⟨i, K, fo5, hi, hK, rfl, hA11, st10⟩ := hJ9
 have hlx : (mkL gB aS (xs.take i) k ++ xs.drop i).length = xs.length := by rw [length_append, cY, length_take, length_drop]; omega
 refine wp_seq (wp_seq (aA (rn st10 4 hA11 [] [(9, .bool (decide ((i : Int) < ((mkL gB aS (xs.take i) k ++ xs.drop i).length : Int))))] [ql (aR (st10.get 0 rfl)), .o] aD fun f13 h13_ => (aB (aK (h13_.at 9) (fun h14p => ?_) (fun h14p => ?_))))))
 ·refine wp_skip (wp_seq (wp_block (wp_seq (aA (rn st10 3 h13_ [] [(12, v), (13, I (i : Int)), (14, I K)] [] aD fun f16 h16_ => ?_)))))
  have hq_ := fC (xs := xs) (i := i) aC
  obtain ⟨y, hy⟩ := hq_
  have hcs := eL aS hy
  have hcl := dI aS xs (i + 1)
  have hne : aS y = 2 := rfl
  have hb17 : Bd K (1 + (1 + (0))) := ⟨by omega, by omega⟩
  have hq_ := St.lendx (α := Edge) aU st10 (x := y) (lY hy)
  obtain ⟨b18, e18, pre18, cs18, post18, fi18, fr18, hPA18, hC18, st19⟩ := hq_
  obtain ⟨he18, hf18, hok18⟩ := hC18; have he18 : _ = [I y.from_, I y.to_] := he18; subst he18
  refine sg (aY kX (h16_.at 12) hPA18 (h16_.at 13) rfl (sg (aL yA rfl (sgn (bB (i := 0) (v := I K) aD rfl (h16_.at 14) rfl rfl st19.d1 rfl bX rfl ?_))))); intro W26 st27
  refine aB (wp_seq (aA ?_))
  have hb29 := hb17.up
  refine rn st27 3 h16_.put.put [1] [(1, I (K + 1))] [.ad K 1 hb29.i64] aD fun f30 h30_ => (aB (wp_seq (aA (rn st27 5 h30_ [] [(21, I (K + 1)), (23, .pointer (some ⟨b18, pre18.length + 1, none⟩))] [qx hPA18] aD fun f32 h32_ => (sgn (bB (i := 1) (v := I (K + 1)) aD (h32_.at 23) (h32_.at 21) rfl rfl st27 rfl bX rfl ?_)))))); intro W33 st34
  refine aB (aA ?_)
  have hb36 := hb29.up
  refine rn st34 3 h32_ [1] [(1, I ((K + 1) + 1))] [.ad (K + 1) 1 hb36.i64] aD fun f37 h37_ => (aB (aA (rn st34 3 h37_ [5] [(5, I ((i : Int) + 1))] [qad (i : Int) 1] aD fun f39 h39_ => (aB ?_))))
  have st40 := st34.cs0 (cs := [I K, I (K + 1)]) (x := (⟨K, K + 1⟩ : Edge)) ⟨rfl, rfl, eQ⟩
  obtain ⟨fp45, st46⟩ := St.give (α := Edge) st40.f2.f1.f2
  exact ⟨_, xs.length - (i + 1), aC, rfl, i + 1, (K + 1) + 1, fp45, aC, aC, rfl, (h39_.to aD), (by rw [← jV hy hK]; exact st46)⟩
 refine wp_exit (wp_seq (aA (sg (aG (h13_.at 1) (sg (aF (v := I K) rfl (aB (wr (aM results175 rfl ?_)))))))))
 obtain rfl : i = xs.length := by omega
 have hca := gU aS xs _ rfl
 rw [pI rfl] at st10
 exact ⟨_, fI aC, st10⟩
theorem heldEdgeS_n {v : Value} {x : List Edge} {fp : List Nat} {k : Int} (h : Sl w v (mkL gB aS x k) fp) (h0 : 0 ≤ k) (hk : k + (cL aS x : Nat) ≤ 4611686018427387904) :
  Calls prog 251 #[v, I k] w (rI_ (k + (cL aS x : Nat)) w) := by
 have hcap := h.len_le
 rw [cY] at hcap
 have hml : (mkL gB aS x k).length = x.length := cY _ _
 refine bC func251 rfl ntmps251 aU (wp_seq (aA (sg (aE (aB (wp_seq (wp_seq (aA (sg (aE (aB (wp_block (aQ (fun (m : Nat) (f : Nat → Value) (W : World) => ∃ (i : Nat) (K : Int), i ≤ x.length ∧ K = k + (cL aS (x.take i) : Nat) ∧ m = x.length - i ∧ Ag [(0, v), (1, I K), (5, I (i : Int))] f ∧ St w W ([])) (x.length - 0) ?_ ?_)))))))))))))
 ·exact ⟨0, k, Nat.zero_le _, (by simp [cL]), rfl, (Ag.nil.put.put.put.put.to aD), (St.start w)⟩
 intro m5 f6 W7 hJ8
 obtain ⟨i, K, hi, hK, rfl, hA10, st9⟩ := hJ8
 refine wp_seq (wp_seq (aA (rn st9 4 hA10 [] [(9, .bool (decide ((i : Int) < ((mkL gB aS x k).length : Int))))] [ql h, .o] aD fun f12 h12_ => (aB (aK (h12_.at 9) (fun h13p => ?_) (fun h13p => ?_))))))
 ·refine wp_skip (wp_seq (wp_block (wp_seq (wp_seq (aA (sg (aG (h12_.at 0) (sg (aG (h12_.at 5) ?_)))))))))
  have hq_ := fC (xs := x) (i := i) aC
  obtain ⟨y, hy⟩ := hq_
  have hcs := eL aS hy
  have hcl := dI aS x (i + 1)
  have hne : aS y = 2 := rfl
  have hb17 : Bd K (1 + (1 + (0))) := ⟨by omega, by omega⟩
  obtain ⟨b16, o16, cs16, f16, hp16, hr16, hc16, hm16⟩ := vP h hy hK
  have hk18 := hc16
  obtain ⟨he18, rfl, hok18⟩ := hk18
  have he18 : _ = [I K, I (K + 1)] := he18; subst he18
  refine rn st9 5 h12_.put.put [] [(18, .bool (!decide (K = K)))] [qx hp16, qr hr16 0, .o] aD fun f20 h20_ => (aB (bE (h20_.at 18) (fun h21p => ?_) (fun h21p => ?_)))
  ·exact absurd rfl h21p
  refine wp_skip (wp_seq (aA ?_))
  have hb23 := hb17.up
  refine rn st9 3 h20_ [1] [(1, I (K + 1))] [.ad K 1 hb23.i64] aD fun f24 h24_ => (aB (wp_seq (wp_seq (aA (sg (aG (h24_.at 0) (sg (aG (h24_.at 5) (rn st9 5 h24_.put.put [] [(27, .bool (!decide ((K + 1) = (K + 1))))] [qx hp16, qr hr16 1, .o] aD fun f29 h29_ => (aB (bE (h29_.at 27) (fun h30p => ?_) (fun h30p => ?_))))))))))))
  ·exact absurd rfl h30p
  refine wp_skip (aA ?_)
  have hb32 := hb23.up
  refine rn st9 3 h29_ [1] [(1, I ((K + 1) + 1))] [.ad (K + 1) 1 hb32.i64] aD fun f33 h33_ => (aB (aA (rn st9 3 h33_ [5] [(5, I ((i : Int) + 1))] [qad (i : Int) 1] aD fun f35 h35_ => (aB ?_))))
  exact ⟨_, x.length - (i + 1), aC, rfl, i + 1, (K + 1) + 1, aC, aC, rfl, (h35_.to aD), st9⟩
 refine wp_exit (wp_seq (aA (sg (aG (h12_.at 1) (sg (aF (v := I K) rfl (aB (wr (aM results251 rfl ?_)))))))))
 obtain rfl : i = x.length := by omega
 have hca := gU aS x _ rfl
 exact ⟨fI aC, st9.bare⟩
theorem markEntryS_n {w W0 : World} {rs : List Res} {v : Value} {xs : List Entry} {fp : List Nat} (hst : St w W0 (Res.own v xs fp :: rs)) (k : Int) (h0 : 0 ≤ k) (hk : k + (cL aJ xs : Nat) ≤ 4611686018427387904) :
  Calls prog 248 #[v, I k] W0 fun e w' => ∃ fp', e = .returned (I (k + (cL aJ xs : Nat))) ∧ St w w' (Res.own v (mkL cZ aJ xs k) fp' :: rs) := by
 have hcap := (aR (hst.get 0 rfl)).len_le
 refine bC func248 rfl ntmps248 aU (wp_seq (aA (sg (aE (aB (wp_seq (wp_seq (aA (sg (aE (aB (wp_block (aQ (fun (m : Nat) (f : Nat → Value) (W : World) => ∃ (i : Nat) (K : Int) (fo5 : List Nat), i ≤ xs.length ∧ K = k + (cL aJ (xs.take i) : Nat) ∧ m = xs.length - i ∧ Ag [(0, v), (1, I K), (5, I (i : Int))] f ∧ St w W (Res.own (α := List Entry) v (mkL cZ aJ (xs.take i) k ++ xs.drop i) fo5 :: rs)) (xs.length - 0) ?_ ?_)))))))))))))
 ·exact ⟨0, k, fp, Nat.zero_le _, (by simp [cL]), rfl, (Ag.nil.put.put.put.put.to aD), (by simpa [mkL] using hst)⟩
 intro m6 f7 W8 hJ9
 obtain ⟨i, K, fo5, hi, hK, rfl, hA11, st10⟩ := hJ9
 have hlx : (mkL cZ aJ (xs.take i) k ++ xs.drop i).length = xs.length := by rw [length_append, cY, length_take, length_drop]; omega
 refine wp_seq (wp_seq (aA (rn st10 4 hA11 [] [(9, .bool (decide ((i : Int) < ((mkL cZ aJ (xs.take i) k ++ xs.drop i).length : Int))))] [ql (aR (st10.get 0 rfl)), .o] aD fun f13 h13_ => (aB (aK (h13_.at 9) (fun h14p => ?_) (fun h14p => ?_))))))
 ·refine wp_skip (wp_seq (wp_block (wp_seq (aA (rn st10 3 h13_ [] [(12, v), (13, I (i : Int)), (14, I K)] [] aD fun f16 h16_ => ?_)))))
  have hq_ := fC (xs := xs) (i := i) aC
  obtain ⟨y, hy⟩ := hq_
  have hcs := eL aJ hy
  have hcl := dI aJ xs (i + 1)
  have hne : aJ y = 4 := rfl
  have hb17 : Bd K (1 + (1 + (1 + (1 + (0))))) := ⟨by omega, by omega⟩
  have hq_ := St.lendx (α := Entry) aU st10 (x := y) (lY hy)
  obtain ⟨b18, e18, pre18, cs18, post18, fi18, fr18, hPA18, hC18, st19⟩ := hq_
  obtain ⟨he18, hf18, hok18⟩ := hC18; have he18 : _ = [I y.prio, I y.seq, I y.run, I y.task] := he18; subst he18
  refine sg (aY jI (h16_.at 12) hPA18 (h16_.at 13) rfl (sg (aL fa_Entry_0 rfl (sgn (bB (i := 0) (v := I K) aD rfl (h16_.at 14) rfl rfl st19.d1 rfl bX rfl ?_))))); intro W26 st27
  refine aB (wp_seq (aA ?_))
  have hb29 := hb17.up
  refine rn st27 3 h16_.put.put [1] [(1, I (K + 1))] [.ad K 1 hb29.i64] aD fun f30 h30_ => (aB (wp_seq (aA (rn st27 5 h30_ [] [(21, I (K + 1)), (23, .pointer (some ⟨b18, pre18.length + 1, none⟩))] [qx hPA18] aD fun f32 h32_ => (sgn (bB (i := 1) (v := I (K + 1)) aD (h32_.at 23) (h32_.at 21) rfl rfl st27 rfl bX rfl ?_)))))); intro W33 st34
  refine aB (wp_seq (aA ?_))
  have hb36 := hb29.up
  refine rn st34 3 h32_ [1] [(1, I ((K + 1) + 1))] [.ad (K + 1) 1 hb36.i64] aD fun f37 h37_ => (aB (wp_seq (aA (rn st34 5 h37_ [] [(28, I ((K + 1) + 1)), (30, .pointer (some ⟨b18, pre18.length + 2, none⟩))] [qx hPA18] aD fun f39 h39_ => (sgn (bB (i := 2) (v := I ((K + 1) + 1)) aD (h39_.at 30) (h39_.at 28) rfl rfl st34 rfl bX rfl ?_)))))); intro W40 st41
  refine aB (wp_seq (aA ?_))
  have hb43 := hb36.up
  refine rn st41 3 h39_ [1] [(1, I (((K + 1) + 1) + 1))] [.ad ((K + 1) + 1) 1 hb43.i64] aD fun f44 h44_ => (aB (wp_seq (aA (lw h44_ [(0, v), (1, I (((K + 1) + 1) + 1)), (5, I (i : Int))] aD fun h47_ => (rn st41 5 h47_ [] [(35, I (((K + 1) + 1) + 1)), (37, .pointer (some ⟨b18, pre18.length + 3, none⟩))] [qx hPA18] aD fun f46 h46_ => (sgn (bB (i := 3) (v := I (((K + 1) + 1) + 1)) aD (h46_.at 37) (h46_.at 35) rfl rfl st41 rfl bX rfl ?_))))))); intro W48 st49
  refine aB (aA ?_)
  have hb51 := hb43.up
  refine rn st49 3 h46_ [1] [(1, I ((((K + 1) + 1) + 1) + 1))] [.ad (((K + 1) + 1) + 1) 1 hb51.i64] aD fun f52 h52_ => (aB (aA (rn st49 3 h52_ [5] [(5, I ((i : Int) + 1))] [qad (i : Int) 1] aD fun f54 h54_ => (aB ?_))))
  have st55 := st49.cs0 (cs := [I K, I (K + 1), I ((K + 1) + 1), I (((K + 1) + 1) + 1)]) (x := (⟨K, K + 1, (K + 1) + 1, ((K + 1) + 1) + 1⟩ : Entry)) ⟨rfl, rfl, eQ⟩
  obtain ⟨fp60, st61⟩ := St.give (α := Entry) st55.f2.f1.f2
  exact ⟨_, xs.length - (i + 1), aC, rfl, i + 1, (((K + 1) + 1) + 1) + 1, fp60, aC, aC, rfl, (h54_.to aD), (by rw [← jV hy hK]; exact st61)⟩
 refine wp_exit (wp_seq (aA (sg (aG (h13_.at 1) (sg (aF (v := I K) rfl (aB (wr (aM results248 rfl ?_)))))))))
 obtain rfl : i = xs.length := by omega
 have hca := gU aJ xs _ rfl
 rw [pI rfl] at st10
 exact ⟨_, fI aC, st10⟩
theorem heldEntryS_n {v : Value} {x : List Entry} {fp : List Nat} {k : Int} (h : Sl w v (mkL cZ aJ x k) fp) (h0 : 0 ≤ k) (hk : k + (cL aJ x : Nat) ≤ 4611686018427387904) :
  Calls prog 250 #[v, I k] w (rI_ (k + (cL aJ x : Nat)) w) := by
 have hcap := h.len_le
 rw [cY] at hcap
 have hml : (mkL cZ aJ x k).length = x.length := cY _ _
 refine bC func250 rfl ntmps250 aU (wp_seq (aA (sg (aE (aB (wp_seq (wp_seq (aA (sg (aE (aB (wp_block (aQ (fun (m : Nat) (f : Nat → Value) (W : World) => ∃ (i : Nat) (K : Int), i ≤ x.length ∧ K = k + (cL aJ (x.take i) : Nat) ∧ m = x.length - i ∧ Ag [(0, v), (1, I K), (5, I (i : Int))] f ∧ St w W ([])) (x.length - 0) ?_ ?_)))))))))))))
 ·exact ⟨0, k, Nat.zero_le _, (by simp [cL]), rfl, (Ag.nil.put.put.put.put.to aD), (St.start w)⟩
 intro m5 f6 W7 hJ8
 obtain ⟨i, K, hi, hK, rfl, hA10, st9⟩ := hJ8
 refine wp_seq (wp_seq (aA (rn st9 4 hA10 [] [(9, .bool (decide ((i : Int) < ((mkL cZ aJ x k).length : Int))))] [ql h, .o] aD fun f12 h12_ => (aB (aK (h12_.at 9) (fun h13p => ?_) (fun h13p => ?_))))))
 ·refine wp_skip (wp_seq (wp_block (wp_seq (wp_seq (aA (sg (aG (h12_.at 0) (sg (aG (h12_.at 5) ?_)))))))))
  have hq_ := fC (xs := x) (i := i) aC
  obtain ⟨y, hy⟩ := hq_
  have hcs := eL aJ hy
  have hcl := dI aJ x (i + 1)
  have hne : aJ y = 4 := rfl
  have hb17 : Bd K (1 + (1 + (1 + (1 + (0))))) := ⟨by omega, by omega⟩
  obtain ⟨b16, o16, cs16, f16, hp16, hr16, hc16, hm16⟩ := vP h hy hK
  have hk18 := hc16
  obtain ⟨he18, rfl, hok18⟩ := hk18
  have he18 : _ = [I K, I (K + 1), I ((K + 1) + 1), I (((K + 1) + 1) + 1)] := he18; subst he18
  refine rn st9 5 h12_.put.put [] [(18, .bool (!decide (K = K)))] [qx hp16, qr hr16 0, .o] aD fun f20 h20_ => (aB (bE (h20_.at 18) (fun h21p => ?_) (fun h21p => ?_)))
  ·exact absurd rfl h21p
  refine wp_skip (wp_seq (aA ?_))
  have hb23 := hb17.up
  refine rn st9 3 h20_ [1] [(1, I (K + 1))] [.ad K 1 hb23.i64] aD fun f24 h24_ => (aB (wp_seq (wp_seq (aA (sg (aG (h24_.at 0) (sg (aG (h24_.at 5) (rn st9 5 h24_.put.put [] [(27, .bool (!decide ((K + 1) = (K + 1))))] [qx hp16, qr hr16 1, .o] aD fun f29 h29_ => (aB (bE (h29_.at 27) (fun h30p => ?_) (fun h30p => ?_))))))))))))
  ·exact absurd rfl h30p
  refine wp_skip (wp_seq (aA ?_))
  have hb32 := hb23.up
  refine rn st9 3 h29_ [1] [(1, I ((K + 1) + 1))] [.ad (K + 1) 1 hb32.i64] aD fun f33 h33_ => (aB (wp_seq (wp_seq (aA (sg (aG (h33_.at 0) (sg (aG (h33_.at 5) (lw h33_.put.put [(0, v), (1, I ((K + 1) + 1)), (5, I (i : Int)), (30, v), (31, I (i : Int))] aD fun h39_ => (rn st9 5 h39_ [] [(36, .bool (!decide (((K + 1) + 1) = ((K + 1) + 1))))] [qx hp16, qr hr16 2, .o] aD fun f38 h38_ => (aB (bE (h38_.at 36) (fun h40p => ?_) (fun h40p => ?_)))))))))))))
  ·exact absurd rfl h40p
  refine wp_skip (wp_seq (aA ?_))
  have hb42 := hb32.up
  refine rn st9 3 h38_ [1] [(1, I (((K + 1) + 1) + 1))] [.ad ((K + 1) + 1) 1 hb42.i64] aD fun f43 h43_ => (aB (wp_seq (wp_seq (aA (sg (aG (h43_.at 0) (sg (aG (h43_.at 5) (rn st9 5 h43_.put.put [] [(45, .bool (!decide ((((K + 1) + 1) + 1) = (((K + 1) + 1) + 1))))] [qx hp16, qr hr16 3, .o] aD fun f48 h48_ => (aB (bE (h48_.at 45) (fun h49p => ?_) (fun h49p => ?_))))))))))))
  ·exact absurd rfl h49p
  refine wp_skip (aA ?_)
  have hb51 := hb42.up
  refine rn st9 3 h48_ [1] [(1, I ((((K + 1) + 1) + 1) + 1))] [.ad (((K + 1) + 1) + 1) 1 hb51.i64] aD fun f52 h52_ => (aB (aA (rn st9 3 h52_ [5] [(5, I ((i : Int) + 1))] [qad (i : Int) 1] aD fun f54 h54_ => (aB ?_))))
  exact ⟨_, x.length - (i + 1), aC, rfl, i + 1, (((K + 1) + 1) + 1) + 1, aC, aC, rfl, (h54_.to aD), st9⟩
 refine wp_exit (wp_seq (aA (sg (aG (h12_.at 1) (sg (aF (v := I K) rfl (aB (wr (aM results250 rfl ?_)))))))))
 obtain rfl : i = x.length := by omega
 have hca := gU aJ x _ rfl
 exact ⟨fI aC, st9.bare⟩
theorem markTaskS_n {w W0 : World} {rs : List Res} {v : Value} {xs : List Task} {fp : List Nat} (hst : St w W0 (Res.own v xs fp :: rs)) (k : Int) (h0 : 0 ≤ k) (hk : k + (cL bL xs : Nat) ≤ 4611686018427387904) :
  Calls prog 249 #[v, I k] W0 fun e w' => ∃ fp', e = .returned (I (k + (cL bL xs : Nat))) ∧ St w w' (Res.own v (mkL fZ bL xs k) fp' :: rs) := by
 have hcap := (aR (hst.get 0 rfl)).len_le
 refine bC func249 rfl ntmps249 aU (wp_seq (aA (sg (aE (aB (wp_seq (wp_seq (aA (sg (aE (aB (wp_block (aQ (fun (m : Nat) (f : Nat → Value) (W : World) => ∃ (i : Nat) (K : Int) (fo5 : List Nat), i ≤ xs.length ∧ K = k + (cL bL (xs.take i) : Nat) ∧ m = xs.length - i ∧ Ag [(0, v), (1, I K), (5, I (i : Int))] f ∧ St w W (Res.own (α := List Task) v (mkL fZ bL (xs.take i) k ++ xs.drop i) fo5 :: rs)) (xs.length - 0) ?_ ?_)))))))))))))
 ·exact ⟨0, k, fp, Nat.zero_le _, (by simp [cL]), rfl, (Ag.nil.put.put.put.put.to aD), (by simpa [mkL] using hst)⟩
 intro m6 f7 W8 hJ9
 obtain ⟨i, K, fo5, hi, hK, rfl, hA11, st10⟩ := hJ9
 have hlx : (mkL fZ bL (xs.take i) k ++ xs.drop i).length = xs.length := by rw [length_append, cY, length_take, length_drop]; omega
 refine wp_seq (wp_seq (aA (rn st10 4 hA11 [] [(9, .bool (decide ((i : Int) < ((mkL fZ bL (xs.take i) k ++ xs.drop i).length : Int))))] [ql (aR (st10.get 0 rfl)), .o] aD fun f13 h13_ => (aB (aK (h13_.at 9) (fun h14p => ?_) (fun h14p => ?_))))))
 ·refine wp_skip (wp_seq (wp_block (wp_seq (aA (rn st10 3 h13_ [] [(12, v), (13, I (i : Int)), (14, I K)] [] aD fun f16 h16_ => ?_)))))
  have hq_ := fC (xs := xs) (i := i) aC
  obtain ⟨y, hy⟩ := hq_
  have hcs := eL bL hy
  have hcl := dI bL xs (i + 1)
  have hne : bL y = 4 := rfl
  have hb17 : Bd K (1 + (1 + (1 + (1 + (0))))) := ⟨by omega, by omega⟩
  have hq_ := St.lendx (α := Task) aU st10 (x := y) (lY hy)
  obtain ⟨b18, e18, pre18, cs18, post18, fi18, fr18, hPA18, hC18, st19⟩ := hq_
  obtain ⟨he18, hf18, hok18⟩ := hC18; have he18 : _ = [I y.state, I y.need, I y.try_, I y.until_] := he18; subst he18
  refine sg (aY zU (h16_.at 12) hPA18 (h16_.at 13) rfl (sg (aL sL rfl (sgn (bB (i := 0) (v := I K) aD rfl (h16_.at 14) rfl rfl st19.d1 rfl bX rfl ?_))))); intro W26 st27
  refine aB (wp_seq (aA ?_))
  have hb29 := hb17.up
  refine rn st27 3 h16_.put.put [1] [(1, I (K + 1))] [.ad K 1 hb29.i64] aD fun f30 h30_ => (aB (wp_seq (aA (rn st27 5 h30_ [] [(21, I (K + 1)), (23, .pointer (some ⟨b18, pre18.length + 1, none⟩))] [qx hPA18] aD fun f32 h32_ => (sgn (bB (i := 1) (v := I (K + 1)) aD (h32_.at 23) (h32_.at 21) rfl rfl st27 rfl bX rfl ?_)))))); intro W33 st34
  refine aB (wp_seq (aA ?_))
  have hb36 := hb29.up
  refine rn st34 3 h32_ [1] [(1, I ((K + 1) + 1))] [.ad (K + 1) 1 hb36.i64] aD fun f37 h37_ => (aB (wp_seq (aA (rn st34 5 h37_ [] [(28, I ((K + 1) + 1)), (30, .pointer (some ⟨b18, pre18.length + 2, none⟩))] [qx hPA18] aD fun f39 h39_ => (sgn (bB (i := 2) (v := I ((K + 1) + 1)) aD (h39_.at 30) (h39_.at 28) rfl rfl st34 rfl bX rfl ?_)))))); intro W40 st41
  refine aB (wp_seq (aA ?_))
  have hb43 := hb36.up
  refine rn st41 3 h39_ [1] [(1, I (((K + 1) + 1) + 1))] [.ad ((K + 1) + 1) 1 hb43.i64] aD fun f44 h44_ => (aB (wp_seq (aA (lw h44_ [(0, v), (1, I (((K + 1) + 1) + 1)), (5, I (i : Int))] aD fun h47_ => (rn st41 5 h47_ [] [(35, I (((K + 1) + 1) + 1)), (37, .pointer (some ⟨b18, pre18.length + 3, none⟩))] [qx hPA18] aD fun f46 h46_ => (sgn (bB (i := 3) (v := I (((K + 1) + 1) + 1)) aD (h46_.at 37) (h46_.at 35) rfl rfl st41 rfl bX rfl ?_))))))); intro W48 st49
  refine aB (aA ?_)
  have hb51 := hb43.up
  refine rn st49 3 h46_ [1] [(1, I ((((K + 1) + 1) + 1) + 1))] [.ad (((K + 1) + 1) + 1) 1 hb51.i64] aD fun f52 h52_ => (aB (aA (rn st49 3 h52_ [5] [(5, I ((i : Int) + 1))] [qad (i : Int) 1] aD fun f54 h54_ => (aB ?_))))
  have st55 := st49.cs0 (cs := [I K, I (K + 1), I ((K + 1) + 1), I (((K + 1) + 1) + 1)]) (x := (⟨K, K + 1, (K + 1) + 1, ((K + 1) + 1) + 1⟩ : Task)) ⟨rfl, rfl, eQ⟩
  obtain ⟨fp60, st61⟩ := St.give (α := Task) st55.f2.f1.f2
  exact ⟨_, xs.length - (i + 1), aC, rfl, i + 1, (((K + 1) + 1) + 1) + 1, fp60, aC, aC, rfl, (h54_.to aD), (by rw [← jV hy hK]; exact st61)⟩
 refine wp_exit (wp_seq (aA (sg (aG (h13_.at 1) (sg (aF (v := I K) rfl (aB (wr (aM results249 rfl ?_)))))))))
 obtain rfl : i = xs.length := by omega
 have hca := gU bL xs _ rfl
 rw [pI rfl] at st10
 exact ⟨_, fI aC, st10⟩
theorem heldTaskS_n {v : Value} {x : List Task} {fp : List Nat} {k : Int} (h : Sl w v (mkL fZ bL x k) fp) (h0 : 0 ≤ k) (hk : k + (cL bL x : Nat) ≤ 4611686018427387904) :
  Calls prog 252 #[v, I k] w (rI_ (k + (cL bL x : Nat)) w) := by
 have hcap := h.len_le
 rw [cY] at hcap
 have hml : (mkL fZ bL x k).length = x.length := cY _ _
 refine bC func252 rfl ntmps252 aU (wp_seq (aA (sg (aE (aB (wp_seq (wp_seq (aA (sg (aE (aB (wp_block (aQ (fun (m : Nat) (f : Nat → Value) (W : World) => ∃ (i : Nat) (K : Int), i ≤ x.length ∧ K = k + (cL bL (x.take i) : Nat) ∧ m = x.length - i ∧ Ag [(0, v), (1, I K), (5, I (i : Int))] f ∧ St w W ([])) (x.length - 0) ?_ ?_)))))))))))))
 ·exact ⟨0, k, Nat.zero_le _, (by simp [cL]), rfl, (Ag.nil.put.put.put.put.to aD), (St.start w)⟩
 intro m5 f6 W7 hJ8
 obtain ⟨i, K, hi, hK, rfl, hA10, st9⟩ := hJ8
 refine wp_seq (wp_seq (aA (rn st9 4 hA10 [] [(9, .bool (decide ((i : Int) < ((mkL fZ bL x k).length : Int))))] [ql h, .o] aD fun f12 h12_ => (aB (aK (h12_.at 9) (fun h13p => ?_) (fun h13p => ?_))))))
 ·refine wp_skip (wp_seq (wp_block (wp_seq (wp_seq (aA (sg (aG (h12_.at 0) (sg (aG (h12_.at 5) ?_)))))))))
  have hq_ := fC (xs := x) (i := i) aC
  obtain ⟨y, hy⟩ := hq_
  have hcs := eL bL hy
  have hcl := dI bL x (i + 1)
  have hne : bL y = 4 := rfl
  have hb17 : Bd K (1 + (1 + (1 + (1 + (0))))) := ⟨by omega, by omega⟩
  obtain ⟨b16, o16, cs16, f16, hp16, hr16, hc16, hm16⟩ := vP h hy hK
  have hk18 := hc16
  obtain ⟨he18, rfl, hok18⟩ := hk18
  have he18 : _ = [I K, I (K + 1), I ((K + 1) + 1), I (((K + 1) + 1) + 1)] := he18; subst he18
  refine rn st9 5 h12_.put.put [] [(18, .bool (!decide (K = K)))] [qx hp16, qr hr16 0, .o] aD fun f20 h20_ => (aB (bE (h20_.at 18) (fun h21p => ?_) (fun h21p => ?_)))
  ·exact absurd rfl h21p
  refine wp_skip (wp_seq (aA ?_))
  have hb23 := hb17.up
  refine rn st9 3 h20_ [1] [(1, I (K + 1))] [.ad K 1 hb23.i64] aD fun f24 h24_ => (aB (wp_seq (wp_seq (aA (sg (aG (h24_.at 0) (sg (aG (h24_.at 5) (rn st9 5 h24_.put.put [] [(27, .bool (!decide ((K + 1) = (K + 1))))] [qx hp16, qr hr16 1, .o] aD fun f29 h29_ => (aB (bE (h29_.at 27) (fun h30p => ?_) (fun h30p => ?_))))))))))))
  ·exact absurd rfl h30p
  refine wp_skip (wp_seq (aA ?_))
  have hb32 := hb23.up
  refine rn st9 3 h29_ [1] [(1, I ((K + 1) + 1))] [.ad (K + 1) 1 hb32.i64] aD fun f33 h33_ => (aB (wp_seq (wp_seq (aA (sg (aG (h33_.at 0) (sg (aG (h33_.at 5) (lw h33_.put.put [(0, v), (1, I ((K + 1) + 1)), (5, I (i : Int)), (30, v), (31, I (i : Int))] aD fun h39_ => (rn st9 5 h39_ [] [(36, .bool (!decide (((K + 1) + 1) = ((K + 1) + 1))))] [qx hp16, qr hr16 2, .o] aD fun f38 h38_ => (aB (bE (h38_.at 36) (fun h40p => ?_) (fun h40p => ?_)))))))))))))
  ·exact absurd rfl h40p
  refine wp_skip (wp_seq (aA ?_))
  have hb42 := hb32.up
  refine rn st9 3 h38_ [1] [(1, I (((K + 1) + 1) + 1))] [.ad ((K + 1) + 1) 1 hb42.i64] aD fun f43 h43_ => (aB (wp_seq (wp_seq (aA (sg (aG (h43_.at 0) (sg (aG (h43_.at 5) (rn st9 5 h43_.put.put [] [(45, .bool (!decide ((((K + 1) + 1) + 1) = (((K + 1) + 1) + 1))))] [qx hp16, qr hr16 3, .o] aD fun f48 h48_ => (aB (bE (h48_.at 45) (fun h49p => ?_) (fun h49p => ?_))))))))))))
  ·exact absurd rfl h49p
  refine wp_skip (aA ?_)
  have hb51 := hb42.up
  refine rn st9 3 h48_ [1] [(1, I ((((K + 1) + 1) + 1) + 1))] [.ad (((K + 1) + 1) + 1) 1 hb51.i64] aD fun f52 h52_ => (aB (aA (rn st9 3 h52_ [5] [(5, I ((i : Int) + 1))] [qad (i : Int) 1] aD fun f54 h54_ => (aB ?_))))
  exact ⟨_, x.length - (i + 1), aC, rfl, i + 1, (((K + 1) + 1) + 1) + 1, aC, aC, rfl, (h54_.to aD), st9⟩
 refine wp_exit (wp_seq (aA (sg (aG (h12_.at 1) (sg (aF (v := I K) rfl (aB (wr (aM results252 rfl ?_)))))))))
 obtain rfl : i = x.length := by omega
 have hca := gU bL x _ rfl
 exact ⟨fI aC, st9.bare⟩
theorem markRunS_n {w W0 : World} {rs : List Res} {v : Value} {xs : List Run} {fp : List Nat} (hst : St w W0 (Res.own v xs fp :: rs)) (k : Int) (h0 : 0 ≤ k) (hk : k + (cL bU xs : Nat) ≤ 4611686018427387904) :
  Calls prog 133 #[v, I k] W0 fun e w' => ∃ fp', e = .returned (I (k + (cL bU xs : Nat))) ∧ St w w' (Res.own v (mkL iK bU xs k) fp' :: rs) := by
 have hcap := (aR (hst.get 0 rfl)).len_le
 refine bC func133 rfl ntmps133 aU (wp_seq (aA (sg (aE (aB (wp_seq (wp_seq (aA (sg (aE (aB (wp_block (aQ (fun (m : Nat) (f : Nat → Value) (W : World) => ∃ (i : Nat) (K : Int) (fo5 : List Nat), i ≤ xs.length ∧ K = k + (cL bU (xs.take i) : Nat) ∧ m = xs.length - i ∧ Ag [(0, v), (1, I K), (5, I (i : Int))] f ∧ St w W (Res.own (α := List Run) v (mkL iK bU (xs.take i) k ++ xs.drop i) fo5 :: rs)) (xs.length - 0) ?_ ?_)))))))))))))
 ·exact ⟨0, k, fp, Nat.zero_le _, (by simp [cL]), rfl, (Ag.nil.put.put.put.put.to aD), (by simpa [mkL] using hst)⟩
 intro m6 f7 W8 hJ9
 obtain ⟨i, K, fo5, hi, hK, rfl, hA11, st10⟩ := hJ9
 have hlx : (mkL iK bU (xs.take i) k ++ xs.drop i).length = xs.length := by rw [length_append, cY, length_take, length_drop]; omega
 refine wp_seq (wp_seq (aA (rn st10 4 hA11 [] [(9, .bool (decide ((i : Int) < ((mkL iK bU (xs.take i) k ++ xs.drop i).length : Int))))] [ql (aR (st10.get 0 rfl)), .o] aD fun f13 h13_ => (aB (aK (h13_.at 9) (fun h14p => ?_) (fun h14p => ?_))))))
 ·refine wp_skip (wp_seq (wp_block (wp_seq (aA (rn st10 3 h13_ [] [(12, v), (13, I (i : Int)), (14, I K)] [] aD fun f16 h16_ => ?_)))))
  have hq_ := fC (xs := xs) (i := i) aC
  obtain ⟨y, hy⟩ := hq_
  have hcs := eL bU hy
  have hcl := dI bU xs (i + 1)
  have hne : bU y = 6 + cL aS y.plan.edges + cL bL y.tasks := rfl
  have hb17 : Bd K (1 + (1 + (1 + (1 + (1 + ((cL aS y.plan.edges) + (1 + ((cL bL y.tasks) + (0))))))))) := ⟨by omega, by omega⟩
  have hq_ := St.lendx (α := Run) aU st10 (x := y) (lY hy)
  obtain ⟨b18, e18, pre18, cs18, post18, fi18, fr18, hPA18, hC18, st19⟩ := hq_
  have st24 := st19.f1.uncs rfl
  obtain ⟨v25_0, v25_1, g25_0, g25_1, he25, hok25, st26⟩ := open_Run st24
  subst he25
  refine sg (aY pX (h16_.at 12) hPA18 (h16_.at 13) rfl (sg (aL fa_Run_0 rfl (sgn (bB (i := 0) (v := I K) aD rfl (h16_.at 14) rfl rfl st26.f2 rfl bX rfl ?_))))); intro W32 st33
  refine aB (wp_seq (aA ?_))
  have hb35 := hb17.up
  refine rn st33 3 h16_.put.put [1] [(1, I (K + 1))] [.ad K 1 hb35.i64] aD fun f36 h36_ => (aB (wp_seq (aA (rn st33 6 h36_ [] [(21, I (K + 1)), (24, .pointer (some ⟨b18, pre18.length + 1, none⟩))] [qx hPA18] aD fun f38 h38_ => (sgn (bB (i := 1) (v := I (K + 1)) aD (h38_.at 24) (h38_.at 21) rfl rfl st33 rfl bX rfl ?_)))))); intro W39 st40
  refine aB (wp_seq (aA ?_))
  have hb42 := hb35.up
  refine rn st40 3 h38_ [1] [(1, I ((K + 1) + 1))] [.ad (K + 1) 1 hb42.i64] aD fun f43 h43_ => (aB (wp_seq (aA (rn st40 6 h43_ [] [(29, I ((K + 1) + 1)), (32, .pointer (some ⟨b18, pre18.length + 2, none⟩))] [qx hPA18] aD fun f45 h45_ => (sgn (bB (i := 2) (v := I ((K + 1) + 1)) aD (h45_.at 32) (h45_.at 29) rfl rfl st40 rfl bX rfl ?_)))))); intro W46 st47
  refine aB (wp_seq (aA ?_))
  have hb49 := hb42.up
  refine rn st47 3 h45_ [1] [(1, I (((K + 1) + 1) + 1))] [.ad ((K + 1) + 1) 1 hb49.i64] aD fun f50 h50_ => (aB (wp_seq (aA (lw h50_ [(0, v), (1, I (((K + 1) + 1) + 1)), (5, I (i : Int))] aD fun h53_ => (rn st47 6 h53_ [] [(37, I (((K + 1) + 1) + 1)), (40, .pointer (some ⟨b18, pre18.length + 3, none⟩))] [qx hPA18] aD fun f52 h52_ => (sgn (bB (i := 3) (v := I (((K + 1) + 1) + 1)) aD (h52_.at 40) (h52_.at 37) rfl rfl st47 rfl bX rfl ?_))))))); intro W54 st55
  refine aB (wp_seq (aA ?_))
  have hb57 := hb49.up
  refine rn st55 3 h52_ [1] [(1, I ((((K + 1) + 1) + 1) + 1))] [.ad (((K + 1) + 1) + 1) 1 hb57.i64] aD fun f58 h58_ => (aB (wp_seq (aA (rn st55 6 h58_ [] [(45, I ((((K + 1) + 1) + 1) + 1)), (48, .pointer (some ⟨b18, pre18.length + 4, none⟩))] [qx hPA18] aD fun f60 h60_ => (sgn (bB (i := 4) (v := I ((((K + 1) + 1) + 1) + 1)) aD (h60_.at 48) (h60_.at 45) rfl rfl st55 rfl bX rfl ?_)))))); intro W61 st62
  refine aB (wp_seq (aA ?_))
  have hb64 := hb57.up
  refine rn st62 3 h60_ [1] [(1, I (((((K + 1) + 1) + 1) + 1) + 1))] [.ad ((((K + 1) + 1) + 1) + 1) 1 hb64.i64] aD fun f65 h65_ => (aB (wp_seq (aA (rn st62 7 h65_ [] [(56, v25_0), (57, I (((((K + 1) + 1) + 1) + 1) + 1))] [qx hPA18, qp 0 rfl 5] aD fun f67 h67_ => ?_))))
  have hb73 := hb64.upc
  refine sg (bK func175 rfl (h67_.at 56) (h67_.at 57) ((markEdgeS_n st62.f1 (((((K + 1) + 1) + 1) + 1) + 1) hb64.lo hb64.hi).mono ?_)); rintro _ W68 ⟨fp71, rfl, st70⟩; refine ⟨_, rfl, ?_⟩
  refine sg (aF (v := I ((((((K + 1) + 1) + 1) + 1) + 1) + (cL aS y.plan.edges : Nat))) rfl (aB (wp_seq (aA (rn st70 5 h67_.put.put [] [(61, I ((((((K + 1) + 1) + 1) + 1) + 1) + (cL aS y.plan.edges : Nat))), (63, .pointer (some ⟨b18, pre18.length + 6, none⟩))] [qx hPA18] aD fun f77 h77_ => (sgn (bB (i := 6) (v := I ((((((K + 1) + 1) + 1) + 1) + 1) + (cL aS y.plan.edges : Nat))) aD (h77_.at 63) (h77_.at 61) rfl rfl st70.f1 rfl bX rfl ?_))))))); intro W79 st80
  refine aB (wp_seq (aA ?_))
  have hb82 := hb73.up
  refine rn st80 3 h77_ [1] [(1, I (((((((K + 1) + 1) + 1) + 1) + 1) + (cL aS y.plan.edges : Nat)) + 1))] [.ad ((((((K + 1) + 1) + 1) + 1) + 1) + (cL aS y.plan.edges : Nat)) 1 hb82.i64] aD fun f83 h83_ => (aB (aA (lw h83_ [(0, v), (1, I (((((((K + 1) + 1) + 1) + 1) + 1) + (cL aS y.plan.edges : Nat)) + 1)), (5, I (i : Int))] aD fun h86_ => (rn st80 6 h86_ [] [(70, v25_1), (71, I (((((((K + 1) + 1) + 1) + 1) + 1) + (cL aS y.plan.edges : Nat)) + 1))] [qx hPA18, qp 0 rfl 7] aD fun f85 h85_ => ?_))))
  have hb92 := hb82.upc
  refine sg (bK func249 rfl (h85_.at 70) (h85_.at 71) ((markTaskS_n st80.f2 (((((((K + 1) + 1) + 1) + 1) + 1) + (cL aS y.plan.edges : Nat)) + 1) hb82.lo hb82.hi).mono ?_)); rintro _ W87 ⟨fp90, rfl, st89⟩; refine ⟨_, rfl, ?_⟩
  refine sg (aF (v := I ((((((((K + 1) + 1) + 1) + 1) + 1) + (cL aS y.plan.edges : Nat)) + 1) + (cL bL y.tasks : Nat))) rfl (aB (aA (rn st89 3 h85_.put.put [5] [(5, I ((i : Int) + 1))] [qad (i : Int) 1] aD fun f96 h96_ => (aB ?_)))))
  have st98 := pZ (x := (⟨K, ⟨K + 1, (K + 1) + 1, ((K + 1) + 1) + 1, (((K + 1) + 1) + 1) + 1, mkL gB aS y.plan.edges (((((K + 1) + 1) + 1) + 1) + 1)⟩, (((((K + 1) + 1) + 1) + 1) + 1) + (cL aS y.plan.edges : Nat), mkL fZ bL y.tasks (((((((K + 1) + 1) + 1) + 1) + 1) + (cL aS y.plan.edges : Nat)) + 1)⟩ : Run)) st89.f2 eQ
  try dsimp only at st98
  have st100 := st98.cs rfl
  obtain ⟨fp104, st105⟩ := St.give (α := Run) st100.f2.f1.f2
  exact ⟨_, xs.length - (i + 1), aC, rfl, i + 1, (((((((K + 1) + 1) + 1) + 1) + 1) + (cL aS y.plan.edges : Nat)) + 1) + (cL bL y.tasks : Nat), fp104, aC, aC, rfl, (h96_.to aD), (by rw [← jV hy hK]; exact st105)⟩
 refine wp_exit (wp_seq (aA (sg (aG (h13_.at 1) (sg (aF (v := I K) rfl (aB (wr (aM results133 rfl ?_)))))))))
 obtain rfl : i = xs.length := by omega
 have hca := gU bU xs _ rfl
 rw [pI rfl] at st10
 exact ⟨_, fI aC, st10⟩
theorem heldRunS_n {v : Value} {x : List Run} {fp : List Nat} {k : Int} (h : Sl w v (mkL iK bU x k) fp) (h0 : 0 ≤ k) (hk : k + (cL bU x : Nat) ≤ 4611686018427387904) :
  Calls prog 135 #[v, I k] w (rI_ (k + (cL bU x : Nat)) w) := by
 have hcap := h.len_le
 rw [cY] at hcap
 have hml : (mkL iK bU x k).length = x.length := cY _ _
 refine bC func135 rfl ntmps135 aU (wp_seq (aA (sg (aE (aB (wp_seq (wp_seq (aA (sg (aE (aB (wp_block (aQ (fun (m : Nat) (f : Nat → Value) (W : World) => ∃ (i : Nat) (K : Int), i ≤ x.length ∧ K = k + (cL bU (x.take i) : Nat) ∧ m = x.length - i ∧ Ag [(0, v), (1, I K), (5, I (i : Int))] f ∧ St w W ([])) (x.length - 0) ?_ ?_)))))))))))))
 ·exact ⟨0, k, Nat.zero_le _, (by simp [cL]), rfl, (Ag.nil.put.put.put.put.to aD), (St.start w)⟩
 intro m5 f6 W7 hJ8
 obtain ⟨i, K, hi, hK, rfl, hA10, st9⟩ := hJ8
 refine wp_seq (wp_seq (aA (rn st9 4 hA10 [] [(9, .bool (decide ((i : Int) < ((mkL iK bU x k).length : Int))))] [ql h, .o] aD fun f12 h12_ => (aB (aK (h12_.at 9) (fun h13p => ?_) (fun h13p => ?_))))))
 ·refine wp_skip (wp_seq (wp_block (wp_seq (wp_seq (aA (sg (aG (h12_.at 0) (sg (aG (h12_.at 5) ?_)))))))))
  have hq_ := fC (xs := x) (i := i) aC
  obtain ⟨y, hy⟩ := hq_
  have hcs := eL bU hy
  have hcl := dI bU x (i + 1)
  have hne : bU y = 6 + cL aS y.plan.edges + cL bL y.tasks := rfl
  have hb17 : Bd K (1 + (1 + (1 + (1 + (1 + ((cL aS y.plan.edges) + (1 + ((cL bL y.tasks) + (0))))))))) := ⟨by omega, by omega⟩
  obtain ⟨b16, o16, cs16, f16, hp16, hr16, hc16, hm16⟩ := vP h hy hK
  have hk18 := hc16
  obtain ⟨v18_0, v18_1, g18_0, g18_1, he18, hok18, h18_0, h18_1, rfl⟩ := hk18
  have he18 : _ = [I K, I (K + 1), I ((K + 1) + 1), I (((K + 1) + 1) + 1), I ((((K + 1) + 1) + 1) + 1), v18_0, I ((((((K + 1) + 1) + 1) + 1) + 1) + (cL aS y.plan.edges : Nat)), v18_1] := he18; subst he18
  have h18_0 : Sl _ v18_0 (mkL gB aS y.plan.edges (((((K + 1) + 1) + 1) + 1) + 1)) _ := h18_0
  have h18_1 : Sl _ v18_1 (mkL fZ bL y.tasks (((((((K + 1) + 1) + 1) + 1) + 1) + (cL aS y.plan.edges : Nat)) + 1)) _ := h18_1
  refine rn st9 5 h12_.put.put [] [(18, .bool (!decide (K = K)))] [qx hp16, qr hr16 0, .o] aD fun f20 h20_ => (aB (bE (h20_.at 18) (fun h21p => ?_) (fun h21p => ?_)))
  ·exact absurd rfl h21p
  refine wp_skip (wp_seq (aA ?_))
  have hb23 := hb17.up
  refine rn st9 3 h20_ [1] [(1, I (K + 1))] [.ad K 1 hb23.i64] aD fun f24 h24_ => (aB (wp_seq (wp_seq (aA (sg (aG (h24_.at 0) (sg (aG (h24_.at 5) (rn st9 6 h24_.put.put [] [(28, .bool (!decide ((K + 1) = (K + 1))))] [qx hp16, qr hr16 1, .o] aD fun f29 h29_ => (aB (bE (h29_.at 28) (fun h30p => ?_) (fun h30p => ?_))))))))))))
  ·exact absurd rfl h30p
  refine wp_skip (wp_seq (aA ?_))
  have hb32 := hb23.up
  refine rn st9 3 h29_ [1] [(1, I ((K + 1) + 1))] [.ad (K + 1) 1 hb32.i64] aD fun f33 h33_ => (aB (wp_seq (wp_seq (aA (sg (aG (h33_.at 0) (sg (aG (h33_.at 5) (lw h33_.put.put [(0, v), (1, I ((K + 1) + 1)), (5, I (i : Int)), (31, v), (32, I (i : Int))] aD fun h39_ => (rn st9 6 h39_ [] [(38, .bool (!decide (((K + 1) + 1) = ((K + 1) + 1))))] [qx hp16, qr hr16 2, .o] aD fun f38 h38_ => (aB (bE (h38_.at 38) (fun h40p => ?_) (fun h40p => ?_)))))))))))))
  ·exact absurd rfl h40p
  refine wp_skip (wp_seq (aA ?_))
  have hb42 := hb32.up
  refine rn st9 3 h38_ [1] [(1, I (((K + 1) + 1) + 1))] [.ad ((K + 1) + 1) 1 hb42.i64] aD fun f43 h43_ => (aB (wp_seq (wp_seq (aA (sg (aG (h43_.at 0) (sg (aG (h43_.at 5) (rn st9 6 h43_.put.put [] [(48, .bool (!decide ((((K + 1) + 1) + 1) = (((K + 1) + 1) + 1))))] [qx hp16, qr hr16 3, .o] aD fun f48 h48_ => (aB (bE (h48_.at 48) (fun h49p => ?_) (fun h49p => ?_))))))))))))
  ·exact absurd rfl h49p
  refine wp_skip (wp_seq (aA ?_))
  have hb51 := hb42.up
  refine rn st9 3 h48_ [1] [(1, I ((((K + 1) + 1) + 1) + 1))] [.ad (((K + 1) + 1) + 1) 1 hb51.i64] aD fun f52 h52_ => (aB (wp_seq (wp_seq (aA (sg (aG (h52_.at 0) (sg (aG (h52_.at 5) (rn st9 6 h52_.put.put [] [(58, .bool (!decide (((((K + 1) + 1) + 1) + 1) = ((((K + 1) + 1) + 1) + 1))))] [qx hp16, qr hr16 4, .o] aD fun f57 h57_ => (aB (bE (h57_.at 58) (fun h58p => ?_) (fun h58p => ?_))))))))))))
  ·exact absurd rfl h58p
  refine wp_skip (wp_seq (aA ?_))
  have hb60 := hb51.up
  refine rn st9 3 h57_ [1] [(1, I (((((K + 1) + 1) + 1) + 1) + 1))] [.ad ((((K + 1) + 1) + 1) + 1) 1 hb60.i64] aD fun f61 h61_ => (aB (wp_seq (aA (sg (aG (h61_.at 0) (sg (aG (h61_.at 5) (lw h61_.put.put [(0, v), (1, I (((((K + 1) + 1) + 1) + 1) + 1)), (5, I (i : Int)), (61, v), (62, I (i : Int))] aD fun h67_ => (rn st9 5 h67_ [] [(66, v18_0), (67, I (((((K + 1) + 1) + 1) + 1) + 1))] [qx hp16, qr hr16 5] aD fun f66 h66_ => ?_)))))))))
  have hb72 := hb60.upc
  refine sg (bK func251 rfl (h66_.at 66) (h66_.at 67) ((heldEdgeS_n W7 (x := y.plan.edges) (h18_0.below st9.below) hb60.lo hb60.hi).mono ?_)); rintro _ W68 ⟨rfl, hk69⟩; refine ⟨_, rfl, ?_⟩
  have st70 := St.call st9 hk69
  refine sg (aF (v := I ((((((K + 1) + 1) + 1) + 1) + 1) + (cL aS y.plan.edges : Nat))) rfl (aB (wp_seq (wp_seq (aA (sg (aG (v := I ((((((K + 1) + 1) + 1) + 1) + 1) + (cL aS y.plan.edges : Nat))) rfl (sg (bA rfl rfl (aB (aK rfl (fun h77p => ?_) (fun h77p => ?_))))))))))))
  ·exact absurd h77p (Int.not_lt.2 hb72.1)
  refine wp_skip (wp_seq (wp_seq (aA (sg (aG (h66_.at 0) (sg (aG (h66_.at 5) (rn st70 5 h66_.put.put.put.put.put.put [] [(77, .bool (!decide ((((((((K + 1) + 1) + 1) + 1) + 1) + (cL aS y.plan.edges : Nat)) : Int) = ((((((K + 1) + 1) + 1) + 1) + 1) + (cL aS y.plan.edges : Nat)))))] [qx hp16, qr hr16 6, .o] aD fun f82 h82_ => (aB (bE (h82_.at 77) (fun h83p => ?_) (fun h83p => ?_)))))))))))
  ·exact absurd rfl h83p
  refine wp_skip (wp_seq (aA ?_))
  have hb85 := hb72.up
  refine rn st70 3 h82_ [1] [(1, I (((((((K + 1) + 1) + 1) + 1) + 1) + (cL aS y.plan.edges : Nat)) + 1))] [.ad ((((((K + 1) + 1) + 1) + 1) + 1) + (cL aS y.plan.edges : Nat)) 1 hb85.i64] aD fun f86 h86_ => (aB (wp_seq (aA (sg (aG (h86_.at 0) (sg (aG (h86_.at 5) (rn st70 4 h86_.put.put [] [(84, v18_1), (85, I (((((((K + 1) + 1) + 1) + 1) + 1) + (cL aS y.plan.edges : Nat)) + 1))] [qx hp16, qr hr16 7] aD fun f91 h91_ => ?_))))))))
  have hb96 := hb85.upc
  refine sg (bK func252 rfl (h91_.at 84) (h91_.at 85) ((heldTaskS_n W68 (x := y.tasks) (h18_1.below st70.below) hb85.lo hb85.hi).mono ?_)); rintro _ W92 ⟨rfl, hk93⟩; refine ⟨_, rfl, ?_⟩
  have st94 := St.call st70 hk93
  refine sg (aF (v := I ((((((((K + 1) + 1) + 1) + 1) + 1) + (cL aS y.plan.edges : Nat)) + 1) + (cL bL y.tasks : Nat))) rfl (aB (wp_seq (aA (sg (aG (v := I ((((((((K + 1) + 1) + 1) + 1) + 1) + (cL aS y.plan.edges : Nat)) + 1) + (cL bL y.tasks : Nat))) rfl (sg (bA rfl rfl (aB (aK rfl (fun h101p => ?_) (fun h101p => ?_)))))))))))
  ·exact absurd h101p (Int.not_lt.2 hb96.1)
  refine wp_skip (aA (lw h91_.put.put.put.put [(0, v), (1, I ((((((((K + 1) + 1) + 1) + 1) + 1) + (cL aS y.plan.edges : Nat)) + 1) + (cL bL y.tasks : Nat))), (5, I (i : Int))] aD fun h104_ => (rn st94 3 h104_ [5] [(5, I ((i : Int) + 1))] [qad (i : Int) 1] aD fun f103 h103_ => (aB ?_))))
  exact ⟨_, x.length - (i + 1), aC, rfl, i + 1, (((((((K + 1) + 1) + 1) + 1) + 1) + (cL aS y.plan.edges : Nat)) + 1) + (cL bL y.tasks : Nat), aC, aC, rfl, (h103_.to aD), st94⟩
 refine wp_exit (wp_seq (aA (sg (aG (h12_.at 1) (sg (aF (v := I K) rfl (aB (wr (aM results135 rfl ?_)))))))))
 obtain rfl : i = x.length := by omega
 have hca := gU bU x _ rfl
 exact ⟨fI aC, st9.bare⟩
theorem markEntrySS_n {w W0 : World} {rs : List Res} {v : Value} {xs : List (List Entry)} {fp : List Nat} (hst : St w W0 (Res.own v xs fp :: rs)) (k : Int) (h0 : 0 ≤ k) (hk : k + (cL (cL aJ) xs : Nat) ≤ 4611686018427387904) :
  Calls prog 132 #[v, I k] W0 fun e w' => ∃ fp', e = .returned (I (k + (cL (cL aJ) xs : Nat))) ∧ St w w' (Res.own v (mkL (mkL cZ aJ) (cL aJ) xs k) fp' :: rs) := by
 have hcap := (aR (hst.get 0 rfl)).len_le
 refine bC func132 rfl ntmps132 aU (wp_seq (aA (sg (aE (aB (wp_seq (wp_seq (aA (sg (aE (aB (wp_block (aQ (fun (m : Nat) (f : Nat → Value) (W : World) => ∃ (i : Nat) (K : Int) (fo5 : List Nat), i ≤ xs.length ∧ K = k + (cL (cL aJ) (xs.take i) : Nat) ∧ m = xs.length - i ∧ Ag [(0, v), (1, I K), (5, I (i : Int))] f ∧ St w W (Res.own (α := List (List Entry)) v (mkL (mkL cZ aJ) (cL aJ) (xs.take i) k ++ xs.drop i) fo5 :: rs)) (xs.length - 0) ?_ ?_)))))))))))))
 ·exact ⟨0, k, fp, Nat.zero_le _, (by simp [cL]), rfl, (Ag.nil.put.put.put.put.to aD), (by simpa [mkL] using hst)⟩
 intro m6 f7 W8 hJ9
 obtain ⟨i, K, fo5, hi, hK, rfl, hA11, st10⟩ := hJ9
 have hlx : (mkL (mkL cZ aJ) (cL aJ) (xs.take i) k ++ xs.drop i).length = xs.length := by rw [length_append, cY, length_take, length_drop]; omega
 refine wp_seq (wp_seq (aA (rn st10 4 hA11 [] [(9, .bool (decide ((i : Int) < ((mkL (mkL cZ aJ) (cL aJ) (xs.take i) k ++ xs.drop i).length : Int))))] [ql (aR (st10.get 0 rfl)), .o] aD fun f13 h13_ => (aB (aK (h13_.at 9) (fun h14p => ?_) (fun h14p => ?_))))))
 ·refine wp_skip (wp_seq (wp_block (aA (sg (aG (h13_.at 0) (sg (aG (h13_.at 5) ?_)))))))
  have hq_ := fC (xs := xs) (i := i) aC
  obtain ⟨y, hy⟩ := hq_
  have hcs := eL (cL aJ) hy
  have hcl := dI (cL aJ) xs (i + 1)
  have hne : cL aJ y = cL aJ y := rfl
  have hb17 : Bd K ((cL aJ y) + (0)) := ⟨by omega, by omega⟩
  have hq_ := St.lendx (α := List Entry) aU st10 (x := y) (lY hy)
  obtain ⟨b18, e18, pre18, cs18, post18, fi18, fr18, hPA18, hC18, st19⟩ := hq_
  have hq_ := st19.f1.uncs1
  obtain ⟨v18, he18, st24⟩ := hq_; subst he18
  refine rn st24 3 h13_.put.put [] [(15, v18), (16, I K)] [qx hPA18, qp 1 rfl 0] aD fun f26 h26_ => ?_
  have hb31 := hb17.upc
  refine sg (bK func248 rfl (h26_.at 15) (h26_.at 16) ((markEntryS_n st24 K hb17.lo hb17.hi).mono ?_)); rintro _ W27 ⟨fp30, rfl, st29⟩; refine ⟨_, rfl, ?_⟩
  refine sg (aF (v := I (K + (cL aJ y : Nat))) rfl (aB (aA (rn st29 3 h26_.put.put [5] [(5, I ((i : Int) + 1))] [qad (i : Int) 1] aD fun f35 h35_ => (aB ?_)))))
  have st36 := st29.cs1
  obtain ⟨fp40, st41⟩ := St.give (α := List Entry) st36.f2.f1.f2
  exact ⟨_, xs.length - (i + 1), aC, rfl, i + 1, K + (cL aJ y : Nat), fp40, aC, aC, rfl, (h35_.to aD), (by rw [← jV hy hK]; exact st41)⟩
 refine wp_exit (wp_seq (aA (sg (aG (h13_.at 1) (sg (aF (v := I K) rfl (aB (wr (aM results132 rfl ?_)))))))))
 obtain rfl : i = xs.length := by omega
 have hca := gU (cL aJ) xs _ rfl
 rw [pI rfl] at st10
 exact ⟨_, fI aC, st10⟩
theorem heldEntrySS_n {v : Value} {x : List (List Entry)} {fp : List Nat} {k : Int} (h : Sl w v (mkL (mkL cZ aJ) (cL aJ) x k) fp) (h0 : 0 ≤ k) (hk : k + (cL (cL aJ) x : Nat) ≤ 4611686018427387904) :
  Calls prog 134 #[v, I k] w (rI_ (k + (cL (cL aJ) x : Nat)) w) := by
 have hcap := h.len_le
 rw [cY] at hcap
 have hml : (mkL (mkL cZ aJ) (cL aJ) x k).length = x.length := cY _ _
 refine bC func134 rfl ntmps134 aU (wp_seq (aA (sg (aE (aB (wp_seq (wp_seq (aA (sg (aE (aB (wp_block (aQ (fun (m : Nat) (f : Nat → Value) (W : World) => ∃ (i : Nat) (K : Int), i ≤ x.length ∧ K = k + (cL (cL aJ) (x.take i) : Nat) ∧ m = x.length - i ∧ Ag [(0, v), (1, I K), (5, I (i : Int))] f ∧ St w W ([])) (x.length - 0) ?_ ?_)))))))))))))
 ·exact ⟨0, k, Nat.zero_le _, (by simp [cL]), rfl, (Ag.nil.put.put.put.put.to aD), (St.start w)⟩
 intro m5 f6 W7 hJ8
 obtain ⟨i, K, hi, hK, rfl, hA10, st9⟩ := hJ8
 refine wp_seq (wp_seq (aA (rn st9 4 hA10 [] [(9, .bool (decide ((i : Int) < ((mkL (mkL cZ aJ) (cL aJ) x k).length : Int))))] [ql h, .o] aD fun f12 h12_ => (aB (aK (h12_.at 9) (fun h13p => ?_) (fun h13p => ?_))))))
 ·refine wp_skip (wp_seq (wp_block (wp_seq (aA (sg (aG (h12_.at 0) (sg (aG (h12_.at 5) ?_))))))))
  have hq_ := fC (xs := x) (i := i) aC
  obtain ⟨y, hy⟩ := hq_
  have hcs := eL (cL aJ) hy
  have hcl := dI (cL aJ) x (i + 1)
  have hne : cL aJ y = cL aJ y := rfl
  have hb17 : Bd K ((cL aJ y) + (0)) := ⟨by omega, by omega⟩
  obtain ⟨b16, o16, cs16, f16, hp16, hr16, hc16, hm16⟩ := vP h hy hK
  obtain ⟨v18, rfl, h19⟩ := hc16
  have h19 : Sl _ v18 (mkL cZ aJ y K) f16 := h19
  refine rn st9 3 h12_.put.put [] [(15, v18), (16, I K)] [qx hp16, qr hr16 0] aD fun f21 h21_ => ?_
  have hb26 := hb17.upc
  refine sg (bK func250 rfl (h21_.at 15) (h21_.at 16) ((heldEntryS_n W7 (x := y) (h19.below st9.below) hb17.lo hb17.hi).mono ?_)); rintro _ W22 ⟨rfl, hk23⟩; refine ⟨_, rfl, ?_⟩
  have st24 := St.call st9 hk23
  refine sg (aF (v := I (K + (cL aJ y : Nat))) rfl (aB (wp_seq (aA (sg (aG (v := I (K + (cL aJ y : Nat))) rfl (sg (bA rfl rfl (aB (aK rfl (fun h31p => ?_) (fun h31p => ?_)))))))))))
  ·exact absurd h31p (Int.not_lt.2 hb26.1)
  refine wp_skip (aA (rn st24 3 h21_.put.put.put.put [5] [(5, I ((i : Int) + 1))] [qad (i : Int) 1] aD fun f33 h33_ => (aB ?_)))
  exact ⟨_, x.length - (i + 1), aC, rfl, i + 1, K + (cL aJ y : Nat), aC, aC, rfl, (h33_.to aD), st24⟩
 refine wp_exit (wp_seq (aA (sg (aG (h12_.at 1) (sg (aF (v := I K) rfl (aB (wr (aM results134 rfl ?_)))))))))
 obtain rfl : i = x.length := by omega
 have hca := gU (cL aJ) x _ rfl
 exact ⟨fI aC, st9.bare⟩
theorem markYard_n {w W0 : World} {rs : List Res} {x : Yard} {cs : List Value} {fp : List Nat} (hst : St w W0 (Res.own (.agg cs.toArray) x fp :: rs)) (k : Int) (h0 : 0 ≤ k) (hk : k + (bP x : Nat) ≤ 4611686018427387904) :
  Calls prog 39 #[.agg cs.toArray, I k] W0 fun e w' => ∃ fp', e = .returned (I (k + (bP x : Nat))) ∧ St w w' (Res.own (.agg cs.toArray) (qQ x k) fp' :: rs) := by
 have hk2 := hk
 unfold bP at hk2
 refine bC func39 rfl ntmps39 aU ?_
 have hb1 : Bd k ((cL (cL aJ) x.shelf) + ((cL bU x.runs) + (0))) := ⟨by omega, by omega⟩
 refine wp_seq (aA (sg (aH (cs := cs) rfl hst ?_))); intro b2 W3 hb4 st5
 refine sg (aE (aB (wp_seq (aA ?_))))
 obtain ⟨v11_0, v11_1, g11_0, g11_1, he11, hok11, st12⟩ := sA st5.f1
 subst he11
 refine rn st12 3 Ag.nil.put.put.put.put [] [(6, v11_0), (7, I k)] [qb 2 rfl 2] aD fun f15 h15_ => ?_
 have hb20 := hb1.upc
 refine sg (bK func132 rfl (h15_.at 6) (h15_.at 7) ((markEntrySS_n st12 k hb1.lo hb1.hi).mono ?_)); rintro _ W16 ⟨fp19, rfl, st18⟩; refine ⟨_, rfl, ?_⟩
 refine sg (aF (v := I (k + (cL (cL aJ) x.shelf : Nat))) rfl (aB (wp_seq (aA (rn st18 3 h15_.put.put [] [(10, v11_1), (11, I (k + (cL (cL aJ) x.shelf : Nat)))] [qb 2 rfl 3] aD fun f24 h24_ => ?_)))))
 have hb30 := hb20.upc
 refine sg (bK func133 rfl (h24_.at 10) (h24_.at 11) ((markRunS_n st18.f1 (k + (cL (cL aJ) x.shelf : Nat)) hb20.lo hb20.hi).mono ?_)); rintro _ W25 ⟨fp28, rfl, st27⟩; refine ⟨_, rfl, ?_⟩
 refine sg (aF (v := I ((k + (cL (cL aJ) x.shelf : Nat)) + (cL bU x.runs : Nat))) rfl (aB (wp_seq (aA (sg (aG (v := I ((k + (cL (cL aJ) x.shelf : Nat)) + (cL bU x.runs : Nat))) rfl (sg (aF (v := I ((k + (cL (cL aJ) x.shelf : Nat)) + (cL bU x.runs : Nat))) rfl (aB (wr (aM results39 rfl ?_)))))))))))
 have st36 := kY (x := (qQ x k)) st27.f1 hok11
 exact ⟨_, fI (by unfold bP; push_cast; omega), st36.d1⟩
theorem heldYard_n {x : Yard} {k : Int} (hc : Shape.C w cs (qQ x k) fp) (h0 : 0 ≤ k) (hk : k + (bP x : Nat) ≤ 4611686018427387904) :
  Calls prog 40 #[.agg cs.toArray, I k] w (rI_ (k + (bP x : Nat)) w) := by
 have hk2 := hk
 have hnt : bP x = cL (cL aJ) x.shelf + cL bU x.runs := rfl
 refine bC func40 rfl ntmps40 aU ?_
 have hb1 : Bd k ((cL (cL aJ) x.shelf) + ((cL bU x.runs) + (0))) := ⟨by omega, by omega⟩
 refine wp_seq (aA (sg (aH (cs := cs) rfl (St.start w) ?_))); intro b2 W3 hb4 st5
 refine sg (aE (aB (wp_seq (aA ?_))))
 have hk10 := hc
 obtain ⟨v10_0, v10_1, g10_0, g10_1, he10, hok10, h10_0, h10_1, rfl⟩ := hk10
 have he10 : _ = [I x.now, I x.seq, v10_0, v10_1] := he10; subst he10
 have h10_0 : Sl _ v10_0 (mkL (mkL cZ aJ) (cL aJ) x.shelf k) _ := h10_0
 have h10_1 : Sl _ v10_1 (mkL iK bU x.runs (k + (cL (cL aJ) x.shelf : Nat))) _ := h10_1
 refine rn st5 3 Ag.nil.put.put.put.put [] [(6, v10_0), (7, I k)] [qb 0 rfl 2] aD fun f11 h11_ => ?_
 have hb16 := hb1.upc
 refine sg (bK func134 rfl (h11_.at 6) (h11_.at 7) ((heldEntrySS_n W3 (x := x.shelf) (h10_0.below st5.below) hb1.lo hb1.hi).mono ?_)); rintro _ W12 ⟨rfl, hk13⟩; refine ⟨_, rfl, ?_⟩
 have st14 := St.call st5 hk13
 refine sg (aF (v := I (k + (cL (cL aJ) x.shelf : Nat))) rfl (aB (wp_seq (wp_seq (aA (sg (aG (v := I (k + (cL (cL aJ) x.shelf : Nat))) rfl (sg (bA rfl rfl (aB (aK rfl (fun h21p => ?_) (fun h21p => ?_))))))))))))
 ·exact absurd h21p (Int.not_lt.2 hb16.1)
 refine wp_skip (wp_seq (aA (rn st14 3 h11_.put.put.put.put [] [(12, v10_1), (13, I (k + (cL (cL aJ) x.shelf : Nat)))] [qb 0 rfl 3] aD fun f23 h23_ => ?_)))
 have hb28 := hb16.upc
 refine sg (bK func135 rfl (h23_.at 12) (h23_.at 13) ((heldRunS_n W12 (x := x.runs) (h10_1.below st14.below) hb16.lo hb16.hi).mono ?_)); rintro _ W24 ⟨rfl, hk25⟩; refine ⟨_, rfl, ?_⟩
 have st26 := St.call st14 hk25
 refine sg (aF (v := I ((k + (cL (cL aJ) x.shelf : Nat)) + (cL bU x.runs : Nat))) rfl (aB (wp_seq (wp_seq (aA (sg (aG (v := I ((k + (cL (cL aJ) x.shelf : Nat)) + (cL bU x.runs : Nat))) rfl (sg (bA rfl rfl (aB (aK rfl (fun h33p => ?_) (fun h33p => ?_))))))))))))
 ·exact absurd h33p (Int.not_lt.2 hb28.1)
 refine wp_skip (wp_seq (aA (sg (aG (v := I ((k + (cL (cL aJ) x.shelf : Nat)) + (cL bU x.runs : Nat))) rfl (sg (aF (v := I ((k + (cL (cL aJ) x.shelf : Nat)) + (cL bU x.runs : Nat))) rfl (aB (wr (aM results40 rfl ?_)))))))))
 exact ⟨fI aC, st26.bare⟩
theorem markWaitS_n {w W0 : World} {rs : List Res} {v : Value} {xs : List Wait} {fp : List Nat} (hst : St w W0 (Res.own v xs fp :: rs)) (k : Int) (h0 : 0 ≤ k) (hk : k + (cL bQ xs : Nat) ≤ 4611686018427387904) :
  Calls prog 144 #[v, I k] W0 fun e w' => ∃ fp', e = .returned (I (k + (cL bQ xs : Nat))) ∧ St w w' (Res.own v (mkL gP bQ xs k) fp' :: rs) := by
 have hcap := (aR (hst.get 0 rfl)).len_le
 refine bC func144 rfl ntmps144 aU (wp_seq (aA (sg (aE (aB (wp_seq (wp_seq (aA (sg (aE (aB (wp_block (aQ (fun (m : Nat) (f : Nat → Value) (W : World) => ∃ (i : Nat) (K : Int) (fo5 : List Nat), i ≤ xs.length ∧ K = k + (cL bQ (xs.take i) : Nat) ∧ m = xs.length - i ∧ Ag [(0, v), (1, I K), (5, I (i : Int))] f ∧ St w W (Res.own (α := List Wait) v (mkL gP bQ (xs.take i) k ++ xs.drop i) fo5 :: rs)) (xs.length - 0) ?_ ?_)))))))))))))
 ·exact ⟨0, k, fp, Nat.zero_le _, (by simp [cL]), rfl, (Ag.nil.put.put.put.put.to aD), (by simpa [mkL] using hst)⟩
 intro m6 f7 W8 hJ9
 obtain ⟨i, K, fo5, hi, hK, rfl, hA11, st10⟩ := hJ9
 have hlx : (mkL gP bQ (xs.take i) k ++ xs.drop i).length = xs.length := by rw [length_append, cY, length_take, length_drop]; omega
 refine wp_seq (wp_seq (aA (rn st10 4 hA11 [] [(9, .bool (decide ((i : Int) < ((mkL gP bQ (xs.take i) k ++ xs.drop i).length : Int))))] [ql (aR (st10.get 0 rfl)), .o] aD fun f13 h13_ => (aB (aK (h13_.at 9) (fun h14p => ?_) (fun h14p => ?_))))))
 ·refine wp_skip (wp_seq (wp_block (wp_seq (aA (rn st10 3 h13_ [] [(12, v), (13, I (i : Int)), (14, I K)] [] aD fun f16 h16_ => ?_)))))
  have hq_ := fC (xs := xs) (i := i) aC
  obtain ⟨y, hy⟩ := hq_
  have hcs := eL bQ hy
  have hcl := dI bQ xs (i + 1)
  have hne : bQ y = 5 := rfl
  have hb17 : Bd K (1 + (1 + (1 + (1 + (1 + (0)))))) := ⟨by omega, by omega⟩
  have hq_ := St.lendx (α := Wait) aU st10 (x := y) (lY hy)
  obtain ⟨b18, e18, pre18, cs18, post18, fi18, fr18, hPA18, hC18, st19⟩ := hq_
  obtain ⟨he18, hf18, hok18⟩ := hC18; have he18 : _ = [I y.call, I y.reply.code, I y.reply.run, I y.reply.task, I y.reply.try_] := he18; subst he18
  refine sg (aY zT (h16_.at 12) hPA18 (h16_.at 13) rfl (sg (aL fa_Wait_0 rfl (sgn (bB (i := 0) (v := I K) aD rfl (h16_.at 14) rfl rfl st19.d1 rfl bX rfl ?_))))); intro W26 st27
  refine aB (wp_seq (aA ?_))
  have hb29 := hb17.up
  refine rn st27 3 h16_.put.put [1] [(1, I (K + 1))] [.ad K 1 hb29.i64] aD fun f30 h30_ => (aB (wp_seq (aA (rn st27 6 h30_ [] [(21, I (K + 1)), (24, .pointer (some ⟨b18, pre18.length + 1, none⟩))] [qx hPA18] aD fun f32 h32_ => (sgn (bB (i := 1) (v := I (K + 1)) aD (h32_.at 24) (h32_.at 21) rfl rfl st27 rfl bX rfl ?_)))))); intro W33 st34
  refine aB (wp_seq (aA ?_))
  have hb36 := hb29.up
  refine rn st34 3 h32_ [1] [(1, I ((K + 1) + 1))] [.ad (K + 1) 1 hb36.i64] aD fun f37 h37_ => (aB (wp_seq (aA (rn st34 6 h37_ [] [(29, I ((K + 1) + 1)), (32, .pointer (some ⟨b18, pre18.length + 2, none⟩))] [qx hPA18] aD fun f39 h39_ => (sgn (bB (i := 2) (v := I ((K + 1) + 1)) aD (h39_.at 32) (h39_.at 29) rfl rfl st34 rfl bX rfl ?_)))))); intro W40 st41
  refine aB (wp_seq (aA ?_))
  have hb43 := hb36.up
  refine rn st41 3 h39_ [1] [(1, I (((K + 1) + 1) + 1))] [.ad ((K + 1) + 1) 1 hb43.i64] aD fun f44 h44_ => (aB (wp_seq (aA (lw h44_ [(0, v), (1, I (((K + 1) + 1) + 1)), (5, I (i : Int))] aD fun h47_ => (rn st41 6 h47_ [] [(37, I (((K + 1) + 1) + 1)), (40, .pointer (some ⟨b18, pre18.length + 3, none⟩))] [qx hPA18] aD fun f46 h46_ => (sgn (bB (i := 3) (v := I (((K + 1) + 1) + 1)) aD (h46_.at 40) (h46_.at 37) rfl rfl st41 rfl bX rfl ?_))))))); intro W48 st49
  refine aB (wp_seq (aA ?_))
  have hb51 := hb43.up
  refine rn st49 3 h46_ [1] [(1, I ((((K + 1) + 1) + 1) + 1))] [.ad (((K + 1) + 1) + 1) 1 hb51.i64] aD fun f52 h52_ => (aB (wp_seq (aA (rn st49 6 h52_ [] [(45, I ((((K + 1) + 1) + 1) + 1)), (48, .pointer (some ⟨b18, pre18.length + 4, none⟩))] [qx hPA18] aD fun f54 h54_ => (sgn (bB (i := 4) (v := I ((((K + 1) + 1) + 1) + 1)) aD (h54_.at 48) (h54_.at 45) rfl rfl st49 rfl bX rfl ?_)))))); intro W55 st56
  refine aB (aA ?_)
  have hb58 := hb51.up
  refine rn st56 3 h54_ [1] [(1, I (((((K + 1) + 1) + 1) + 1) + 1))] [.ad ((((K + 1) + 1) + 1) + 1) 1 hb58.i64] aD fun f59 h59_ => (aB (aA (rn st56 3 h59_ [5] [(5, I ((i : Int) + 1))] [qad (i : Int) 1] aD fun f61 h61_ => (aB ?_))))
  have st62 := st56.cs0 (cs := [I K, I (K + 1), I ((K + 1) + 1), I (((K + 1) + 1) + 1), I ((((K + 1) + 1) + 1) + 1)]) (x := (⟨K, ⟨K + 1, (K + 1) + 1, ((K + 1) + 1) + 1, (((K + 1) + 1) + 1) + 1⟩⟩ : Wait)) ⟨rfl, rfl, eQ⟩
  obtain ⟨fp67, st68⟩ := St.give (α := Wait) st62.f2.f1.f2
  exact ⟨_, xs.length - (i + 1), aC, rfl, i + 1, ((((K + 1) + 1) + 1) + 1) + 1, fp67, aC, aC, rfl, (h61_.to aD), (by rw [← jV hy hK]; exact st68)⟩
 refine wp_exit (wp_seq (aA (sg (aG (h13_.at 1) (sg (aF (v := I K) rfl (aB (wr (aM results144 rfl ?_)))))))))
 obtain rfl : i = xs.length := by omega
 have hca := gU bQ xs _ rfl
 rw [pI rfl] at st10
 exact ⟨_, fI aC, st10⟩
theorem heldWaitS_n {v : Value} {x : List Wait} {fp : List Nat} {k : Int} (h : Sl w v (mkL gP bQ x k) fp) (h0 : 0 ≤ k) (hk : k + (cL bQ x : Nat) ≤ 4611686018427387904) :
  Calls prog 146 #[v, I k] w (rI_ (k + (cL bQ x : Nat)) w) := by
 have hcap := h.len_le
 rw [cY] at hcap
 have hml : (mkL gP bQ x k).length = x.length := cY _ _
 refine bC func146 rfl ntmps146 aU (wp_seq (aA (sg (aE (aB (wp_seq (wp_seq (aA (sg (aE (aB (wp_block (aQ (fun (m : Nat) (f : Nat → Value) (W : World) => ∃ (i : Nat) (K : Int), i ≤ x.length ∧ K = k + (cL bQ (x.take i) : Nat) ∧ m = x.length - i ∧ Ag [(0, v), (1, I K), (5, I (i : Int))] f ∧ St w W ([])) (x.length - 0) ?_ ?_)))))))))))))
 ·exact ⟨0, k, Nat.zero_le _, (by simp [cL]), rfl, (Ag.nil.put.put.put.put.to aD), (St.start w)⟩
 intro m5 f6 W7 hJ8
 obtain ⟨i, K, hi, hK, rfl, hA10, st9⟩ := hJ8
 refine wp_seq (wp_seq (aA (rn st9 4 hA10 [] [(9, .bool (decide ((i : Int) < ((mkL gP bQ x k).length : Int))))] [ql h, .o] aD fun f12 h12_ => (aB (aK (h12_.at 9) (fun h13p => ?_) (fun h13p => ?_))))))
 ·refine wp_skip (wp_seq (wp_block (wp_seq (wp_seq (aA (sg (aG (h12_.at 0) (sg (aG (h12_.at 5) ?_)))))))))
  have hq_ := fC (xs := x) (i := i) aC
  obtain ⟨y, hy⟩ := hq_
  have hcs := eL bQ hy
  have hcl := dI bQ x (i + 1)
  have hne : bQ y = 5 := rfl
  have hb17 : Bd K (1 + (1 + (1 + (1 + (1 + (0)))))) := ⟨by omega, by omega⟩
  obtain ⟨b16, o16, cs16, f16, hp16, hr16, hc16, hm16⟩ := vP h hy hK
  have hk18 := hc16
  obtain ⟨he18, rfl, hok18⟩ := hk18
  have he18 : _ = [I K, I (K + 1), I ((K + 1) + 1), I (((K + 1) + 1) + 1), I ((((K + 1) + 1) + 1) + 1)] := he18; subst he18
  refine rn st9 5 h12_.put.put [] [(18, .bool (!decide (K = K)))] [qx hp16, qr hr16 0, .o] aD fun f20 h20_ => (aB (bE (h20_.at 18) (fun h21p => ?_) (fun h21p => ?_)))
  ·exact absurd rfl h21p
  refine wp_skip (wp_seq (aA ?_))
  have hb23 := hb17.up
  refine rn st9 3 h20_ [1] [(1, I (K + 1))] [.ad K 1 hb23.i64] aD fun f24 h24_ => (aB (wp_seq (wp_seq (aA (sg (aG (h24_.at 0) (sg (aG (h24_.at 5) (rn st9 6 h24_.put.put [] [(28, .bool (!decide ((K + 1) = (K + 1))))] [qx hp16, qr hr16 1, .o] aD fun f29 h29_ => (aB (bE (h29_.at 28) (fun h30p => ?_) (fun h30p => ?_))))))))))))
  ·exact absurd rfl h30p
  refine wp_skip (wp_seq (aA ?_))
  have hb32 := hb23.up
  refine rn st9 3 h29_ [1] [(1, I ((K + 1) + 1))] [.ad (K + 1) 1 hb32.i64] aD fun f33 h33_ => (aB (wp_seq (wp_seq (aA (sg (aG (h33_.at 0) (sg (aG (h33_.at 5) (lw h33_.put.put [(0, v), (1, I ((K + 1) + 1)), (5, I (i : Int)), (31, v), (32, I (i : Int))] aD fun h39_ => (rn st9 6 h39_ [] [(38, .bool (!decide (((K + 1) + 1) = ((K + 1) + 1))))] [qx hp16, qr hr16 2, .o] aD fun f38 h38_ => (aB (bE (h38_.at 38) (fun h40p => ?_) (fun h40p => ?_)))))))))))))
  ·exact absurd rfl h40p
  refine wp_skip (wp_seq (aA ?_))
  have hb42 := hb32.up
  refine rn st9 3 h38_ [1] [(1, I (((K + 1) + 1) + 1))] [.ad ((K + 1) + 1) 1 hb42.i64] aD fun f43 h43_ => (aB (wp_seq (wp_seq (aA (sg (aG (h43_.at 0) (sg (aG (h43_.at 5) (rn st9 6 h43_.put.put [] [(48, .bool (!decide ((((K + 1) + 1) + 1) = (((K + 1) + 1) + 1))))] [qx hp16, qr hr16 3, .o] aD fun f48 h48_ => (aB (bE (h48_.at 48) (fun h49p => ?_) (fun h49p => ?_))))))))))))
  ·exact absurd rfl h49p
  refine wp_skip (wp_seq (aA ?_))
  have hb51 := hb42.up
  refine rn st9 3 h48_ [1] [(1, I ((((K + 1) + 1) + 1) + 1))] [.ad (((K + 1) + 1) + 1) 1 hb51.i64] aD fun f52 h52_ => (aB (wp_seq (wp_seq (aA (sg (aG (h52_.at 0) (sg (aG (h52_.at 5) (rn st9 6 h52_.put.put [] [(58, .bool (!decide (((((K + 1) + 1) + 1) + 1) = ((((K + 1) + 1) + 1) + 1))))] [qx hp16, qr hr16 4, .o] aD fun f57 h57_ => (aB (bE (h57_.at 58) (fun h58p => ?_) (fun h58p => ?_))))))))))))
  ·exact absurd rfl h58p
  refine wp_skip (aA ?_)
  have hb60 := hb51.up
  refine rn st9 3 h57_ [1] [(1, I (((((K + 1) + 1) + 1) + 1) + 1))] [.ad ((((K + 1) + 1) + 1) + 1) 1 hb60.i64] aD fun f61 h61_ => (aB (aA (lw h61_ [(0, v), (1, I (((((K + 1) + 1) + 1) + 1) + 1)), (5, I (i : Int))] aD fun h64_ => (rn st9 3 h64_ [5] [(5, I ((i : Int) + 1))] [qad (i : Int) 1] aD fun f63 h63_ => (aB ?_)))))
  exact ⟨_, x.length - (i + 1), aC, rfl, i + 1, ((((K + 1) + 1) + 1) + 1) + 1, aC, aC, rfl, (h63_.to aD), st9⟩
 refine wp_exit (wp_seq (aA (sg (aG (h12_.at 1) (sg (aF (v := I K) rfl (aB (wr (aM results146 rfl ?_)))))))))
 obtain rfl : i = x.length := by omega
 have hca := gU bQ x _ rfl
 exact ⟨fI aC, st9.bare⟩
theorem markFileS_n {w W0 : World} {rs : List Res} {v : Value} {xs : List File} {fp : List Nat} (hst : St w W0 (Res.own v xs fp :: rs)) (k : Int) (h0 : 0 ≤ k) (hk : k + (cL bJ xs : Nat) ≤ 4611686018427387904) :
  Calls prog 131 #[v, I k] W0 fun e w' => ∃ fp', e = .returned (I (k + (cL bJ xs : Nat))) ∧ St w w' (Res.own v (mkL gA bJ xs k) fp' :: rs) := by
 have hcap := (aR (hst.get 0 rfl)).len_le
 refine bC func131 rfl ntmps131 aU (wp_seq (aA (sg (aE (aB (wp_seq (wp_seq (aA (sg (aE (aB (wp_block (aQ (fun (m : Nat) (f : Nat → Value) (W : World) => ∃ (i : Nat) (K : Int) (fo5 : List Nat), i ≤ xs.length ∧ K = k + (cL bJ (xs.take i) : Nat) ∧ m = xs.length - i ∧ Ag [(0, v), (1, I K), (5, I (i : Int))] f ∧ St w W (Res.own (α := List File) v (mkL gA bJ (xs.take i) k ++ xs.drop i) fo5 :: rs)) (xs.length - 0) ?_ ?_)))))))))))))
 ·exact ⟨0, k, fp, Nat.zero_le _, (by simp [cL]), rfl, (Ag.nil.put.put.put.put.to aD), (by simpa [mkL] using hst)⟩
 intro m6 f7 W8 hJ9
 obtain ⟨i, K, fo5, hi, hK, rfl, hA11, st10⟩ := hJ9
 have hlx : (mkL gA bJ (xs.take i) k ++ xs.drop i).length = xs.length := by rw [length_append, cY, length_take, length_drop]; omega
 refine wp_seq (wp_seq (aA (rn st10 4 hA11 [] [(9, .bool (decide ((i : Int) < ((mkL gA bJ (xs.take i) k ++ xs.drop i).length : Int))))] [ql (aR (st10.get 0 rfl)), .o] aD fun f13 h13_ => (aB (aK (h13_.at 9) (fun h14p => ?_) (fun h14p => ?_))))))
 ·refine wp_skip (wp_seq (wp_block (wp_seq (aA (rn st10 3 h13_ [] [(12, v), (13, I (i : Int)), (14, I K)] [] aD fun f16 h16_ => ?_)))))
  have hq_ := fC (xs := xs) (i := i) aC
  obtain ⟨y, hy⟩ := hq_
  have hcs := eL bJ hy
  have hcl := dI bJ xs (i + 1)
  have hne : bJ y = 3 := rfl
  have hb17 : Bd K (1 + (1 + (1 + (0)))) := ⟨by omega, by omega⟩
  have hq_ := St.lendx (α := File) aU st10 (x := y) (lY hy)
  obtain ⟨b18, e18, pre18, cs18, post18, fi18, fr18, hPA18, hC18, st19⟩ := hq_
  obtain ⟨he18, hf18, hok18⟩ := hC18; have he18 : _ = [.string y.name, .string y.data, I y.safe] := he18; subst he18
  refine rc st19.d1 3 h16_ [] [(15, .string (fY K)), (17, .pointer (some ⟨b18, pre18.length, none⟩))] [qc func247 rfl (fun W s b => lZ W K aC), qx hPA18] aD fun f25 W26 h25_ st27 hb28 => (sgn (bB (i := 0) (v := .string (fY K)) aD (h25_.at 17) (h25_.at 15) rfl rfl st27 rfl bX rfl ?_)); intro W29 st30
  refine aB (wp_seq (aA ?_))
  have hb32 := hb17.up
  refine rn st30 3 h25_ [1] [(1, I (K + 1))] [.ad K 1 hb32.i64] aD fun f33 h33_ => (aB (wp_seq (aA (rc st30 6 h33_ [] [(23, .string (fY (K + 1))), (25, .pointer (some ⟨b18, pre18.length + 1, none⟩))] [qc func247 rfl (fun W s b => lZ W (K + 1) aC), qx hPA18] aD fun f35 W36 h35_ st37 hb38 => (sgn (bB (i := 1) (v := .string (fY (K + 1))) aD (h35_.at 25) (h35_.at 23) rfl rfl st37 rfl bX rfl ?_)))))); intro W39 st40
  refine aB (wp_seq (aA ?_))
  have hb42 := hb32.up
  refine rn st40 3 h35_ [1] [(1, I ((K + 1) + 1))] [.ad (K + 1) 1 hb42.i64] aD fun f43 h43_ => (aB (wp_seq (aA (rn st40 5 h43_ [] [(30, I ((K + 1) + 1)), (32, .pointer (some ⟨b18, pre18.length + 2, none⟩))] [qx hPA18] aD fun f45 h45_ => (sgn (bB (i := 2) (v := I ((K + 1) + 1)) aD (h45_.at 32) (h45_.at 30) rfl rfl st40 rfl bX rfl ?_)))))); intro W46 st47
  refine aB (aA ?_)
  have hb49 := hb42.up
  refine rn st47 3 h45_ [1] [(1, I (((K + 1) + 1) + 1))] [.ad ((K + 1) + 1) 1 hb49.i64] aD fun f50 h50_ => (aB (aA (lw h50_ [(0, v), (1, I (((K + 1) + 1) + 1)), (5, I (i : Int))] aD fun h53_ => (rn st47 3 h53_ [5] [(5, I ((i : Int) + 1))] [qad (i : Int) 1] aD fun f52 h52_ => (aB ?_)))))
  have st54 := st47.cs0 (cs := [.string (fY K), .string (fY (K + 1)), I ((K + 1) + 1)]) (x := (⟨fY K, fY (K + 1), (K + 1) + 1⟩ : File)) ⟨rfl, rfl, (by refine ⟨vK ?_, vK ?_, ?_⟩ <;> (first | omega | (simp only [I64]; omega)))⟩
  obtain ⟨fp59, st60⟩ := St.give (α := File) st54.f2.f1.f2
  exact ⟨_, xs.length - (i + 1), aC, rfl, i + 1, ((K + 1) + 1) + 1, fp59, aC, aC, rfl, (h52_.to aD), (by rw [← jV hy hK]; exact st60)⟩
 refine wp_exit (wp_seq (aA (sg (aG (h13_.at 1) (sg (aF (v := I K) rfl (aB (wr (aM results131 rfl ?_)))))))))
 obtain rfl : i = xs.length := by omega
 have hca := gU bJ xs _ rfl
 rw [pI rfl] at st10
 exact ⟨_, fI aC, st10⟩
theorem heldFileS_n {v : Value} {x : List File} {fp : List Nat} {k : Int} (h : Sl w v (mkL gA bJ x k) fp) (h0 : 0 ≤ k) (hk : k + (cL bJ x : Nat) ≤ 4611686018427387904) :
  Calls prog 260 #[v, I k] w (rI_ (k + (cL bJ x : Nat)) w) := by
 have hcap := h.len_le
 rw [cY] at hcap
 have hml : (mkL gA bJ x k).length = x.length := cY _ _
 refine bC func260 rfl ntmps260 aU (wp_seq (aA (sg (aE (aB (wp_seq (wp_seq (aA (sg (aE (aB (wp_block (aQ (fun (m : Nat) (f : Nat → Value) (W : World) => ∃ (i : Nat) (K : Int), i ≤ x.length ∧ K = k + (cL bJ (x.take i) : Nat) ∧ m = x.length - i ∧ Ag [(0, v), (1, I K), (5, I (i : Int))] f ∧ St w W ([])) (x.length - 0) ?_ ?_)))))))))))))
 ·exact ⟨0, k, Nat.zero_le _, (by simp [cL]), rfl, (Ag.nil.put.put.put.put.to aD), (St.start w)⟩
 intro m5 f6 W7 hJ8
 obtain ⟨i, K, hi, hK, rfl, hA10, st9⟩ := hJ8
 refine wp_seq (wp_seq (aA (rn st9 4 hA10 [] [(9, .bool (decide ((i : Int) < ((mkL gA bJ x k).length : Int))))] [ql h, .o] aD fun f12 h12_ => (aB (aK (h12_.at 9) (fun h13p => ?_) (fun h13p => ?_))))))
 ·refine wp_skip (wp_seq (wp_block (wp_seq (wp_seq ?_))))
  have hq_ := fC (xs := x) (i := i) aC
  obtain ⟨y, hy⟩ := hq_
  have hcs := eL bJ hy
  have hcl := dI bJ x (i + 1)
  have hne : bJ y = 3 := rfl
  have hb16 : Bd K (1 + (1 + (1 + (0)))) := ⟨by omega, by omega⟩
  obtain ⟨b15, o15, cs15, f15, hp15, hr15, hc15, hm15⟩ := vP h hy hK
  have hk17 := hc15
  obtain ⟨he17, rfl, hok17⟩ := hk17
  have he17 : _ = [.string (fY K), .string (fY (K + 1)), I ((K + 1) + 1)] := he17; subst he17
  refine rd st9 h12_ [] [(19, .bool (!decide ((fY K) = (fY K))))] [qx hp15, qr hr15 0, qc func247 rfl (fun W s b => lZ W K aC), .o] aD aD fun f18 W19 h18_ st20 hb21 => (bE (h18_.at 19) (fun h22p => ?_) (fun h22p => ?_))
  ·exact absurd rfl h22p
  refine wp_skip (wp_seq (aA ?_))
  have hb24 := hb16.up
  refine rn st20 3 h18_ [1] [(1, I (K + 1))] [.ad K 1 hb24.i64] aD fun f25 h25_ => (aB (wp_seq (wp_seq (rd st20 h25_ [] [(29, .bool (!decide ((fY (K + 1)) = (fY (K + 1)))))] [qx hp15, qr hr15 1, qc func247 rfl (fun W s b => lZ W (K + 1) aC), .o] aD aD fun f28 W29 h28_ st30 hb31 => (bE (h28_.at 29) (fun h32p => ?_) (fun h32p => ?_))))))
  ·exact absurd rfl h32p
  refine wp_skip (wp_seq (aA ?_))
  have hb34 := hb24.up
  refine rn st30 3 h28_ [1] [(1, I ((K + 1) + 1))] [.ad (K + 1) 1 hb34.i64] aD fun f35 h35_ => (aB (wp_seq (wp_seq (aA (sg (aG (h35_.at 0) (sg (aG (h35_.at 5) (rn st30 5 h35_.put.put [] [(38, .bool (!decide (((K + 1) + 1) = ((K + 1) + 1))))] [qx hp15, qr hr15 2, .o] aD fun f40 h40_ => (aB (bE (h40_.at 38) (fun h41p => ?_) (fun h41p => ?_))))))))))))
  ·exact absurd rfl h41p
  refine wp_skip (aA ?_)
  have hb43 := hb34.up
  refine rn st30 3 h40_ [1] [(1, I (((K + 1) + 1) + 1))] [.ad ((K + 1) + 1) 1 hb43.i64] aD fun f44 h44_ => (aB (aA (lw h44_ [(0, v), (1, I (((K + 1) + 1) + 1)), (5, I (i : Int))] aD fun h47_ => (rn st30 3 h47_ [5] [(5, I ((i : Int) + 1))] [qad (i : Int) 1] aD fun f46 h46_ => (aB ?_)))))
  exact ⟨_, x.length - (i + 1), aC, rfl, i + 1, ((K + 1) + 1) + 1, aC, aC, rfl, (h46_.to aD), st30⟩
 refine wp_exit (wp_seq (aA (sg (aG (h12_.at 1) (sg (aF (v := I K) rfl (aB (wr (aM results260 rfl ?_)))))))))
 obtain rfl : i = x.length := by omega
 have hca := gU bJ x _ rfl
 exact ⟨fI aC, st9.bare⟩
theorem markDisk_n {w W0 : World} {rs : List Res} {x : Disk} {cs : List Value} {fp : List Nat} (hst : St w W0 (Res.own (.agg cs.toArray) x fp :: rs)) (k : Int) (h0 : 0 ≤ k) (hk : k + (cG x : Nat) ≤ 4611686018427387904) :
  Calls prog 38 #[.agg cs.toArray, I k] W0 fun e w' => ∃ fp', e = .returned (I (k + (cG x : Nat))) ∧ St w w' (Res.own (.agg cs.toArray) (qS x k) fp' :: rs) := by
 have hk2 := hk
 unfold cG at hk2
 refine bC func38 rfl ntmps38 aU ?_
 have hb1 : Bd k ((cL bJ x.files) + (0)) := ⟨by omega, by omega⟩
 refine wp_seq (aA (sg (aH (cs := cs) rfl hst ?_))); intro b2 W3 hb4 st5
 refine sg (aE (aB (wp_seq (aA ?_))))
 obtain ⟨v11_0, g11_0, he11, hok11, st12⟩ := sC st5.f1
 subst he11
 refine rn st12 3 Ag.nil.put.put.put.put [] [(6, v11_0), (7, I k)] [qb 1 rfl 0] aD fun f14 h14_ => ?_
 have hb19 := hb1.upc
 refine sg (bK func131 rfl (h14_.at 6) (h14_.at 7) ((markFileS_n st12 k hb1.lo hb1.hi).mono ?_)); rintro _ W15 ⟨fp18, rfl, st17⟩; refine ⟨_, rfl, ?_⟩
 refine sg (aF (v := I (k + (cL bJ x.files : Nat))) rfl (aB (wp_seq (aA (sg (aG (v := I (k + (cL bJ x.files : Nat))) rfl (sg (aF (v := I (k + (cL bJ x.files : Nat))) rfl (aB (wr (aM results38 rfl ?_)))))))))))
 have st24 := rX (x := (qS x k)) st17 hok11
 exact ⟨_, fI (by unfold cG; push_cast; omega), st24.d1⟩
theorem heldDisk_n {x : Disk} {k : Int} (hc : Shape.C w cs (qS x k) fp) (h0 : 0 ≤ k) (hk : k + (cG x : Nat) ≤ 4611686018427387904) :
  Calls prog 145 #[.agg cs.toArray, I k] w (rI_ (k + (cG x : Nat)) w) := by
 have hk2 := hk
 have hnt : cG x = cL bJ x.files := rfl
 refine bC func145 rfl ntmps145 aU ?_
 have hb1 : Bd k ((cL bJ x.files) + (0)) := ⟨by omega, by omega⟩
 refine wp_seq (aA (sg (aH (cs := cs) rfl (St.start w) ?_))); intro b2 W3 hb4 st5
 refine sg (aE (aB (wp_seq (aA ?_))))
 have hk10 := hc
 obtain ⟨v10_0, g10_0, he10, hok10, h10_0, rfl⟩ := hk10
 have he10 : _ = [v10_0] := he10; subst he10
 have h10_0 : Sl _ v10_0 (mkL gA bJ x.files k) _ := h10_0
 refine rn st5 3 Ag.nil.put.put.put.put [] [(6, v10_0), (7, I k)] [qb 0 rfl 0] aD fun f11 h11_ => ?_
 have hb16 := hb1.upc
 refine sg (bK func260 rfl (h11_.at 6) (h11_.at 7) ((heldFileS_n W3 (x := x.files) (h10_0.below st5.below) hb1.lo hb1.hi).mono ?_)); rintro _ W12 ⟨rfl, hk13⟩; refine ⟨_, rfl, ?_⟩
 have st14 := St.call st5 hk13
 refine sg (aF (v := I (k + (cL bJ x.files : Nat))) rfl (aB (wp_seq (wp_seq (aA (sg (aG (v := I (k + (cL bJ x.files : Nat))) rfl (sg (bA rfl rfl (aB (aK rfl (fun h21p => ?_) (fun h21p => ?_))))))))))))
 ·exact absurd h21p (Int.not_lt.2 hb16.1)
 refine wp_skip (wp_seq (aA (sg (aG (v := I (k + (cL bJ x.files : Nat))) rfl (sg (aF (v := I (k + (cL bJ x.files : Nat))) rfl (aB (wr (aM results145 rfl ?_)))))))))
 exact ⟨fI aC, st14.bare⟩
theorem qT {w W0 : World} {rs : List Res} {x : Engine} {cs : List Value} {fp : List Nat} (hst : St w W0 (Res.own (.agg cs.toArray) x fp :: rs)) (k : Int) (h0 : 0 ≤ k) (hk : k + (cB x : Nat) ≤ 4611686018427387904) :
  Calls prog 45 #[.agg cs.toArray, I k] W0 fun e w' => ∃ fp', e = .returned (I (k + (cB x : Nat))) ∧ St w w' (Res.own (.agg cs.toArray) (jW x k) fp' :: rs) := by
 have hk2 := hk
 unfold cB at hk2
 refine bC func45 rfl ntmps45 aU ?_
 have hb1 : Bd k ((bP x.yard) + ((cG x.disk) + ((cL bQ x.waits) + (0)))) := ⟨by omega, by omega⟩
 refine wp_seq (aA (sg (aH (cs := cs) rfl hst ?_))); intro b2 W3 hb4 st5
 refine sg (aE (aB (wp_seq (aA ?_))))
 obtain ⟨v11_0, v11_1, v11_2, v11_3, g11_0, g11_1, g11_2, g11_3, he11, hok11, st12⟩ := open_Engine st5.f1
 subst he11
 refine rn st12 3 Ag.nil.put.put.put.put [] [(6, .agg #[I x.yard.now, I x.yard.seq, v11_0, v11_1]), (7, I k)] [qb 4 rfl 0] aD fun f17 h17_ => ?_
 have st24 := kY (x := x.yard) st12.f1.f1 eQ
 have hb26 := hb1.upc
 refine sg (bK func39 rfl (h17_.at 6) (h17_.at 7) ((markYard_n st24 k hb1.lo hb1.hi).mono ?_)); rintro _ W18 ⟨fp21, rfl, st20⟩; refine ⟨_, rfl, ?_⟩
 obtain ⟨vq27_0, vq27_1, fq27_0, fq27_1, heq27, hokq27, st28⟩ := sA st20
 have ev27_0 := Option.some.inj (congrArg (fun l : List Value => l[2]?) heq27); subst ev27_0
 have ev27_1 := Option.some.inj (congrArg (fun l : List Value => l[3]?) heq27); subst ev27_1
 refine sg (aF (v := I (k + (bP x.yard : Nat))) rfl (aB (wp_seq (aA (rn st28 3 h17_.put.put [] [(10, .agg #[v11_2]), (11, I (k + (bP x.yard : Nat)))] [qb 4 rfl 4] aD fun f32 h32_ => ?_)))))
 have st38 := rX (x := x.disk) st28.f2 eQ
 have hb40 := hb26.upc
 refine sg (bK func38 rfl (h32_.at 10) (h32_.at 11) ((markDisk_n st38 (k + (bP x.yard : Nat)) hb26.lo hb26.hi).mono ?_)); rintro _ W33 ⟨fp36, rfl, st35⟩; refine ⟨_, rfl, ?_⟩
 obtain ⟨vq41_0, fq41_0, heq41, hokq41, st42⟩ := sC st35
 have ev41_0 := Option.some.inj (congrArg (fun l : List Value => l[0]?) heq41); subst ev41_0
 refine sg (aF (v := I ((k + (bP x.yard : Nat)) + (cG x.disk : Nat))) rfl (aB (wp_seq (aA (rn st42 3 h32_.put.put [] [(14, v11_3), (15, I ((k + (bP x.yard : Nat)) + (cG x.disk : Nat)))] [qb 4 rfl 7] aD fun f46 h46_ => ?_)))))
 have hb52 := hb40.upc
 refine sg (bK func144 rfl (h46_.at 14) (h46_.at 15) ((markWaitS_n st42.f3 ((k + (bP x.yard : Nat)) + (cG x.disk : Nat)) hb40.lo hb40.hi).mono ?_)); rintro _ W47 ⟨fp50, rfl, st49⟩; refine ⟨_, rfl, ?_⟩
 refine sg (aF (v := I (((k + (bP x.yard : Nat)) + (cG x.disk : Nat)) + (cL bQ x.waits : Nat))) rfl (aB (wp_seq (aA (sg (aG (v := I (((k + (bP x.yard : Nat)) + (cG x.disk : Nat)) + (cL bQ x.waits : Nat))) rfl (sg (aF (v := I (((k + (bP x.yard : Nat)) + (cG x.disk : Nat)) + (cL bQ x.waits : Nat))) rfl (aB (wr (aM results45 rfl ?_)))))))))))
 have st60 := tB (x := (jW x k)) st49.f1.f3.f3 hok11
 exact ⟨_, fI (by unfold cB; push_cast; omega), st60.d1⟩
theorem qW {x : Engine} {k : Int} (hc : Shape.C w cs (jW x k) fp) (h0 : 0 ≤ k) (hk : k + (cB x : Nat) ≤ 4611686018427387904) :
  Calls prog 46 #[.agg cs.toArray, I k] w (rI_ (k + (cB x : Nat)) w) := by
 have hk2 := hk
 have hnt : cB x = bP x.yard + cG x.disk + cL bQ x.waits := rfl
 refine bC func46 rfl ntmps46 aU ?_
 have hb1 : Bd k ((bP x.yard) + ((cG x.disk) + ((cL bQ x.waits) + (0)))) := ⟨by omega, by omega⟩
 refine wp_seq (aA (sg (aH (cs := cs) rfl (St.start w) ?_))); intro b2 W3 hb4 st5
 refine sg (aE (aB (wp_seq (aA ?_))))
 have hk10 := hc
 obtain ⟨v10_0, v10_1, v10_2, v10_3, g10_0, g10_1, g10_2, g10_3, he10, hok10, h10_0, h10_1, h10_2, h10_3, rfl⟩ := hk10
 have he10 : _ = [I x.yard.now, I x.yard.seq, v10_0, v10_1, v10_2, I x.next, I x.calls, v10_3, I x.state, .bool x.broken] := he10; subst he10
 have h10_0 : Sl _ v10_0 (mkL (mkL cZ aJ) (cL aJ) x.yard.shelf k) _ := h10_0
 have h10_1 : Sl _ v10_1 (mkL iK bU x.yard.runs (k + (cL (cL aJ) x.yard.shelf : Nat))) _ := h10_1
 have h10_2 : Sl _ v10_2 (mkL gA bJ x.disk.files (k + (bP x.yard : Nat))) _ := h10_2
 have h10_3 : Sl _ v10_3 (mkL gP bQ x.waits ((k + (bP x.yard : Nat)) + (cG x.disk : Nat))) _ := h10_3
 refine rn st5 3 Ag.nil.put.put.put.put [] [(6, .agg #[I x.yard.now, I x.yard.seq, v10_0, v10_1]), (7, I k)] [qb 0 rfl 0] aD fun f11 h11_ => ?_
 have hb16 := hb1.upc
 refine sg (bK func40 rfl (h11_.at 6) (h11_.at 7) ((heldYard_n W3 (x := x.yard) (show Shape.C _ [I x.yard.now, I x.yard.seq, v10_0, v10_1] (jW x k).yard _ from ⟨_, _, _, _, rfl, eQ, (h10_0.below st5.below), (h10_1.below st5.below), rfl⟩) hb1.lo hb1.hi).mono ?_)); rintro _ W12 ⟨rfl, hk13⟩; refine ⟨_, rfl, ?_⟩
 have st14 := St.call st5 hk13
 refine sg (aF (v := I (k + (bP x.yard : Nat))) rfl (aB (wp_seq (wp_seq (aA (sg (aG (v := I (k + (bP x.yard : Nat))) rfl (sg (bA rfl rfl (aB (aK rfl (fun h21p => ?_) (fun h21p => ?_))))))))))))
 ·exact absurd h21p (Int.not_lt.2 hb16.1)
 refine wp_skip (wp_seq (aA (rn st14 3 h11_.put.put.put.put [] [(12, .agg #[v10_2]), (13, I (k + (bP x.yard : Nat)))] [qb 0 rfl 4] aD fun f23 h23_ => ?_)))
 have hb28 := hb16.upc
 refine sg (bK func145 rfl (h23_.at 12) (h23_.at 13) ((heldDisk_n W12 (x := x.disk) (show Shape.C _ [v10_2] (jW x k).disk _ from ⟨_, _, rfl, eQ, (h10_2.below st14.below), rfl⟩) hb16.lo hb16.hi).mono ?_)); rintro _ W24 ⟨rfl, hk25⟩; refine ⟨_, rfl, ?_⟩
 have st26 := St.call st14 hk25
 refine sg (aF (v := I ((k + (bP x.yard : Nat)) + (cG x.disk : Nat))) rfl (aB (wp_seq (wp_seq (aA (sg (aG (v := I ((k + (bP x.yard : Nat)) + (cG x.disk : Nat))) rfl (sg (bA rfl rfl (aB (aK rfl (fun h33p => ?_) (fun h33p => ?_))))))))))))
 ·exact absurd h33p (Int.not_lt.2 hb28.1)
 refine wp_skip (wp_seq (aA (lw h23_.put.put.put.put [(1, I ((k + (bP x.yard : Nat)) + (cG x.disk : Nat))), (2, pt_ b2)] aD fun h36_ => (rn st26 3 h36_ [] [(18, v10_3), (19, I ((k + (bP x.yard : Nat)) + (cG x.disk : Nat)))] [qb 0 rfl 7] aD fun f35 h35_ => ?_))))
 have hb41 := hb28.upc
 refine sg (bK func146 rfl (h35_.at 18) (h35_.at 19) ((heldWaitS_n W24 (x := x.waits) (h10_3.below st26.below) hb28.lo hb28.hi).mono ?_)); rintro _ W37 ⟨rfl, hk38⟩; refine ⟨_, rfl, ?_⟩
 have st39 := St.call st26 hk38
 refine sg (aF (v := I (((k + (bP x.yard : Nat)) + (cG x.disk : Nat)) + (cL bQ x.waits : Nat))) rfl (aB (wp_seq (wp_seq (aA (sg (aG (v := I (((k + (bP x.yard : Nat)) + (cG x.disk : Nat)) + (cL bQ x.waits : Nat))) rfl (sg (bA rfl rfl (aB (aK rfl (fun h46p => ?_) (fun h46p => ?_))))))))))))
 ·exact absurd h46p (Int.not_lt.2 hb41.1)
 refine wp_skip (wp_seq (aA (sg (aG (v := I (((k + (bP x.yard : Nat)) + (cG x.disk : Nat)) + (cL bQ x.waits : Nat))) rfl (sg (aF (v := I (((k + (bP x.yard : Nat)) + (cG x.disk : Nat)) + (cL bQ x.waits : Nat))) rfl (aB (wr (aM results46 rfl ?_)))))))))
 exact ⟨fI aC, st39.bare⟩
theorem mark_law (cs0 : List Value) (x0 : Engine) (fp0 : List Nat) (hc0 : Shape.C w cs0 x0 fp0) (n1 : Int) (hn1 : I64 n1) :
  Calls prog 7 #[.agg cs0.toArray, I n1] w fun e w' => e = .returned (.bool true) ∧ Below w.heap.size w w' := by
 have hwm : (kE x0 n1).wt ≤ x0.wt + 1500000 := mrk_wt x0 n1
 refine bC func7 rfl ntmps7 aU (wp_seq (aA (sg (aH (cs := cs0) rfl (St.start w) ?_)))); intro b1 W2 hb3 st4
 refine sg (aE (aB (wp_seq (aA (sg (aE (aB (wp_seq (aA (rc st4 4 Ag.nil.put.put.put.put.put [5] [(5, I (szL 1048576 x0.wt))] [qw 0 rfl (Shape.len hc0), qc func41 rfl (fun W s b => szEngine_n W (bG hc0 s.below) 1048576 aC aC)] aD fun f11 W12 h11_ st13 hb14 => (aB (wp_seq (wp_seq ?_)))))))))))))
 refine aA (sg (aG (h11_.at 5) (sg (bA rfl rfl (aB (aK rfl (fun h17p => ?_) (fun h17p => ?_)))))))
 ·have h17q := hU h17p aC
  refine wp_seq (aA (sg (aE (aB (wr (aM results7 rfl ?_))))))
  exact ⟨rfl, st13.below⟩
 have h17q := hX h17p aC
 refine wp_skip (wp_seq (aA (sg (dB mC rfl (h11_.at 2) (st13.get 0 rfl) (Shape.len hc0) (sg (bO func43 rfl rfl ((lN W12 (bG hc0 st13.below) (by first | exact hw | omega | (simp only [Plan.wt, Run.wt, Yard.wt, Deed.wt, Note.wt, File.wt, Disk.wt, Engine.wt, WorldD.wt, ActD.wt, Span.wt, Crew.wt] at *; omega))).mono ?_))))))); rintro _ W24 ⟨cs22, fp22, rfl, hk25⟩; refine ⟨_, rfl, ?_⟩
 have st26 := St.call st13 hk25
 refine sg (aG (h11_.at 1) (sg (bK func47 rfl rfl rfl ((MarkSC W24 (dN (st26.get 0 rfl) rfl) n1 aC).mono ?_)))); rintro _ W32 ⟨cs30, fp30, rfl, hk33⟩; refine ⟨_, rfl, ?_⟩
 have st34 := St.call st26 hk33
 refine rn st34 3 h11_.put.put.put.put.put.put [] [(26, .agg cs30.toArray), (27, .bool (oK x0 n1))] [] aD fun f37 h37_ => (sg (aT jH st34 ?_)); intro b38 W39 hb40 st41
 refine sgn (bR (cs := cs30) eJ (dN (st41.get 1 rfl) rfl) rfl (h37_.at 26) st41 rfl ?_); intro W43 st44
 refine sg (aF (h37_.at 27) (aB (wp_seq (aA (sg (dB mC rfl (h37_.at 2) (st44.get 3 rfl) (Shape.len hc0) (sg (bO func43 rfl rfl ((lN W43 (bG hc0 st44.below) (by first | exact hw | omega | (simp only [Plan.wt, Run.wt, Yard.wt, Deed.wt, Note.wt, File.wt, Disk.wt, Engine.wt, WorldD.wt, ActD.wt, Span.wt, Crew.wt] at *; omega))).mono ?_))))))))); rintro _ W51 ⟨cs49, fp49, rfl, hk52⟩; refine ⟨_, rfl, ?_⟩
 have st53 := St.call st44 hk52
 refine sg (aT jH st53 ?_); intro b55 W56 hb57 st58
 refine sgn (bR (cs := cs49) eJ (dN (st58.get 1 rfl) rfl) rfl rfl st58 rfl ?_); intro W60 st61
 refine aB (wp_seq (aA (sg (dB eJ rfl rfl (st61.get 0 rfl) (Shape.len (dN (st61.get 1 rfl) rfl)) (sg (aG (h37_.at 1) (sg (bK func19 rfl rfl rfl ((aP6 W60 (dN (st61.get 1 rfl) rfl) n1 aC).mono ?_))))))))); rintro _ W66 ⟨cs64, fp64, rfl, hk67⟩; refine ⟨_, rfl, ?_⟩
 have st68 := St.call st61 hk67
 refine lw h37_.put.put.put.put.put.put.put.put [(1, I n1), (2, pt_ b1), (6, pt_ b38), (7, .bool (oK x0 n1)), (8, pt_ b55), (33, .tuple #[.agg cs64.toArray, .bool (oK x0 n1)])] aD fun h72_ => (rn st68 3 h72_ [] [(34, .agg cs64.toArray), (35, .bool (oK x0 n1))] [] aD fun f71 h71_ => (sg (aT jH st68 ?_))); intro b73 W74 hb75 st76
 refine sgn (bR (cs := cs64) eJ (dN (st76.get 1 rfl) rfl) rfl (h71_.at 34) st76 rfl ?_); intro W78 st79
 refine sg (aF (h71_.at 35) (aB (wp_seq (wp_seq (aA ?_)))))
 rcases bd (!(eqB (kE x0 n1) (kE x0 n1))) with h83 | h83
 ·refine rc st79 7 h71_.put.put [] [(40, .bool false), (41, .bool (oK x0 n1)), (42, .bool (oK x0 n1))] [qw 0 rfl (Shape.len (dN (st79.get 1 rfl) rfl)), qw 4 rfl (Shape.len (dN (st79.get 5 rfl) rfl)), qc func44 rfl (fun W s b => mI W (dN (s.get 1 rfl) rfl) (dN (s.get 5 rfl) rfl)), qk h83] aD fun f84 W85 h84_ st86 hb87 => (sgo 40 rfl aU (aL0 (h84_.at 40) rfl) (pV underlying4 (h84_.at 41) (h84_.at 42) (sg (hY (h84_.at 40) rfl (aB (cF rfl (fun h90 => ?_) (fun h90 => ?_)))))))
  ·exact absurd (aO h90) (by simp)
  refine wp_skip (wp_seq (wp_seq (iH 3 [(some 2, none, .of (ι := List Value × List Nat) [47] (fun ⟨cs91, fp91⟩ => [.agg cs91.toArray]) (fun ⟨cs91, fp91⟩ => Res.own (α := Engine) (.agg cs91.toArray) x0 fp91))] [(true, .is (.agg cs49.toArray)), (true, .is (.agg cs0.toArray)), (false, .ex (fun (cs91 : List Value) => .agg cs91.toArray))] mix aD aD aD aD (rs0 := []) rfl st86 (Below.refl _ _) ⟨(fun f W hst hbl hd hf => dB eJ rfl ((hf 8 rfl).trans (h84_.at 8)) (hst.get 2 rfl) (Shape.len (dN (hst.get 3 rfl) rfl)) brq), (fun f W hst hbl hd hf => dB mC rfl ((hf 2 rfl).trans (h84_.at 2)) (hst.get 7 rfl) (Shape.len hc0) brq), ?_, trivial⟩ ?_)))
  ·intro f W ru oth hu hst hbl hd hf
   have hn_ : ru = [] := hu
   subst hn_
   try simp only [iU, iS] at hst
   refine (bO func43 rfl (hd 1 46 rfl rfl) ((lN W (bG hc0 hst.below) (by first | exact hw | omega | (simp only [Plan.wt, Run.wt, Yard.wt, Deed.wt, Note.wt, File.wt, Disk.wt, Engine.wt, WorldD.wt, ActD.wt, Span.wt, Crew.wt] at *; omega))).mono ?_)); rintro _ W93 ⟨cs91, fp91, rfl, hk94⟩; refine ⟨_, rfl, ?_⟩
   have st95 := St.call hst hk94
   exact ⟨⟨cs91, rfl⟩, ⟨_, ⟨_, _, rfl, ⟨(cs91, fp91), (ce rfl rfl), rfl⟩, rfl⟩, st95⟩, (hbl.trans (Below.mono hk94.below hbl.size))⟩
  intro f97 W98 rs_ hAL_ st101 hbl102 hv99 hf100
  obtain ⟨_, _, rfl, ⟨⟨cs91, fp91⟩, he103, rfl⟩, hn_⟩ := hAL_
  have hn_ : _ = [] := hn_
  subst hn_
  have hu103_47 : f97 47 = .agg cs91.toArray := congrArg (fun l => l.getD 0 undef) he103
  try simp only [iU, iS] at st101
  refine rc st101 2 (Ag.cons (show f97 1 = I n1 from ((hf100 1 rfl).trans (h84_.at 1))) (Ag.cons (show f97 2 = pt_ b1 from ((hf100 2 rfl).trans (h84_.at 2))) (Ag.cons (show f97 6 = pt_ b38 from ((hf100 6 rfl).trans (h84_.at 6))) (Ag.cons (show f97 7 = .bool (oK x0 n1) from ((hf100 7 rfl).trans (h84_.at 7))) (Ag.cons (show f97 8 = pt_ b55 from ((hf100 8 rfl).trans (h84_.at 8))) (Ag.cons (show f97 9 = pt_ b73 from ((hf100 9 rfl).trans (h84_.at 9))) (Ag.cons (show f97 10 = .bool (oK x0 n1) from ((hf100 10 rfl).trans (h84_.at 10))) (Ag.cons (show f97 45 = .agg cs49.toArray from (hv99 0 45 aU rfl)) (Ag.cons (show f97 47 = .agg cs91.toArray from hu103_47) Ag.nil))))))))) [] [(49, .bool (!(eqB x0 x0)))] [qc func44 rfl (fun W s b => mI W (dN (s.get 4 rfl) rfl) (dN (s.get 0 rfl) rfl)), .o] aD fun f106 W107 h106_ st108 hb109 => (aB (cF (h106_.at 49) (fun h110 => ?_) (fun h110 => ?_)))
  ·exact absurd (aO h110) (by rw [bZ rfl]; decide)
  refine wp_skip (wp_seq (aA (sg (aE (aB (wp_seq (aA (sg (dB eJ rfl (h106_.at 8) (st108.get 3 rfl) (Shape.len (dN (st108.get 4 rfl) rfl)) (sg (aG (v := I 1) rfl (sg (bK func45 rfl rfl rfl ((qT st108.f4 1 aC (by have := nX x0; omega)).mono ?_)))))))))))))); rintro _ W115 ⟨fp118, rfl, st117⟩; refine ⟨_, rfl, ?_⟩
  refine sg (aF (v := I (1 + (cB x0 : Nat))) rfl (aB (wp_seq (wp_seq (aA ?_)))))
  rcases nem ((1 + (cB x0 : Nat)) < 0) with h123p | h123p
  ·have h123 := decide_eq_false h123p
   refine rc st117 11 h106_.put.put.put.put.put [] [(61, .bool false), (62, .bool (oK x0 n1)), (63, .bool (oK x0 n1))] [qk h123, qw 2 rfl (Shape.len (dN (st117.get 3 rfl) rfl)), qw 5 rfl (Shape.len (dN (st117.get 6 rfl) rfl)), qc func44 rfl (fun W s b => mI W (dN (s.get 3 rfl) rfl) (dN (s.get 6 rfl) rfl)), qk h83] aD fun f124 W125 h124_ st126 hb127 => (sgo 61 rfl aU (aL0 (h124_.at 61) rfl) (pV underlying4 (h124_.at 62) (h124_.at 63) (sg (hY (h124_.at 61) rfl (aB (lP rfl h90 (wp_skip (wp_seq (aA (sg (aE (aB (wp_seq (aA ?_))))))))))))))
   refine sg (dB eJ rfl (h124_.at 9) (st126.get 2 rfl) (Shape.len (dN (st126.get 3 rfl) rfl)) (sg (aG (v := I 1) rfl (sg (bK func45 rfl rfl rfl ((qT st126.f3 1 aC (by have := nX (kE x0 n1); omega)).mono ?_)))))); rintro _ W134 ⟨fp137, rfl, st136⟩; refine ⟨_, rfl, ?_⟩
   refine sg (aF (v := I (1 + (cB (kE x0 n1) : Nat))) rfl (aB (wp_seq (aA (sg (aE (aB (wp_seq (aA (sg (dB eJ rfl (h124_.at 9) (st136.get 3 rfl) (Shape.len (dN (st136.get 0 rfl) rfl)) (sg (aG (v := I 1) rfl (sg (bK func46 rfl rfl rfl ((qW W134 (x := (kE x0 n1)) (dN (st136.get 0 rfl) rfl) aC (by have := nX (kE x0 n1); omega)).mono ?_)))))))))))))))); rintro _ W145 ⟨rfl, hk146⟩; refine ⟨_, rfl, ?_⟩
   have st147 := St.call st136 hk146
   refine sg (aF (v := I (1 + (cB (kE x0 n1) : Nat))) rfl (aB (wp_seq (wp_seq (aA (sg (aG (v := I (1 + (cB (kE x0 n1) : Nat))) rfl (sg (bA rfl rfl (aB (aK rfl (fun h153p => ?_) (fun h153p => ?_))))))))))))
   ·have h153 := decide_eq_true h153p
    omega
   have h153 := decide_eq_false h153p
   refine wp_skip (wp_seq (wp_seq (aA (lw h124_.put.put.put.put.put.put.put.put.put.put.put.put.put.put [(1, I n1), (2, pt_ b1), (6, pt_ b38), (7, .bool (oK x0 n1)), (9, pt_ b73), (12, I (1 + (cB (kE x0 n1) : Nat))), (13, I (1 + (cB (kE x0 n1) : Nat)))] aD fun h156_ => (rn st147 3 h156_ [] [(76, .bool (!decide (((1 + (cB (kE x0 n1) : Nat)) : Int) = (1 + (cB (kE x0 n1) : Nat)))))] [.o] aD fun f155 h155_ => (aB (bE (h155_.at 76) (fun h157p => ?_) (fun h157p => ?_))))))))
   ·have h157 := fL h157p
    exact absurd rfl h157p
   have h157 := fM h157p
   refine wp_skip (wp_seq (aA (sg (dB mC rfl (h155_.at 2) (st147.get 8 rfl) (Shape.len hc0) (sg (bO func43 rfl rfl ((lN W145 (bG hc0 st147.below) (by first | exact hw | omega | (simp only [Plan.wt, Run.wt, Yard.wt, Deed.wt, Note.wt, File.wt, Disk.wt, Engine.wt, WorldD.wt, ActD.wt, Span.wt, Crew.wt] at *; omega))).mono ?_))))))); rintro _ W162 ⟨cs160, fp160, rfl, hk163⟩; refine ⟨_, rfl, ?_⟩
   have st164 := St.call st147 hk163
   refine sg (aG (h155_.at 1) (sg (bK func19 rfl rfl rfl ((aP6 W162 (dN (st164.get 0 rfl) rfl) n1 aC).mono ?_)))); rintro _ W170 ⟨cs168, fp168, rfl, hk171⟩; refine ⟨_, rfl, ?_⟩
   have st172 := St.call st164 hk171
   refine rn st172 3 h155_.put.put.put.put [] [(82, .agg cs168.toArray), (83, .bool (oK x0 n1))] [] aD fun f175 h175_ => (sg (aT jH st172 ?_)); intro b176 W177 hb178 st179
   refine sgn (bR (cs := cs168) eJ (dN (st179.get 1 rfl) rfl) rfl (h175_.at 82) st179 rfl ?_); intro W181 st182
   refine sg (aF (h175_.at 83) (aB (wp_seq (wp_seq (aA (rc st182 7 h175_.put.put [] [(88, .bool false), (89, .bool (oK x0 n1)), (90, .bool (oK x0 n1))] [qw 0 rfl (Shape.len (dN (st182.get 1 rfl) rfl)), qw 8 rfl (Shape.len (dN (st182.get 9 rfl) rfl)), qc func44 rfl (fun W s b => mI W (dN (s.get 1 rfl) rfl) (dN (s.get 9 rfl) rfl)), qk h83] aD fun f186 W187 h186_ st188 hb189 => (sgo 88 rfl aU (aL0 (h186_.at 88) rfl) (pV underlying4 (h186_.at 89) (h186_.at 90) (sg (hY (h186_.at 88) rfl (aB (lP rfl h90 (wp_skip (wp_seq ?_))))))))))))))
   refine aA (sg (aE (aB (wp_seq (aA (sg (dB eJ rfl (h186_.at 9) (st188.get 6 rfl) (Shape.len (dN (st188.get 3 rfl) rfl)) (sg (aG (v := I 1) rfl (sg (bK func46 rfl rfl rfl ((qW W187 (x := (kE x0 n1)) (dN (st188.get 3 rfl) rfl) aC (by have := nX (kE x0 n1); omega)).mono ?_)))))))))))); rintro _ W196 ⟨rfl, hk197⟩; refine ⟨_, rfl, ?_⟩
   have st198 := St.call st188 hk197
   refine sg (aF (v := I (1 + (cB (kE x0 n1) : Nat))) rfl (aB (wp_seq (wp_seq (aA (sg (aG (v := I (1 + (cB (kE x0 n1) : Nat))) rfl (sg (bA rfl rfl (aB (lP rfl h153 (wp_skip (wp_seq (wp_seq ?_))))))))))))))
   refine aA (lw h186_.put.put.put.put.put.put.put.put.put [(12, I (1 + (cB (kE x0 n1) : Nat))), (13, I (1 + (cB (kE x0 n1) : Nat)))] aD fun h206_ => (rn st198 3 h206_ [] [(100, .bool false)] [qk h157] aD fun f205 h205_ => (aB (lP (h205_.at 100) rfl (wp_skip (wp_seq (aA (sg (aE (aB (wr (aM results7 rfl ?_))))))))))))
   exact ⟨rfl, st198.below⟩
  have h123 := decide_eq_true h123p
  omega
 exact absurd (aO h83) (by rw [bZ rfl]; decide)
end Go.Proofs.YtanpcpoogkdlaaaGreat
namespace Go.Proofs.YtanpcpoogkdlaaaGreat
set_option linter.unusedSimpArgs false
set_option linter.unusedVariables false
set_option maxRecDepth 100000
set_option maxHeartbeats 2000000
open Go.ChangeShapes Go.WideShapes Go.ChangeAt Go.RowKit Go.Deep
def fN (t : TypeId) (α : Type) [Shape α] : Prop := ∀ {H : Type} (enc : TypeId × Value → H) (w : World) (fuel : Nat) (cs : List Value) (x : DataW H × List MemPlace),
 DataW.trod enc Tryz.prog w 0 (fun _ => true) true fuel t cs = some x → ∃ (a : α) (fp : List Nat), Shape.C w cs a fp

theorem dJ {n : Int} (h : (Lit.int .i64 n).wf = true) : I64 n := by
 have := bounds_i64 h
 exact this

theorem fK {t e : TypeId} {α : Type} [Shape α] (ht : Tryz.prog.underlying t = some (.slice e)) (hC : Tryz.prog.cellsOf e = Shape.size α) (hp : 0 < Shape.size α) (he : fN e α) : fN t (List α) := by
 intro H enc w fuel cs x h
 rcases open_slice ht h with ⟨rfl, _⟩ | ⟨a, len, cap, m, n, D, Pl, rfl, _, hl, hm, hmm, _, hi⟩
 ·exact ⟨[], [], _, rfl, none, 0, rfl, Nat.le_refl _, by omega, .inl ⟨rfl, rfl⟩⟩
 simp only [if_true] at hmm
 subst hmm
 unfold maxLen at hm
 have key : ∀ k, k ≤ len → 0 < len → ∃ (xs : List α) (fp : List Nat), xs.length = k ∧ a.spot = none ∧ SlAt w a.block a.off xs fp := by
  intro k
  induction k with
  | zero =>
   intro _ hlp
   obtain ⟨cs', hc, _⟩ := hi 0 aC
   obtain ⟨_, hcl, hat⟩ := World.cells?_some hc
   rw [hC] at hcl hat
   have h0 := hat 0 hp
   have : a.spot = none := by
    have hlt : 0 < cs'.length := by omega
    rw [List.getElem?_eq_getElem hlt] at h0
    simpa [Addr.add] using World.cell?_spot h0
   exact ⟨[], [], rfl, this, rfl⟩
  | succ k ih =>
   intro hk hlp
   obtain ⟨xs, fp, hxl, hsp, hS⟩ := ih aC hlp
   obtain ⟨cs', hc, ht'⟩ := hi k aC
   obtain ⟨_, hcl, hat⟩ := World.cells?_some hc
   rw [hC] at hcl hat
   obtain ⟨x, f, hx⟩ := he enc w n cs' _ ht'
   refine ⟨xs ++ [x], fp ++ f, by simp [hxl], hsp, SlAt.snoc hS ?_ hx⟩
   intro j v hj
   have hjl : j < cs'.length := (gsi_.1 hj).1
   have := hat j aC
   rw [hj] at this
   rw [← this, hxl]
   obtain ⟨ab, ao, asp⟩ := a
   simp only at hsp
   subst hsp
   rw [Addr.add_mid, Addr.add_mid]
 by_cases hlp : 0 < len
 ·obtain ⟨xs, fp, hxl, hsp, hS⟩ := key len (Nat.le_refl _) hlp
  obtain ⟨ab, ao, asp⟩ := a
  simp only at hsp
  subst hsp
  subst hxl
  have hne : xs ≠ [] := by rintro rfl; simp at hlp
  refine ⟨xs, ab :: fp, _, rfl, _, m, rfl, hl, hm, .inr ⟨ab, ao, fp, hne, rfl, rfl, ?_, hS⟩⟩
  cases xs with
  | nil => exact absurd rfl hne
  | cons x xs =>
   obtain ⟨cs', f1, f2, hr, hc, _, _⟩ := hS
   have hl' := Shape.len hc
   have h0 := hr 0 _ (List.getElem?_eq_getElem aC)
   exact World.block_lt_of_cell? w _ h0
 obtain rfl : len = 0 := by omega
 exact ⟨[], [], _, rfl, _, m, rfl, by simp, hm, .inl ⟨rfl, rfl⟩⟩

theorem opens_bool : fN 4 Bool := by
 intro H enc w fuel cs x h
 cases fuel with
 | zero => simp [DataW.trod] at h
 | succ n =>
  unfold DataW.trod at h
  rw [Tryz.underlying4] at h
  split at h <;> first | exact ⟨_, [], rfl, rfl, trivial⟩ | simp_all
theorem qI : fN 9 ByteArray := by
 intro H enc w fuel cs x h
 obtain ⟨s, rfl, _, hs⟩ := DataW.trod_string Tryz.underlying9 h
 exact ⟨s, [], rfl, rfl, hs⟩

theorem oM {H : Type} {enc : TypeId × Value → H} {W W' : World} (hl : laidOutB Tryz.prog = true) (hb : Below W.heap.size W W') : ∀ {ts : List TypeId} {vs : List Value} {ds : List (DataW H)} {p : List MemPlace},
  (∀ t ∈ ts, Tryz.prog.readableRec t = true ∧ t < Tryz.prog.types.size) → DataW.TrodAll enc Tryz.prog W 0 (fun _ => true) true ts vs ds p → (∀ x ∈ p, x.block < W.heap.size) →
  DataW.TrodAll enc Tryz.prog W' 0 (fun b => decide (b < W.heap.size)) true ts vs ds p
 | [], _, _, _, _, h, _ => by
  obtain ⟨rfl, rfl, rfl⟩ := trodAll_nil h
  exact trodAll_mk0
 | t :: ts, _, _, _, ht, h, hp => by
  obtain ⟨v1, vs1, d1, ds1, p1, q1, rfl, rfl, rfl, h1, r1⟩ := trodAll_cons h
  exact trodAll_cons_mk (Below.trod hl (ht t (by simp)).1 (ht t (by simp)).2 h1 hb (fun x hx => hp x (by simp [hx]))) (oM hl hb (fun t' h' => ht t' (by simp [h'])) r1 (fun x hx => hp x (by simp [hx])))

theorem open_param_struct {H : Type} {enc : TypeId × Value → H} {W : World} {base : Nat} {t : TypeId} {fs : Array Field} {α : Type} [Shape α] (ht : Tryz.prog.underlying t = some (.struct fs)) (ho : fN t α) {v : Value} {d : DataW H} {p : List MemPlace}
  (hv : Value.okWide Tryz.prog W .any base t v) (h : DataW.Trod enc Tryz.prog W 0 (fun _ => true) true t v d p) : ∃ (cs : List Value) (x : α) (fp : List Nat), v = .agg cs.toArray ∧ Shape.C W cs x fp := by
 obtain ⟨cs, rfl, hsz⟩ := okWide_struct ht hv
 obtain ⟨fuel, hf⟩ := h
 obtain ⟨x, fp, hc⟩ := ho enc W fuel _ _ hf
 exact ⟨cs.toList, x, fp, rfl, hc⟩
theorem open_param_int {H : Type} {enc : TypeId × Value → H} {W : World} {base : Nat} {v : Value} {d : DataW H} {p : List MemPlace}
  (hv : Value.okWide Tryz.prog W .any base 3 v) (h : DataW.Trod enc Tryz.prog W 0 (fun _ => true) true 3 v d p) : ∃ n : Int, v = .int .i64 n ∧ I64 n := by
 obtain ⟨n, rfl, _, _, wn⟩ := open_int Tryz.underlying3 hv h
 exact ⟨n, rfl, dJ wn⟩
theorem ownKnobTry : ownKnob Tryz.prog.godebug = none := by kernel_rfl
theorem laidOutTry : laidOutB Tryz.prog = true := by kernel_rfl
end Go.Proofs.YtanpcpoogkdlaaaGreat
