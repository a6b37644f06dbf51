/-
  When a yard is right: of the program and of the reference.
  Yards of which runs are turned: what is kept. Theory alone.
  What a worker is given, and from which shelf. Theory alone.
  Slices of entries owned, by their block; clear.
  Parts of slices, whose values are known ahead; three results, the first in a cell.
  Shelves that are halved, merged, taken from, of both.
  Shelves that are swept, of both.
  Runs of which a task fails, yards that are turned, of the reference.
  Who holds a task, of both.
  Yards that are started again, of both.
  A block whose ways out meet; two results in cells; one element, one place. Theory alone.
-/
import Derived.Test.YtchnllpegfbleaaGreatQ01
import Derived.Test.YtchnllpegfbleaaGreatQ02
import Derived.Test.YtchnllpegfbleaaGreatQ03
import Derived.Test.YtchnllpegfbleaaGreatQ04
namespace Go.Proofs.YtchnllpegfbleaaGreat
set_option linter.unusedSimpArgs false
set_option linter.unusedVariables false
set_option maxRecDepth 100000
set_option maxHeartbeats 2000000
open Go.RowKit
def qF (y : Yard) (j : Nat) : Prop := ∀ h : j < y.runs.length, dK y.runs[j] = true ∧ iD y y.runs[j].id = (j : Int) ∧ fY y.now y.runs[j] y.shelf.flatten = true
noncomputable def dR (y : Yard) : Bool := pB ((0 ≤ y.now ∧ y.now ≤ 999999980) ∧ (1 ≤ y.seq ∧ y.seq ≤ 1000000000) ∧ y.shelf.length = 4 ∧ y.runs.length ≤ 8 ∧ (∀ l ∈ y.shelf, eY l = true) ∧
 (∀ e ∈ y.shelf.flatten, 1 ≤ e.seq ∧ e.seq ≤ y.seq - 1) ∧ (y.shelf.flatten.map (·.seq)).Nodup ∧ (∀ j, j < y.runs.length → qF y j) ∧ kD y ≤ 40)
theorem pC {r : Run} (h : dK r = true) : (0 ≤ r.plan.wait ∧ r.plan.wait ≤ 20) ∧ r.tasks.length ≤ 12 := by
 have h1 := pB_iff.1 h
 have h2 := (lU h1.2.1).1
 have h3 := h1.2.2.1
 unfold cU at h2
 omega
theorem mA {α : Type} {p : α → Prop} {xs : List α} {k : Nat} (hk : k < xs.length) (h : ∀ x ∈ xs.take k, p x) (h1 : p xs[k]) : ∀ x ∈ xs.take (k + 1), p x := by
 intro x hx
 rw [List.take_succ_eq_append_getElem hk] at hx
 rcases List.mem_append.1 hx with hx | hx
 ·exact h x hx
 ·rw [List.mem_singleton] at hx; subst hx; exact h1
theorem qO {α β : Type} (f : α → β) {xs : List α} {k : Nat} (hk : k < xs.length) : (xs.take (k + 1)).map f = (xs.take k).map f ++ [f xs[k]] := by
 rw [List.take_succ_eq_append_getElem hk, List.map_append]; rfl
theorem nK {xs : List Entry} {k : Nat} (hk : k < xs.length) (h : ((xs.take k).map (·.seq)).Nodup) (hn : xs[k].seq ∉ (xs.take k).map (·.seq)) : ((xs.take (k + 1)).map (·.seq)).Nodup := by
 rw [qO _ hk, List.nodup_append]
 exact ⟨h, by simp, fun a ha b hb => by simp at hb; subst hb; exact fun e => hn (e ▸ ha)⟩
theorem oS {xs : List Entry} {k : Nat} (hk : k < xs.length) (hm : xs[k].seq ∈ (xs.take k).map (·.seq)) : ¬ (xs.map (·.seq)).Nodup := by
 intro h
 have h2 : ((xs.take (k + 1)).map (·.seq)).Nodup := h.sublist ((List.take_sublist _ _).map _)
 rw [qO _ hk, List.nodup_append] at h2
 exact h2.2.2 _ hm _ (by simp) rfl

theorem oN (w : World) {y : Yard} {cs : List Value} {fp : List Nat} (hc : Shape.C w cs y fp) (hw : y.wt ≤ 1048576) :
  Calls Tryz.prog 46 #[.agg cs.toArray] w fun e w' => e = .returned (.bool (dR y)) ∧ St w w' [] := by
 have hyr : y.runs.length ≤ y.wt := by unfold Yard.wt wtL; omega
 have hys : y.shelf.length ≤ y.wt := by unfold Yard.wt wtL; omega
 have hfw := qV y
 refine cR Tryz.func46 rfl Tryz.ntmps46 aX (wp_seq (aA (sg (aJ (cs := cs) rfl (St.start w) ?_)))); intro b1 W2 hb3 st4
 refine sg (aC (v := .bool false) rfl (aB (wp_seq (wp_seq (aA ?_)))))
 have hk9 := hc
 obtain ⟨v9_0, v9_1, g9_0, g9_1, rfl, hok9, h9_0, h9_1, rfl⟩ := hk9
 rcases bd (!(inB y.now 0 999999980)) with h10 | h10
 ·have h10p := inB_iff'.1 (bG h10)
  rcases bd (!(inB y.seq 1 1000000000)) with h11 | h11
  ·have h11p := inB_iff'.1 (bG h11)
   rcases Decidable.em ((y.shelf.length : Int) = 4) with h12p | h12p
   ·have h12 := gS h12p
    refine rc st4 22 Ag.nil.put.put.put [] [(32, .bool (decide (8 < (y.runs.length : Int))))] [qb 0 rfl 0, qc Tryz.func47 rfl (fun W s b => bZ W y.now 0 999999980), qk h10, qb 0 rfl 1, qc Tryz.func47 rfl (fun W s b => bZ W y.seq 1 1000000000), qk h11, qb 0 rfl 2, ql h9_0, qk h12, qb 0 rfl 3, ql h9_1, .o] aE fun f13 W14 h13_ st15 hb16 => (aB (aK (h13_.at 32) (fun h17p => ?_) (fun h17p => ?_)))
    ·refine wp_seq (aA (sg (aC (v := .bool false) rfl (aB (wr (aL Tryz.results46 rfl ?_))))))
     exact ⟨(fB (by unfold dR; rw [cQ (by rintro ⟨hz1, hz2, hz3, hz4, hz5, hz6, hz7, hz8, hz9⟩; omega)])), st15.bare⟩
    ·refine wp_skip (wp_seq (wp_seq (aA (rn st15 4 h13_ [] [(34, v9_0), (35, I (y.shelf.length : Int)), (36, I 0)] [qb 0 rfl 2, ql h9_0] aE fun f21 h21_ => (aB (wp_block (aY (fun (m : Nat) (f : Nat → Value) (W : World) => ∃ (k : Nat), k ≤ y.shelf.length ∧ (∀ l ∈ y.shelf.take k, eY l = true) ∧ m = y.shelf.length - k ∧ Ag [(1, .pointer (some ⟨b1, 0, none⟩)), (34, v9_0), (35, I (y.shelf.length : Int)), (36, I (k : Int))] f ∧ St w W ([Res.bx b1 [I y.now, I y.seq, v9_0, v9_1] 34])) (y.shelf.length - 0) ?_ ?_)))))))
     ·exact ⟨0, aD, (by simp), rfl, (h21_.to aE), st15⟩
     intro m22 f23 W24 hJ25
     obtain ⟨k, hk, hS1, rfl, hA27, st26⟩ := hJ25
     refine wp_seq (aA (sg (bS (hA27.at 36) (hA27.at 35) (aB (wp_seq (aK rfl (fun h30p => ?_) (fun h30p => ?_)))))))
     ·refine wp_skip (wp_seq (wp_block (wp_seq (aA ?_))))
      have hi019db : k < y.shelf.length := aD
      have hq_ := idx h9_0 (i := k) hi019db
      obtain ⟨b31, o31, cs31, f31, hp31, hr31, hc31, hm31⟩ := hq_
      have hk31 := hc31
      obtain ⟨v32, rfl, h33⟩ := hk31
      refine rn st26 3 hA27.put [] [(4, v32)] [qx hp31, qr hr31 0] aE fun f35 h35_ => (aB (wp_seq (aA (rc st26 3 h35_ [] [(42, .bool (!(eY (y.shelf[k]'hi019db))))] [qc (args := [v32]) (v := .bool (eY (y.shelf[k]'hi019db))) Tryz.func95 rfl (fun W s b => ShelfOkI W (h33.below s.below)), .o] aE fun f37 W38 h37_ st39 hb40 => (aB (cT (h37_.at 42) (fun h41 => ?_) (fun h41 => ?_)))))))
      ·refine wp_seq (aA (sg (aC (v := .bool false) rfl (aB (wr (aL Tryz.results46 rfl ?_))))))
       exact ⟨(fB (by unfold dR; rw [cQ (by rintro ⟨hz1, hz2, hz3, hz4, hz5, hz6, hz7, hz8, hz9⟩; have hq := hz5 _ (List.getElem_mem (n := k) aD); rw [(aW h41)] at hq; cases hq)])), st39.bare⟩
      ·refine wp_skip (aA (sg (bY (h37_.at 36) rfl dX (sg (aF (v := I ((k : Int) + 1)) rfl (aB ?_))))))
       exact ⟨_, y.shelf.length - (k + 1), aD, rfl, k + 1, aD, (mA aD hS1 (bG h41)), rfl, (h37_.put.put.to aE), st39⟩
     ·refine wp_exit (wp_seq (aA ?_))
      have hS1 : ∀ l ∈ y.shelf, eY l = true := by rw [show k = y.shelf.length by omega, List.take_length] at hS1; exact hS1
      refine sg (aV (cs := [I y.now, I y.seq, v9_0, v9_1]) bM rfl (hA27.at 1) (st26.get 0 rfl) rfl rfl (sg (bF Tryz.func96 rfl rfl ((yU W24 (bA hc st26.below) aD).mono ?_)))); rintro _ W50 ⟨v48, fp48, rfl, hk51⟩; refine ⟨_, rfl, ?_⟩
      have st52 := St.call st26 hk51
      refine sg (aC (v := v48) rfl (aB (wp_seq (aA (sg (aC (v := .slice none 0 0) rfl (aB (wp_seq (wp_seq (aA (rn st52 3 hA27.put.put.put.put.put [] [(46, v48), (47, I ((y.shelf).flatten.length : Int)), (48, I 0)] [ql (aI (st52.get 0 rfl))] aE fun f59 h59_ => (aB (wp_block ?_)))))))))))))
      have st61 := st52.row_nil (α := Int) 3
      refine aY (fun (m : Nat) (f : Nat → Value) (W : World) => ∃ (k2 : Nat) (v60 : Value), k2 ≤ y.shelf.flatten.length ∧ (∀ e ∈ y.shelf.flatten.take k2, 1 ≤ e.seq ∧ e.seq ≤ y.seq - 1) ∧ ((y.shelf.flatten.take k2).map (·.seq)).Nodup ∧ m = y.shelf.flatten.length - k2 ∧ Ag [(1, .pointer (some ⟨b1, 0, none⟩)), (5, v48), (6, v60), (46, v48), (47, I ((y.shelf).flatten.length : Int)), (48, I (k2 : Int))] f ∧ St w W ([Res.row (α := Int) 3 v60 ((y.shelf.flatten.take k2).map (·.seq)) [], Res.own (α := List Entry) v48 (y.shelf).flatten fp48, Res.bx b1 [I y.now, I y.seq, v9_0, v9_1] 34])) (y.shelf.flatten.length - 0) ?_ ?_
      ·exact ⟨0, (.slice none 0 0), aD, (by simp), (by simp), rfl, (h59_.to aE), st61⟩
      intro m63 f64 W65 hJ66
      obtain ⟨k2, v60, hk2, hS2, hS3, rfl, hA68, st67⟩ := hJ66
      have hml : ((y.shelf.flatten.take k2).map (·.seq)).length ≤ y.shelf.flatten.length := by rw [List.length_map]; exact List.length_take_le' _ _
      refine wp_seq (aA (sg (bS (hA68.at 48) (hA68.at 47) (aB (wp_seq (aK rfl (fun h71p => ?_) (fun h71p => ?_)))))))
      ·refine wp_skip (wp_seq (wp_block (wp_seq (aA ?_))))
       have hi3bcf4 : k2 < (y.shelf).flatten.length := aD
       have hq_ := idx (aI (st67.get 1 rfl)) (i := k2) hi3bcf4
       obtain ⟨b72, o72, cs72, f72, hp72, hr72, hc72, hm72⟩ := hq_
       refine sg (aN sl_EntryS (hA68.at 46) hp72 (hA68.at 48) rfl (sg (dL dN rfl rfl hr72 (Below.refl _ _) (Shape.len hc72) (sg (aR gX st67 ?_))))); intro b75 W76 hb77 st78
       refine sgn (aO (cs := cs72) dN hc72 rfl rfl st78 rfl ?_); intro W80 st81
       refine aB (wp_seq (wp_seq (aA ?_)))
       have hk83 := hc72
       obtain ⟨he83, rfl, hok83⟩ := hk83
       have he83 : _ = [I ((y.shelf).flatten[k2]'hi3bcf4).prio, I ((y.shelf).flatten[k2]'hi3bcf4).seq, I ((y.shelf).flatten[k2]'hi3bcf4).run, I ((y.shelf).flatten[k2]'hi3bcf4).task] := he83
       subst he83
       rcases bd (!(inB ((y.shelf).flatten[k2]'hi3bcf4).seq 1 (y.seq - 1))) with h84 | h84
       ·have h84p := inB_iff'.1 (bG h84)
        refine rc st81 13 hA68.put.put.put.put [] [(64, .bool (decide (((y.shelf).flatten[k2]'hi3bcf4).seq ∈ ((y.shelf.flatten.take k2).map (·.seq)))))] [qb 0 rfl 1, qb 3 rfl 1, qsb y.seq 1, qc (args := [I ((y.shelf).flatten[k2]'hi3bcf4).seq, I 1, I (y.seq - 1)]) (v := .bool (inB ((y.shelf).flatten[k2]'hi3bcf4).seq 1 (y.seq - 1))) Tryz.func47 rfl (fun W s b => bZ W ((y.shelf).flatten[k2]'hi3bcf4).seq 1 (y.seq - 1)), qk h84, qb 0 rfl 1, qc (args := [v60, I ((y.shelf).flatten[k2]'hi3bcf4).seq]) (v := .bool (decide (((y.shelf).flatten[k2]'hi3bcf4).seq ∈ ((y.shelf.flatten.take k2).map (·.seq))))) Tryz.func75 rfl (fun W s b => ContN W (bW (s.get 1 rfl)) ((y.shelf).flatten[k2]'hi3bcf4).seq)] aE fun f85 W86 h85_ st87 hb88 => (aB (aK (h85_.at 64) (fun h89p => ?_) (fun h89p => ?_)))
        ·have h89 := decide_eq_true h89p
         refine wp_seq (aA (sg (aC (v := .bool false) rfl (aB (wr (aL Tryz.results46 rfl ?_))))))
         exact ⟨(fB (by unfold dR; rw [cQ (by rintro ⟨hz1, hz2, hz3, hz4, hz5, hz6, hz7, hz8, hz9⟩; exact oS (k := k2) aD (of_decide_eq_true h89) hz7)])), st87.bare⟩
        ·have h89 := decide_eq_false h89p
         refine wp_skip (aA (rn st87 3 h85_ [] [(65, v60), (67, I ((y.shelf).flatten[k2]'hi3bcf4).seq)] [qb 0 rfl 1] aE fun f93 h93_ => (sg (aT (cs := [I ((y.shelf).flatten[k2]'hi3bcf4).seq]) (e := 3) (cY (v := I ((y.shelf).flatten[k2]'hi3bcf4).seq) (h93_.at 67) eA) (bN cZ _ _ rfl rfl aX) st87 ?_)))); intro b94 W95 hb96 st97
         refine sg (cP (ys := [((y.shelf).flatten[k2]'hi3bcf4).seq]) cZ (h93_.at 65) rfl rfl st97.f2 (Elems.ic (by simp only [I64]; omega) Elems.i0) (by unfold maxLen; omega) aD ?_); intro v100 W101 st102
         refine sg (aC (v := v100) rfl (aB (aA (sg (bY (h93_.at 48) rfl dX (sg (aF (v := I ((k2 : Int) + 1)) rfl (aB ?_))))))))
         exact ⟨_, y.shelf.flatten.length - (k2 + 1), aD, rfl, k2 + 1, v100, aD, (mA aD hS2 aD), (nK aD hS3 (of_decide_eq_false h89)), rfl, (h93_.put.put.put.put.put.to aE), (by rw [qO _ aD]; exact st102.f3.f3.f2.d3)⟩
       ·have h84p := cJ (aW h84)
        refine rc st81 13 hA68.put.put.put.put [] [(64, .bool true)] [qb 0 rfl 1, qb 3 rfl 1, qsb y.seq 1, qc (args := [I ((y.shelf).flatten[k2]'hi3bcf4).seq, I 1, I (y.seq - 1)]) (v := .bool (inB ((y.shelf).flatten[k2]'hi3bcf4).seq 1 (y.seq - 1))) Tryz.func47 rfl (fun W s b => bZ W ((y.shelf).flatten[k2]'hi3bcf4).seq 1 (y.seq - 1)), qk h84] aE fun f111 W112 h111_ st113 hb114 => (aB (fH (h111_.at 64) rfl (wp_seq (aA (sg (aC (v := .bool false) rfl (aB (wr (aL Tryz.results46 rfl ?_)))))))))
        exact ⟨(fB (by unfold dR; rw [cQ (by rintro ⟨hz1, hz2, hz3, hz4, hz5, hz6, hz7, hz8, hz9⟩; have hq := hz6 _ (List.getElem_mem (n := k2) aD); omega)])), st113.bare⟩
      ·refine wp_exit (wp_seq (wp_seq (aA ?_)))
       have hS2 : ∀ e ∈ y.shelf.flatten, 1 ≤ e.seq ∧ e.seq ≤ y.seq - 1 := by rw [show k2 = y.shelf.flatten.length by omega, List.take_length] at hS2; exact hS2
       have hS3 : (y.shelf.flatten.map (·.seq)).Nodup := by rw [show k2 = y.shelf.flatten.length by omega, List.take_length] at hS3; exact hS3
       refine rn st67 4 hA68.put [] [(72, v9_1), (73, I (y.runs.length : Int)), (74, I 0)] [qb 2 rfl 3, ql h9_1] aE fun f118 h118_ => (aB (wp_block (aY (fun (m : Nat) (f : Nat → Value) (W : World) => ∃ (k3 : Nat), k3 ≤ y.runs.length ∧ (∀ j, j < k3 → qF y j) ∧ m = y.runs.length - k3 ∧ Ag [(1, .pointer (some ⟨b1, 0, none⟩)), (5, v48), (72, v9_1), (73, I (y.runs.length : Int)), (74, I (k3 : Int))] f ∧ St w W ([Res.row (α := Int) 3 v60 ((y.shelf.flatten.take k2).map (·.seq)) [], Res.own (α := List Entry) v48 (y.shelf).flatten fp48, Res.bx b1 [I y.now, I y.seq, v9_0, v9_1] 34])) (y.runs.length - 0) ?_ ?_)))
       ·exact ⟨0, aD, (fun j hj => absurd hj (Nat.not_lt_zero j)), rfl, (h118_.to aE), st67⟩
       intro m119 f120 W121 hJ122
       obtain ⟨k3, hk3, hS4, rfl, hA124, st123⟩ := hJ122
       refine wp_seq (aA (sg (bS (hA124.at 74) (hA124.at 73) (aB (wp_seq (aK rfl (fun h127p => ?_) (fun h127p => ?_)))))))
       ·refine wp_skip (wp_seq (wp_block (wp_seq (aA ?_))))
        have hi7dcb8 : k3 < y.runs.length := aD
        have hq_ := idx h9_1 (i := k3) hi7dcb8
        obtain ⟨b129, o129, cs129, f129, hp129, hr129, hc129, hm129⟩ := hq_
        refine rn st123 3 hA124.put [] [(76, I (k3 : Int)), (78, .agg cs129.toArray)] [qx hp129, qrw hr129 (Shape.len hc129)] aE fun f130 h130_ => (sg (aR jV st123 ?_)); intro b131 W132 hb133 st134
        refine sg (aC (v := I (k3 : Int)) (h130_.at 76) (sgn (aO (cs := cs129) eC hc129 rfl (h130_.at 78) st134 rfl ?_))); intro W138 st139
        refine aB (wp_seq (aA ?_))
        rcases bd (!(dK (y.runs[k3]'hi7dcb8))) with h141 | h141
        ·have hk142 := hc129
         obtain ⟨v142_0, v142_1, g142_0, g142_1, rfl, hok142, h142_0, h142_1, rfl⟩ := hk142
         rcases Decidable.em ((iD y (y.runs[k3]'hi7dcb8).id) = (k3 : Int)) with h143p | h143p
         ·have h143 := gS h143p
          refine rc st139 15 h130_.put.put [] [(90, .bool false), (91, .agg #[I y.now, I y.seq, v9_0, v9_1]), (92, .agg #[I (y.runs[k3]'hi7dcb8).id, I (y.runs[k3]'hi7dcb8).plan.prio, I (y.runs[k3]'hi7dcb8).plan.most, I (y.runs[k3]'hi7dcb8).plan.wait, I (y.runs[k3]'hi7dcb8).plan.tasks, v142_0, I (y.runs[k3]'hi7dcb8).state, v142_1]), (93, v48)] [qb 0 rfl 0, qc (args := [.agg #[I (y.runs[k3]'hi7dcb8).id, I (y.runs[k3]'hi7dcb8).plan.prio, I (y.runs[k3]'hi7dcb8).plan.most, I (y.runs[k3]'hi7dcb8).plan.wait, I (y.runs[k3]'hi7dcb8).plan.tasks, v142_0, I (y.runs[k3]'hi7dcb8).state, v142_1]]) (v := .bool (dK (y.runs[k3]'hi7dcb8))) Tryz.func97 rfl (fun W s b => zE W (bA hc129 s.below)), qk h141, qb 3 rfl 0, qb 0 rfl 0, qc (args := [.agg #[I y.now, I y.seq, v9_0, v9_1], I (y.runs[k3]'hi7dcb8).id]) (v := I (iD y (y.runs[k3]'hi7dcb8).id)) Tryz.func98 rfl (fun W s b => uX W (bA hc s.below) (y.runs[k3]'hi7dcb8).id aD), qk h143, qb 3 rfl 0, qb 0 rfl 0] aE fun f144 W145 h144_ st146 hb147 => ?_
          have hwt := pC (bG h141)
          refine rc st146 3 h144_ [] [(96, .bool (!(fY y.now (y.runs[k3]'hi7dcb8) (y.shelf).flatten)))] [qc (args := [.agg #[I y.now, I y.seq, v9_0, v9_1], .agg #[I (y.runs[k3]'hi7dcb8).id, I (y.runs[k3]'hi7dcb8).plan.prio, I (y.runs[k3]'hi7dcb8).plan.most, I (y.runs[k3]'hi7dcb8).plan.wait, I (y.runs[k3]'hi7dcb8).plan.tasks, v142_0, I (y.runs[k3]'hi7dcb8).state, v142_1], v48]) (v := .bool (fY y.now (y.runs[k3]'hi7dcb8) (y.shelf).flatten)) Tryz.func99 rfl (fun W s b => RunsOkI W (bA hc s.below) (bA hc129 s.below) (aI (s.get 2 rfl)) aD aD aD), .o] aE fun f149 W150 h149_ st151 hb152 => (aB (cT (h149_.at 96) (fun h153 => ?_) (fun h153 => ?_)))
          ·refine wp_seq (aA (sg (aC (v := .bool false) rfl (aB (wr (aL Tryz.results46 rfl ?_))))))
           exact ⟨(fB (by unfold dR; rw [cQ (by rintro ⟨hz1, hz2, hz3, hz4, hz5, hz6, hz7, hz8, hz9⟩; have hq := (hz8 k3 aD aD).2.2; rw [(aW h153)] at hq; cases hq)])), st151.bare⟩
          ·refine wp_skip (aA (sg (bY (h149_.at 74) rfl dX (sg (aF (v := I ((k3 : Int) + 1)) rfl (aB ?_))))))
           have st158 := st151.f3
           exact ⟨_, y.runs.length - (k3 + 1), aD, rfl, k3 + 1, aD, (fun j hj => by rcases Nat.lt_succ_iff_lt_or_eq.1 hj with h1 | rfl; exact hS4 j h1; exact fun _ => ⟨(bG h141), by omega, (bG h153)⟩), rfl, (h149_.put.put.to aE), st158.f3.f3.d3⟩
         ·have h143 := gR h143p
          refine rc st139 15 h130_.put.put [] [(90, .bool true)] [qb 0 rfl 0, qc (args := [.agg #[I (y.runs[k3]'hi7dcb8).id, I (y.runs[k3]'hi7dcb8).plan.prio, I (y.runs[k3]'hi7dcb8).plan.most, I (y.runs[k3]'hi7dcb8).plan.wait, I (y.runs[k3]'hi7dcb8).plan.tasks, v142_0, I (y.runs[k3]'hi7dcb8).state, v142_1]]) (v := .bool (dK (y.runs[k3]'hi7dcb8))) Tryz.func97 rfl (fun W s b => zE W (bA hc129 s.below)), qk h141, qb 3 rfl 0, qb 0 rfl 0, qc (args := [.agg #[I y.now, I y.seq, v9_0, v9_1], I (y.runs[k3]'hi7dcb8).id]) (v := I (iD y (y.runs[k3]'hi7dcb8).id)) Tryz.func98 rfl (fun W s b => uX W (bA hc s.below) (y.runs[k3]'hi7dcb8).id aD), qk h143] aE fun f162 W163 h162_ st164 hb165 => ?_
          have hwt := pC (bG h141)
          refine rn st164 3 h162_ [] [(96, .bool true)] [] aE fun f167 h167_ => (aB (fH (h167_.at 96) rfl (wp_seq (aA (sg (aC (v := .bool false) rfl (aB (wr (aL Tryz.results46 rfl ?_)))))))))
          exact ⟨(fB (by unfold dR; rw [cQ (by rintro ⟨hz1, hz2, hz3, hz4, hz5, hz6, hz7, hz8, hz9⟩; have hq := (hz8 k3 aD aD).2.1; omega)])), st164.bare⟩
        ·refine rc st139 15 h130_.put.put [] [(90, .bool true)] [qw 0 rfl (Shape.len hc129), qc (args := [.agg cs129.toArray]) (v := .bool (dK (y.runs[k3]'hi7dcb8))) Tryz.func97 rfl (fun W s b => zE W (bA hc129 s.below)), qk h141] aE fun f170 W171 h170_ st172 hb173 => (rn st172 3 h170_ [] [(96, .bool true)] [] aE fun f175 h175_ => (aB (fH (h175_.at 96) rfl (wp_seq (aA (sg (aC (v := .bool false) rfl (aB (wr (aL Tryz.results46 rfl ?_))))))))))
         exact ⟨(fB (by unfold dR; rw [cQ (by rintro ⟨hz1, hz2, hz3, hz4, hz5, hz6, hz7, hz8, hz9⟩; have hq := (hz8 k3 aD aD).1; rw [(aW h141)] at hq; cases hq)])), st172.bare⟩
       ·refine wp_exit (wp_seq (aA ?_))
        have hS4 : ∀ j, j < y.runs.length → qF y j := by rw [show k3 = y.runs.length by omega] at hS4; exact hS4
        refine rc st123 4 hA124.put [] [(2, .bool (decide ((kD y) ≤ 40)))] [qb 2 rfl 0, qc Tryz.func100 rfl (fun W s b => SlotsOfI W (bA hc s.below) aD), .o] aE fun f179 W180 h179_ st181 hb182 => (aB ?_)
        rcases nem ((kD y) ≤ 40) with h183p | h183p
        ·have h183 := decide_eq_false h183p
         refine wr (aL Tryz.results46 ((h179_.at 2).trans (congrArg Value.bool h183)) ?_)
         exact ⟨(fB (by unfold dR; rw [cQ (by rintro ⟨hz1, hz2, hz3, hz4, hz5, hz6, hz7, hz8, hz9⟩; omega)])), st181.bare⟩
        ·have h183 := decide_eq_true h183p
         refine wr (aL Tryz.results46 ((h179_.at 2).trans (congrArg Value.bool h183)) ?_)
         exact ⟨(fB (by unfold dR; rw [gG ⟨by omega, by omega, by omega, by omega, hS1, hS2, hS3, hS4, by omega⟩])), st181.bare⟩
   ·have h12 := gR h12p
    refine rc st4 22 Ag.nil.put.put.put [] [(32, .bool true)] [qb 0 rfl 0, qc Tryz.func47 rfl (fun W s b => bZ W y.now 0 999999980), qk h10, qb 0 rfl 1, qc Tryz.func47 rfl (fun W s b => bZ W y.seq 1 1000000000), qk h11, qb 0 rfl 2, ql h9_0, qk h12] aE fun f184 W185 h184_ st186 hb187 => (aB (fH (h184_.at 32) rfl (wp_seq (aA (sg (aC (v := .bool false) rfl (aB (wr (aL Tryz.results46 rfl ?_)))))))))
    exact ⟨(fB (by unfold dR; rw [cQ (by rintro ⟨hz1, hz2, hz3, hz4, hz5, hz6, hz7, hz8, hz9⟩; omega)])), st186.bare⟩
  ·have h11p := cJ (aW h11)
   refine rc st4 22 Ag.nil.put.put.put [] [(32, .bool true)] [qb 0 rfl 0, qc Tryz.func47 rfl (fun W s b => bZ W y.now 0 999999980), qk h10, qb 0 rfl 1, qc Tryz.func47 rfl (fun W s b => bZ W y.seq 1 1000000000), qk h11] aE fun f190 W191 h190_ st192 hb193 => (aB (fH (h190_.at 32) rfl (wp_seq (aA (sg (aC (v := .bool false) rfl (aB (wr (aL Tryz.results46 rfl ?_)))))))))
   exact ⟨(fB (by unfold dR; rw [cQ (by rintro ⟨hz1, hz2, hz3, hz4, hz5, hz6, hz7, hz8, hz9⟩; omega)])), st192.bare⟩
 ·have h10p := cJ (aW h10)
  refine rc st4 22 Ag.nil.put.put.put [] [(32, .bool true)] [qb 0 rfl 0, qc Tryz.func47 rfl (fun W s b => bZ W y.now 0 999999980), qk h10] aE fun f196 W197 h196_ st198 hb199 => (aB (fH (h196_.at 32) rfl (wp_seq (aA (sg (aC (v := .bool false) rfl (aB (wr (aL Tryz.results46 rfl ?_)))))))))
  exact ⟨(fB (by unfold dR; rw [cQ (by rintro ⟨hz1, hz2, hz3, hz4, hz5, hz6, hz7, hz8, hz9⟩; omega)])), st198.bare⟩
theorem ShelvesS (w : World) {y : Yard} {cs : List Value} {fp : List Nat} (hc : Shape.C w cs y fp) (hsq : 1 ≤ y.seq ∧ y.seq ≤ 1000000000) (hw : y.wt ≤ 1048576) :
  Calls Tryz.prog 88 #[.agg cs.toArray] w fun e w' => e = .returned (.bool (pB (y.shelf.length = 4 ∧ (∀ l ∈ y.shelf, eY l = true) ∧ (∀ e ∈ y.shelf.flatten, 1 ≤ e.seq ∧ e.seq ≤ y.seq - 1) ∧ (y.shelf.flatten.map (·.seq)).Nodup))) ∧ St w w' [] := by
 have hyr : y.runs.length ≤ y.wt := by unfold Yard.wt wtL; omega
 have hys : y.shelf.length ≤ y.wt := by unfold Yard.wt wtL; omega
 have hfw := qV y
 refine cR Tryz.func88 rfl Tryz.ntmps88 aX (wp_seq (aA (sg (aJ (cs := cs) rfl (St.start w) ?_)))); intro b1 W2 hb3 st4
 refine sg (aC (v := .bool false) rfl (aB (wp_seq (wp_seq (aA ?_)))))
 have hk9 := hc
 obtain ⟨v9_0, v9_1, g9_0, g9_1, rfl, hok9, h9_0, h9_1, rfl⟩ := hk9
 refine rn st4 4 Ag.nil.put.put.put [] [(10, .bool (!decide ((y.shelf.length : Int) = 4)))] [qb 0 rfl 2, ql h9_0, .o] aE fun f10 h10_ => (aB (cB (h10_.at 10) (fun h11p => ?_) (fun h11p => ?_)))
 ·refine wp_seq (aA (sg (aC (v := .bool false) rfl (aB (wr (aL Tryz.results88 rfl ?_))))))
  exact ⟨(fB (by rw [cQ (by rintro ⟨hz3, hz5, hz6, hz7⟩; omega)])), st4.bare⟩
 ·refine wp_skip (wp_seq (wp_seq (aA (sg (aC (v := I 0) rfl (aB (wp_block (aY (fun (m : Nat) (f : Nat → Value) (W : World) => ∃ (k : Nat), k ≤ y.shelf.length ∧ (∀ l ∈ y.shelf.take k, eY l = true) ∧ m = y.shelf.length - k ∧ Ag [(1, .pointer (some ⟨b1, 0, none⟩)), (3, I (k : Int))] f ∧ St w W ([Res.bx b1 [I y.now, I y.seq, v9_0, v9_1] 34])) (y.shelf.length - 0) ?_ ?_))))))))
  ·exact ⟨0, aD, (by simp), rfl, (h10_.put.to aE), st4⟩
  intro m16 f17 W18 hJ19
  obtain ⟨k, hk, hS1, rfl, hA21, st20⟩ := hJ19
  refine wp_seq (wp_seq (aA (rn st20 5 hA21 [] [(15, .bool (decide ((k : Int) < (y.shelf.length : Int))))] [qb 0 rfl 2, ql h9_0, .o] aE fun f23 h23_ => (aB (aK (h23_.at 15) (fun h24p => ?_) (fun h24p => ?_))))))
  ·refine wp_skip (wp_seq (wp_block (wp_seq (aA ?_))))
   have hi019db : k < y.shelf.length := aD
   have hq_ := idx h9_0 (i := k) hi019db
   obtain ⟨b26, o26, cs26, f26, hp26, hr26, hc26, hm26⟩ := hq_
   have hk26 := hc26
   obtain ⟨v27, rfl, h28⟩ := hk26
   refine rc st20 7 h23_ [] [(24, .bool (!(eY (y.shelf[k]'hi019db))))] [qb 0 rfl 2, qx hp26, qr hr26 0, qc (args := [v27]) (v := .bool (eY (y.shelf[k]'hi019db))) Tryz.func154 rfl (fun W s b => ShelfOkS W (h28.below s.below)), .o] aE fun f29 W30 h29_ st31 hb32 => (aB (cT (h29_.at 24) (fun h33 => ?_) (fun h33 => ?_)))
   ·refine wp_seq (aA (sg (aC (v := .bool false) rfl (aB (wr (aL Tryz.results88 rfl ?_))))))
    exact ⟨(fB (by rw [cQ (by rintro ⟨hz3, hz5, hz6, hz7⟩; have hq := hz5 _ (List.getElem_mem (n := k) aD); rw [(aW h33)] at hq; cases hq)])), st31.bare⟩
   ·refine wp_skip (aA (rn st31 3 h29_ [3] [(3, I ((k : Int) + 1))] [qad (k : Int) 1] aE fun f37 h37_ => (aB ?_)))
    exact ⟨_, y.shelf.length - (k + 1), aD, rfl, k + 1, aD, (mA aD hS1 (bG h33)), rfl, (h37_.to aE), st31⟩
  ·refine wp_exit (wp_seq (aA ?_))
   have hS1 : ∀ l ∈ y.shelf, eY l = true := by rw [show k = y.shelf.length by omega, List.take_length] at hS1; exact hS1
   refine sg (aV (cs := [I y.now, I y.seq, v9_0, v9_1]) bM rfl (h23_.at 1) (st20.get 0 rfl) rfl rfl (sg (bF Tryz.func91 rfl rfl ((yT W18 (bA hc st20.below) aD).mono ?_)))); rintro _ W42 ⟨v40, fp40, rfl, hk43⟩; refine ⟨_, rfl, ?_⟩
   have st44 := St.call st20 hk43
   refine sg (aC (v := v40) rfl (aB (wp_seq (wp_seq (aA (sg (aC (v := I 0) rfl (aB (wp_block (aY (fun (m : Nat) (f : Nat → Value) (W : World) => ∃ (k2 : Nat), k2 ≤ y.shelf.flatten.length ∧ (∀ e ∈ y.shelf.flatten.take k2, 1 ≤ e.seq ∧ e.seq ≤ y.seq - 1) ∧ ((y.shelf.flatten.take k2).map (·.seq)).Nodup ∧ m = y.shelf.flatten.length - k2 ∧ Ag [(1, .pointer (some ⟨b1, 0, none⟩)), (4, v40), (5, I (k2 : Int))] f ∧ St w W ([Res.own (α := List Entry) v40 (y.shelf).flatten fp40, Res.bx b1 [I y.now, I y.seq, v9_0, v9_1] 34])) (y.shelf.flatten.length - 0) ?_ ?_))))))))))
   ·exact ⟨0, aD, (by simp), (by simp), rfl, (h23_.put.put.put.put.to aE), st44⟩
   intro m50 f51 W52 hJ53
   obtain ⟨k2, hk2, hS2, hS3, rfl, hA55, st54⟩ := hJ53
   refine wp_seq (wp_seq (aA (rn st54 4 hA55 [] [(30, .bool (decide ((k2 : Int) < ((y.shelf).flatten.length : Int))))] [ql (aI (st54.get 0 rfl)), .o] aE fun f57 h57_ => (aB (aK (h57_.at 30) (fun h58p => ?_) (fun h58p => ?_))))))
   ·refine wp_skip (wp_seq (wp_block (wp_seq (wp_seq ?_))))
    have hi3bcf4 : k2 < (y.shelf).flatten.length := aD
    have hq_ := idx (aI (st54.get 0 rfl)) (i := k2) hi3bcf4
    obtain ⟨b60, o60, cs60, f60, hp60, hr60, hc60, hm60⟩ := hq_
    have hk61 := hc60
    obtain ⟨he61, rfl, hok61⟩ := hk61
    have he61 : _ = [I ((y.shelf).flatten[k2]'hi3bcf4).prio, I ((y.shelf).flatten[k2]'hi3bcf4).seq, I ((y.shelf).flatten[k2]'hi3bcf4).run, I ((y.shelf).flatten[k2]'hi3bcf4).task] := he61
    subst he61
    refine rd st54 h57_ [] [(42, .bool (!(inB ((y.shelf).flatten[k2]'hi3bcf4).seq 1 (y.seq - 1))))] [qx hp60, qn hr60 1, qb 1 rfl 1, qsb y.seq 1, qc (args := [I ((y.shelf).flatten[k2]'hi3bcf4).seq, I 1, I (y.seq - 1)]) (v := .bool (inB ((y.shelf).flatten[k2]'hi3bcf4).seq 1 (y.seq - 1))) Tryz.func43 rfl (fun W s b => cN W ((y.shelf).flatten[k2]'hi3bcf4).seq 1 (y.seq - 1)), .o] aE aE fun f62 W63 h62_ st64 hb65 => (cT (h62_.at 42) (fun h66 => ?_) (fun h66 => ?_))
    ·have h66p := cJ (aW h66)
     refine wp_seq (aA (sg (aC (v := .bool false) rfl (aB (wr (aL Tryz.results88 rfl ?_))))))
     exact ⟨(fB (by rw [cQ (by rintro ⟨hz3, hz5, hz6, hz7⟩; have hq := hz6 _ (List.getElem_mem (n := k2) aD); omega)])), st64.bare⟩
    ·have h66p := inB_iff'.1 (bG h66)
     refine wp_skip (wp_seq (aA (sg (aC (v := I 0) rfl (aB (wp_block (aY (fun (m : Nat) (f : Nat → Value) (W : World) => ∃ (j : Nat), k2 < y.shelf.flatten.length ∧ j ≤ k2 ∧ (y.shelf.flatten[k2]'(by omega)).seq ∉ (y.shelf.flatten.take j).map (·.seq) ∧ m = k2 - j ∧ Ag [(1, .pointer (some ⟨b1, 0, none⟩)), (4, v40), (5, I (k2 : Int)), (6, I (j : Int))] f ∧ St w W ([Res.own (α := List Entry) v40 (y.shelf).flatten fp40, Res.bx b1 [I y.now, I y.seq, v9_0, v9_1] 34])) (k2 - 0) ?_ ?_)))))))
     ·exact ⟨0, aD, aD, (by simp), rfl, (h62_.put.to aE), st64⟩
     intro m71 f72 W73 hJ74
     obtain ⟨j, hk2b, hj, hJ, rfl, hA76, st75⟩ := hJ74
     refine wp_seq (wp_seq (aA (rn st75 3 hA76 [] [(45, .bool (decide ((j : Int) < (k2 : Int))))] [.o] aE fun f78 h78_ => (aB (aK (h78_.at 45) (fun h79p => ?_) (fun h79p => ?_))))))
     ·refine wp_skip (wp_seq (wp_block (wp_seq ?_)))
      have hi2a04a : j < (y.shelf).flatten.length := aD
      have hq_ := idx (aI (st75.get 0 rfl)) (i := j) hi2a04a
      obtain ⟨b81, o81, cs81, f81, hp81, hr81, hc81, hm81⟩ := hq_
      have hk82 := hc81
      obtain ⟨he82, rfl, hok82⟩ := hk82
      have he82 : _ = [I ((y.shelf).flatten[j]'hi2a04a).prio, I ((y.shelf).flatten[j]'hi2a04a).seq, I ((y.shelf).flatten[j]'hi2a04a).run, I ((y.shelf).flatten[j]'hi2a04a).task] := he82
      subst he82
      have hi3bcf4 : k2 < (y.shelf).flatten.length := aD
      have hq_ := idx (aI (st75.get 0 rfl)) (i := k2) hi3bcf4
      obtain ⟨b83, o83, cs83, f83, hp83, hr83, hc83, hm83⟩ := hq_
      have hk84 := hc83
      obtain ⟨he84, rfl, hok84⟩ := hk84
      have he84 : _ = [I ((y.shelf).flatten[k2]'hi3bcf4).prio, I ((y.shelf).flatten[k2]'hi3bcf4).seq, I ((y.shelf).flatten[k2]'hi3bcf4).run, I ((y.shelf).flatten[k2]'hi3bcf4).task] := he84
      subst he84
      refine rd st75 h78_ [] [(58, .bool (decide (((y.shelf).flatten[j]'hi2a04a).seq = ((y.shelf).flatten[k2]'hi3bcf4).seq)))] [qx hp81, qn hr81 1, qx hp83, qn hr83 1, .o] aE aE fun f85 W86 h85_ st87 hb88 => (aK (h85_.at 58) (fun h89p => ?_) (fun h89p => ?_))
      ·refine wp_seq (aA (sg (aC (v := .bool false) rfl (aB (wr (aL Tryz.results88 rfl ?_))))))
       exact ⟨(fB (by rw [cQ (by rintro ⟨hz3, hz5, hz6, hz7⟩; exact oS (k := k2) aD (by rw [← h89p]; exact List.mem_map_of_mem (sN aD aD)) hz7)])), st87.bare⟩
      ·refine wp_skip (aA (rn st87 3 h85_ [6] [(6, I ((j : Int) + 1))] [qad (j : Int) 1] aE fun f93 h93_ => (aB ?_)))
       exact ⟨_, k2 - (j + 1), aD, rfl, j + 1, aD, aD, (by rw [qO _ aD, List.mem_append]; rintro (hq | hq); exact hJ hq; rw [List.mem_singleton] at hq; exact h89p hq.symm), rfl, (h93_.to aE), st87⟩
     ·refine wp_exit (aA (rn st75 3 h78_ [5] [(5, I ((k2 : Int) + 1))] [qad (k2 : Int) 1] aE fun f95 h95_ => (aB ?_)))
      exact ⟨_, y.shelf.flatten.length - (k2 + 1), aD, rfl, k2 + 1, aD, (mA aD hS2 aD), (nK aD hS3 (by rw [show j = k2 by omega] at hJ; exact hJ)), rfl, (h95_.to aE), st75⟩
   ·refine wp_exit (wp_seq (aA (sg (aC (v := .bool true) rfl (aB (wr (aL Tryz.results88 rfl ?_)))))))
    have hS2 : ∀ e ∈ y.shelf.flatten, 1 ≤ e.seq ∧ e.seq ≤ y.seq - 1 := by rw [show k2 = y.shelf.flatten.length by omega, List.take_length] at hS2; exact hS2
    have hS3 : (y.shelf.flatten.map (·.seq)).Nodup := by rw [show k2 = y.shelf.flatten.length by omega, List.take_length] at hS3; exact hS3
    exact ⟨(fB (by rw [gG ⟨by omega, hS1, hS2, hS3⟩])), st54.bare⟩
theorem oM (w : World) {y : Yard} {cs : List Value} {fp : List Nat} (hc : Shape.C w cs y fp) (hw : y.wt ≤ 1048576) :
  Calls Tryz.prog 42 #[.agg cs.toArray] w fun e w' => e = .returned (.bool (dR y)) ∧ St w w' [] := by
 have hyr : y.runs.length ≤ y.wt := by unfold Yard.wt wtL; omega
 have hys : y.shelf.length ≤ y.wt := by unfold Yard.wt wtL; omega
 have hfw := qV y
 refine cR Tryz.func42 rfl Tryz.ntmps42 aX (wp_seq (aA (sg (aJ (cs := cs) rfl (St.start w) ?_)))); intro b1 W2 hb3 st4
 refine sg (aC (v := .bool false) rfl (aB (wp_seq (wp_seq (aA ?_)))))
 have hk9 := hc
 obtain ⟨v9_0, v9_1, g9_0, g9_1, rfl, hok9, h9_0, h9_1, rfl⟩ := hk9
 rcases bd (!(inB y.now 0 999999980)) with h10 | h10
 ·have h10p := inB_iff'.1 (bG h10)
  rcases bd (!(inB y.seq 1 1000000000)) with h11 | h11
  ·have h11p := inB_iff'.1 (bG h11)
   rcases nem (8 < (y.runs.length : Int)) with h12p | h12p
   ·have h12 := decide_eq_false h12p
    refine rc st4 21 Ag.nil.put.put.put [] [(26, .bool (!(pB (y.shelf.length = 4 ∧ (∀ l ∈ y.shelf, eY l = true) ∧ (∀ e ∈ y.shelf.flatten, 1 ≤ e.seq ∧ e.seq ≤ y.seq - 1) ∧ (y.shelf.flatten.map (·.seq)).Nodup))))] [qb 0 rfl 0, qc Tryz.func43 rfl (fun W s b => cN W y.now 0 999999980), qk h10, qb 0 rfl 1, qc Tryz.func43 rfl (fun W s b => cN W y.seq 1 1000000000), qk h11, qb 0 rfl 3, ql h9_1, qk h12, qb 0 rfl 0, qc Tryz.func88 rfl (fun W s b => ShelvesS W (bA hc s.below) aD aD), .o] aE fun f13 W14 h13_ st15 hb16 => (aB (cT (h13_.at 26) (fun h17 => ?_) (fun h17 => ?_)))
    ·refine wp_seq (aA (sg (aC (v := .bool false) rfl (aB (wr (aL Tryz.results42 rfl ?_))))))
     exact ⟨(fB (by unfold dR; rw [cQ (by rintro ⟨hz1, hz2, hz3, hz4, hz5, hz6, hz7, hz8, hz9⟩; exact yY (aW h17) ⟨hz3, hz5, hz6, hz7⟩)])), st15.bare⟩
    ·refine wp_skip (wp_seq (wp_seq (aA ?_)))
     have hSH := pB_iff.1 (bG h17)
     refine sg (aC (v := I 0) rfl (aB (wp_block (aY (fun (m : Nat) (f : Nat → Value) (W : World) => ∃ (k3 : Nat), k3 ≤ y.runs.length ∧ (∀ j, j < k3 → ∀ h : j < y.runs.length, dK y.runs[j] = true ∧ iD y y.runs[j].id = (j : Int)) ∧ m = y.runs.length - k3 ∧ Ag [(1, .pointer (some ⟨b1, 0, none⟩)), (3, I (k3 : Int))] f ∧ St w W ([Res.bx b1 [I y.now, I y.seq, v9_0, v9_1] 34])) (y.runs.length - 0) ?_ ?_))))
     ·exact ⟨0, aD, (fun j hj => absurd hj (Nat.not_lt_zero j)), rfl, (h13_.put.to aE), st15⟩
     intro m22 f23 W24 hJ25
     obtain ⟨k3, hk3, hS3, rfl, hA27, st26⟩ := hJ25
     refine wp_seq (wp_seq (aA (rn st26 5 hA27 [] [(31, .bool (decide ((k3 : Int) < (y.runs.length : Int))))] [qb 0 rfl 3, ql h9_1, .o] aE fun f29 h29_ => (aB (aK (h29_.at 31) (fun h30p => ?_) (fun h30p => ?_))))))
     ·refine wp_skip (wp_seq (wp_block (wp_seq ?_)))
      have hi7dcb8 : k3 < y.runs.length := aD
      rcases bd (!(dK (y.runs[k3]'hi7dcb8))) with h34 | h34
      ·have hi7dcb8 : k3 < y.runs.length := aD
       have hq_ := idx h9_1 (i := k3) hi7dcb8
       obtain ⟨b36, o36, cs36, f36, hp36, hr36, hc36, hm36⟩ := hq_
       have hk37 := hc36
       obtain ⟨v37_0, v37_1, g37_0, g37_1, rfl, hok37, h37_0, h37_1, rfl⟩ := hk37
       refine rd st26 h29_ [] [(52, .bool (!decide ((iD y (y.runs[k3]'hi7dcb8).id) = (k3 : Int))))] [qb 0 rfl 3, qx hp36, qr hr36 0, qc (args := [.agg #[I (y.runs[k3]'hi7dcb8).id, I (y.runs[k3]'hi7dcb8).plan.prio, I (y.runs[k3]'hi7dcb8).plan.most, I (y.runs[k3]'hi7dcb8).plan.wait, I (y.runs[k3]'hi7dcb8).plan.tasks, v37_0, I (y.runs[k3]'hi7dcb8).state, v37_1]]) (v := .bool (dK (y.runs[k3]'hi7dcb8))) Tryz.func89 rfl (fun W s b => uW W (bA hc36 s.below)), qk h34, qb 0 rfl 0, qb 0 rfl 3, qx hp36, qr hr36 0, qc (args := [.agg #[I y.now, I y.seq, v9_0, v9_1], I (y.runs[k3]'hi7dcb8).id]) (v := I (iD y (y.runs[k3]'hi7dcb8).id)) Tryz.func90 rfl (fun W s b => xH W (bA hc s.below) (y.runs[k3]'hi7dcb8).id aD), .o] aE aE fun f38 W39 h38_ st40 hb41 => (cB (h38_.at 52) (fun h42p => ?_) (fun h42p => ?_))
       ·refine wp_seq (aA (sg (aC (v := .bool false) rfl (aB (wr (aL Tryz.results42 rfl ?_))))))
        exact ⟨(fB (by unfold dR; rw [cQ (by rintro ⟨hz1, hz2, hz3, hz4, hz5, hz6, hz7, hz8, hz9⟩; have hq := (hz8 k3 aD aD).2.1; omega)])), st40.bare⟩
       ·refine wp_skip (aA (sg (aF (v := I (k3 : Int)) (h38_.at 3) (sg (bY rfl rfl dX (sg (aC (v := I ((k3 : Int) + 1)) rfl (aB ?_))))))))
        exact ⟨_, y.runs.length - (k3 + 1), aD, rfl, k3 + 1, aD, (fun j hj => by rcases Nat.lt_succ_iff_lt_or_eq.1 hj with h1 | rfl; exact hS3 j h1; exact fun _ => ⟨(bG h34), by omega⟩), rfl, (h38_.put.put.put.to aE), st40⟩
      ·have hi7dcb8 : k3 < y.runs.length := aD
       have hq_ := idx h9_1 (i := k3) hi7dcb8
       obtain ⟨b50, o50, cs50, f50, hp50, hr50, hc50, hm50⟩ := hq_
       have hk51 := hc50
       obtain ⟨v51_0, v51_1, g51_0, g51_1, rfl, hok51, h51_0, h51_1, rfl⟩ := hk51
       refine rd st26 h29_ [] [(52, .bool true)] [qb 0 rfl 3, qx hp50, qr hr50 0, qc (args := [.agg #[I (y.runs[k3]'hi7dcb8).id, I (y.runs[k3]'hi7dcb8).plan.prio, I (y.runs[k3]'hi7dcb8).plan.most, I (y.runs[k3]'hi7dcb8).plan.wait, I (y.runs[k3]'hi7dcb8).plan.tasks, v51_0, I (y.runs[k3]'hi7dcb8).state, v51_1]]) (v := .bool (dK (y.runs[k3]'hi7dcb8))) Tryz.func89 rfl (fun W s b => uW W (bA hc50 s.below)), qk h34] aE aE fun f52 W53 h52_ st54 hb55 => (fH (h52_.at 52) rfl (wp_seq (aA (sg (aC (v := .bool false) rfl (aB (wr (aL Tryz.results42 rfl ?_))))))))
       exact ⟨(fB (by unfold dR; rw [cQ (by rintro ⟨hz1, hz2, hz3, hz4, hz5, hz6, hz7, hz8, hz9⟩; have hq := (hz8 k3 aD aD).1; rw [(aW h34)] at hq; cases hq)])), st54.bare⟩
     ·refine wp_exit (wp_seq (aA (sg (aV (cs := [I y.now, I y.seq, v9_0, v9_1]) bM rfl (h29_.at 1) (st26.get 0 rfl) rfl rfl (sg (bF Tryz.func91 rfl rfl ((yT W24 (bA hc st26.below) aD).mono ?_))))))); rintro _ W62 ⟨v60, fp60, rfl, hk63⟩; refine ⟨_, rfl, ?_⟩
      have st64 := St.call st26 hk63
      refine sg (aC (v := v60) rfl (aB (wp_seq (wp_seq (aA (sg (aC (v := I 0) rfl (aB (wp_block (aY (fun (m : Nat) (f : Nat → Value) (W : World) => ∃ (k4 : Nat), k4 ≤ y.runs.length ∧ (∀ j, j < k4 → qF y j) ∧ m = y.runs.length - k4 ∧ Ag [(1, .pointer (some ⟨b1, 0, none⟩)), (4, v60), (5, I (k4 : Int))] f ∧ St w W ([Res.own (α := List Entry) v60 (y.shelf).flatten fp60, Res.bx b1 [I y.now, I y.seq, v9_0, v9_1] 34])) (y.runs.length - 0) ?_ ?_))))))))))
      ·exact ⟨0, aD, (fun j hj => absurd hj (Nat.not_lt_zero j)), rfl, (h29_.put.put.put.put.to aE), st64⟩
      intro m70 f71 W72 hJ73
      obtain ⟨k4, hk4, hS4, rfl, hA75, st74⟩ := hJ73
      refine wp_seq (wp_seq (aA (rn st74 5 hA75 [] [(59, .bool (decide ((k4 : Int) < (y.runs.length : Int))))] [qb 1 rfl 3, ql h9_1, .o] aE fun f77 h77_ => (aB (aK (h77_.at 59) (fun h78p => ?_) (fun h78p => ?_))))))
      ·refine wp_skip (wp_seq (wp_block (wp_seq ?_)))
       have hwt := pC (hS3 k4 aD aD).1
       have hi68dc9 : k4 < y.runs.length := aD
       have hq_ := idx h9_1 (i := k4) hi68dc9
       obtain ⟨b80, o80, cs80, f80, hp80, hr80, hc80, hm80⟩ := hq_
       refine rd st74 h77_ [] [(70, .bool (!(fY y.now (y.runs[k4]'hi68dc9) (y.shelf).flatten)))] [qb 1 rfl 0, qb 1 rfl 3, qx hp80, qrw hr80 (Shape.len hc80), qc (args := [.agg #[I y.now, I y.seq, v9_0, v9_1], .agg cs80.toArray, v60]) (v := .bool (fY y.now (y.runs[k4]'hi68dc9) (y.shelf).flatten)) Tryz.func92 rfl (fun W s b => RunsOkS W (bA hc s.below) (bA hc80 s.below) (aI (s.get 0 rfl)) aD aD aD), .o] aE aE fun f81 W82 h81_ st83 hb84 => (cT (h81_.at 70) (fun h85 => ?_) (fun h85 => ?_))
       ·refine wp_seq (aA (sg (aC (v := .bool false) rfl (aB (wr (aL Tryz.results42 rfl ?_))))))
        exact ⟨(fB (by unfold dR; rw [cQ (by rintro ⟨hz1, hz2, hz3, hz4, hz5, hz6, hz7, hz8, hz9⟩; have hq := (hz8 k4 aD aD).2.2; rw [(aW h85)] at hq; cases hq)])), st83.bare⟩
       ·refine wp_skip (aA (rn st83 3 h81_ [5] [(5, I ((k4 : Int) + 1))] [qad (k4 : Int) 1] aE fun f89 h89_ => (aB ?_)))
        exact ⟨_, y.runs.length - (k4 + 1), aD, rfl, k4 + 1, aD, (fun j hj => by rcases Nat.lt_succ_iff_lt_or_eq.1 hj with h1 | rfl; exact hS4 j h1; exact fun _ => ⟨(hS3 _ aD aD).1, (hS3 _ aD aD).2, (bG h85)⟩), rfl, (h89_.to aE), st83⟩
      ·refine wp_exit (wp_seq (aA ?_))
       have hS4 : ∀ j, j < y.runs.length → qF y j := by rw [show k4 = y.runs.length by omega] at hS4; exact hS4
       refine rc st74 4 h77_ [] [(2, .bool (decide ((kD y) ≤ 40)))] [qb 1 rfl 0, qc Tryz.func93 rfl (fun W s b => SlotsOfS W (bA hc s.below) aD), .o] aE fun f91 W92 h91_ st93 hb94 => (aB ?_)
       rcases nem ((kD y) ≤ 40) with h95p | h95p
       ·have h95 := decide_eq_false h95p
        refine wr (aL Tryz.results42 ((h91_.at 2).trans (congrArg Value.bool h95)) ?_)
        exact ⟨(fB (by unfold dR; rw [cQ (by rintro ⟨hz1, hz2, hz3, hz4, hz5, hz6, hz7, hz8, hz9⟩; omega)])), st93.bare⟩
       ·have h95 := decide_eq_true h95p
        refine wr (aL Tryz.results42 ((h91_.at 2).trans (congrArg Value.bool h95)) ?_)
        exact ⟨(fB (by unfold dR; rw [gG ⟨by omega, by omega, hSH.1, by omega, hSH.2.1, hSH.2.2.1, hSH.2.2.2, hS4, by omega⟩])), st93.bare⟩
   ·have h12 := decide_eq_true h12p
    refine rc st4 21 Ag.nil.put.put.put [] [(26, .bool true)] [qb 0 rfl 0, qc Tryz.func43 rfl (fun W s b => cN W y.now 0 999999980), qk h10, qb 0 rfl 1, qc Tryz.func43 rfl (fun W s b => cN W y.seq 1 1000000000), qk h11, qb 0 rfl 3, ql h9_1, qk h12] aE fun f96 W97 h96_ st98 hb99 => (aB (fH (h96_.at 26) rfl (wp_seq (aA (sg (aC (v := .bool false) rfl (aB (wr (aL Tryz.results42 rfl ?_)))))))))
    exact ⟨(fB (by unfold dR; rw [cQ (by rintro ⟨hz1, hz2, hz3, hz4, hz5, hz6, hz7, hz8, hz9⟩; omega)])), st98.bare⟩
  ·have h11p := cJ (aW h11)
   refine rc st4 21 Ag.nil.put.put.put [] [(26, .bool true)] [qb 0 rfl 0, qc Tryz.func43 rfl (fun W s b => cN W y.now 0 999999980), qk h10, qb 0 rfl 1, qc Tryz.func43 rfl (fun W s b => cN W y.seq 1 1000000000), qk h11] aE fun f102 W103 h102_ st104 hb105 => (aB (fH (h102_.at 26) rfl (wp_seq (aA (sg (aC (v := .bool false) rfl (aB (wr (aL Tryz.results42 rfl ?_)))))))))
   exact ⟨(fB (by unfold dR; rw [cQ (by rintro ⟨hz1, hz2, hz3, hz4, hz5, hz6, hz7, hz8, hz9⟩; omega)])), st104.bare⟩
 ·have h10p := cJ (aW h10)
  refine rc st4 21 Ag.nil.put.put.put [] [(26, .bool true)] [qb 0 rfl 0, qc Tryz.func43 rfl (fun W s b => cN W y.now 0 999999980), qk h10] aE fun f108 W109 h108_ st110 hb111 => (aB (fH (h108_.at 26) rfl (wp_seq (aA (sg (aC (v := .bool false) rfl (aB (wr (aL Tryz.results42 rfl ?_)))))))))
  exact ⟨(fB (by unfold dR; rw [cQ (by rintro ⟨hz1, hz2, hz3, hz4, hz5, hz6, hz7, hz8, hz9⟩; omega)])), st110.bare⟩
def dO (y : Yard) (k : Nat) (r r' : Run) : Yard := ⟨y.now, y.seq + ((jA r r').length : Int), dC (bH r'.id).toNat r'.plan.prio r'.id (jA r r') y.shelf y.seq, y.runs.set k r'⟩
def aA9 (out : Yard) (k i : Nat) : Yard := match out.runs[k]? with
 | none => out
 | some r => match r.tasks[i]? with
  | none => out
  | some t => if t.state = 3 then dO out k r (jB r i) else out
def xX (y : Yard) (k : Nat) : Nat → Yard
 | 0 => y
 | i + 1 => aA9 (xX y k i) k i
def tC (y : Yard) (k : Nat) : Nat := match y.runs[k]? with | some r => r.tasks.length | none => 0
def zQ (y : Yard) : Nat → Yard
 | 0 => y
 | k + 1 => xX (zQ y k) k (tC y k)
theorem vG {y : Yard} {k : Nat} {r : Run} (h : y.runs[k]? = some r) : tC y k = r.tasks.length := by unfold tC; rw [h]

structure YardIs (y : Yard) : Prop where
 now : 0 ≤ y.now ∧ y.now ≤ 999999980
 seq : 1 ≤ y.seq ∧ y.seq ≤ 1000000000
 shelf : y.shelf.length = 4
 runs : y.runs.length ≤ 8
 each : ∀ l ∈ y.shelf, eY l = true
 run : ∀ (j : Nat) (r : Run), y.runs[j]? = some r → RunIs r ∧ dY y r.id = some j
theorem wT {y : Yard} (h : dR y = true) : YardIs y := by
 unfold dR at h
 rw [pB_iff] at h
 obtain ⟨h1, h2, h3, h4, h5, h6, h7, h8, h9⟩ := h
 refine ⟨h1, h2, h3, h4, h5, fun j r hj => ?_⟩
 obtain ⟨hl, rfl⟩ := List.getElem?_eq_some_iff.1 hj
 obtain ⟨a, b, _⟩ := h8 j hl hl
 refine ⟨runIs.1 a, ?_⟩
 unfold iD at b
 cases hq : dY y y.runs[j].id with
 | none => rw [hq] at b; simp only [ixI] at b; omega
 | some k => rw [hq] at b; simp only [ixI] at b; congr 1; omega
theorem RunIs.small {r : Run} (h : RunIs r) : r.ok ∧ r.tasks.length ≤ 12 ∧ r.plan.edges.length ≤ 30 := by
 have h2 := (lU h.plan).1
 have hl := h.len
 have hs := h.state
 have hid := h.id
 unfold cU at h2
 have hst : 0 ≤ dM r.tasks ∧ dM r.tasks ≤ 4 := by
  unfold dM
  split
  ·omega
  ·split
   ·omega
   ·split
    ·omega
    ·split <;> omega
 refine ⟨⟨by unfold I64; omega, ?_, by unfold I64; omega⟩, by omega, by omega⟩
 unfold Plan.ok
 refine ⟨?_, ?_, ?_, ?_⟩ <;> (unfold I64; omega)
theorem sG {xs : List Entry} (h : eY xs = true) : xs.length ≤ 80 := by
 unfold eY at h
 first | exact (pB_iff.1 h).1 | exact (pB_iff.1 h).2 | (simp at h; omega)
theorem vU {α β : Type} {p : α → Bool} {q : β → Bool} : ∀ {xs : List α} {ys : List β}, xs.length = ys.length → (∀ (j : Nat) (x : α) (y : β), xs[j]? = some x → ys[j]? = some y → p x = q y) → fE p xs = fE q ys
 | [], [], _, _ => rfl
 | x :: xs, y :: ys, hl, h => by
  have h0 := h 0 x y rfl rfl
  have ih := vU (xs := xs) (ys := ys) (by simpa using hl) (fun j a b ha hb => h (j + 1) a b (by simpa using ha) (by simpa using hb))
  unfold fE
  rw [h0, ih]
 | [], _ :: _, hl, _ => by simp at hl
 | _ :: _, [], hl, _ => by simp at hl
structure RI (y out : Yard) (n : Nat) : Prop where
 now : out.now = y.now
 seq : y.seq ≤ out.seq ∧ out.seq ≤ y.seq + 12 * (n : Int)
 shelf : out.shelf.length = y.shelf.length
 each : ∀ s, s < 4 → (out.shelf.getD s []).length ≤ 80 + 12 * n
 runs : out.runs.length = y.runs.length
 run : ∀ (j : Nat) (r : Run), y.runs[j]? = some r → ∃ r2 : Run, out.runs[j]? = some r2 ∧ RunIs r2 ∧ r2.id = r.id ∧ r2.tasks.length = r.tasks.length ∧ ∀ (i : Nat) (t : Task), r.tasks[i]? = some t → ∃ t2, r2.tasks[i]? = some t2 ∧ t2.try_ = t.try_
theorem RI.start {y : Yard} (h : YardIs y) : RI y y 0 := by
 refine ⟨rfl, by omega, rfl, fun s hs => ?_, rfl, fun j r hj => ⟨r, hj, (h.run j r hj).1, rfl, rfl, fun i t ht => ⟨t, ht, rfl⟩⟩⟩
 have hl := h.shelf
 rw [List.getD_eq_getElem?_getD, List.getElem?_eq_getElem aD]
 have := sG (h.each y.shelf[s] (List.getElem_mem _))
 simpa using this
theorem RI.mono {y out : Yard} {n m : Nat} (h : RI y out n) (hm : n ≤ m) : RI y out m :=
 ⟨h.now, by have := h.seq; omega, h.shelf, fun s hs => by have := h.each s hs; omega, h.runs, h.run⟩
theorem mI (sh : Nat) (prio rid : Int) (s : Nat) (hs : s ≠ sh) : ∀ (ts : List Int) (xss : List (List Entry)) (seq : Int), (dC sh prio rid ts xss seq).getD s [] = xss.getD s []
 | [], xss, seq => rfl
 | u :: ts, xss, seq => by
  simp only [dC]
  rw [mI sh prio rid s hs ts]
  rw [List.getD_eq_getElem?_getD, List.getElem?_set_ne (fun e => hs e.symm), List.getD_eq_getElem?_getD]
theorem RI.change {y out : Yard} {n k i : Nat} {r : Run} {t : Task} (hy : YardIs y) (h : RI y out n) (hr : out.runs[k]? = some r) (ht : r.tasks[i]? = some t) (h3 : t.state = 3) (hR : RunIs r) : RI y (dO out k r (jB r i)) (n + 1) := by
 obtain ⟨hk1, hk2, hk3, hk4⟩ := failsR_keeps r i
 have hsm := hR.small
 have hfl := lG r (jB r i)
 have hsh := hy.shelf
 have hsr := iQ (jB r i).id
 have hkl := (List.getElem?_eq_some_iff.1 hr).1
 refine ⟨h.now, ?_, ?_, ?_, ?_, ?_⟩
 ·show y.seq ≤ out.seq + _ ∧ out.seq + _ ≤ _
  have := h.seq; omega
 ·show (dC _ _ _ _ _ _).length = _
  rw [kM]; exact h.shelf
 ·intro s hs
  show ((dC _ _ _ _ _ _).getD s []).length ≤ _
  by_cases e : s = (bH (jB r i).id).toNat
  ·subst e
   rw [kN _ _ _ _ _ _ (by rw [h.shelf]; omega)]
   have := h.each _ hs
   omega
  ·rw [mI _ _ _ s e]
   have := h.each s hs
   omega
 ·show (out.runs.set k _).length = _
  rw [List.length_set]; exact h.runs
 ·intro j r0 hj
  obtain ⟨r2, h1, h2, h4, h5, h6⟩ := h.run j r0 hj
  show ∃ r2, (out.runs.set k _)[j]? = some r2 ∧ _
  by_cases e : k = j
  ·subst e
   rw [hr] at h1
   have e2 := Option.some.inj h1
   subst e2
   refine ⟨jB r i, List.getElem?_set_self hkl, hR.fails ht h3, by rw [hk1]; exact h4, by rw [hk3]; exact h5, fun a u hu => ?_⟩
   obtain ⟨u2, g1, g2⟩ := h6 a u hu
   obtain ⟨u3, g3, g4⟩ := hk4 a u2 g1
   exact ⟨u3, g3, by rw [g4]; exact g2⟩
  ·exact ⟨r2, by rw [List.getElem?_set_ne e]; exact h1, h2, h4, h5, h6⟩
theorem RI.turn {y out : Yard} {n : Nat} (hy : YardIs y) (h : RI y out n) {k i : Nat} (hk : k < y.runs.length) : RI y (aA9 out k i) (n + 1) := by
 obtain ⟨r2, h1, h2, _⟩ := h.run k _ (List.getElem?_eq_getElem hk)
 unfold aA9
 rw [h1]
 simp only
 cases ht : r2.tasks[i]? with
 | none => exact h.mono aD
 | some t =>
  simp only
  split
  ·next h3 => exact h.change hy h1 ht h3 h2
  ·exact h.mono aD
theorem RI.inner {y out : Yard} {n : Nat} (hy : YardIs y) (h : RI y out n) {k : Nat} (hk : k < y.runs.length) : ∀ i, RI y (xX out k i) (n + i)
 | 0 => h
 | i + 1 => (RI.inner hy h hk i).turn hy hk
theorem RI.outer {y : Yard} (hy : YardIs y) : ∀ k, k ≤ y.runs.length → RI y (zQ y k) (12 * k)
 | 0, _ => RI.start hy
 | k + 1, hk => by
  have ih := RI.outer hy k aD
  have hr : y.runs[k]? = some y.runs[k] := List.getElem?_eq_getElem aD
  have hs := (hy.run k _ hr).1.small
  have := ih.inner hy (k := k) aD (tC y k)
  rw [vG hr] at this
  show RI y (xX (zQ y k) k (tC y k)) _
  rw [vG hr]
  exact this.mono aD
theorem RI.at {y : Yard} (hy : YardIs y) {k i : Nat} (hk : k < y.runs.length) : RI y (xX (zQ y k) k i) (12 * k + i) := (RI.outer hy k aD).inner hy hk i
theorem RI.ix {y out : Yard} {n : Nat} (hy : YardIs y) (h : RI y out n) {k : Nat} {r : Run} (hr : y.runs[k]? = some r) : dY out r.id = some k := by
 rw [← (hy.run k r hr).2]
 unfold dY
 rw [h.runs]
 congr 1
 exact vU h.runs (fun j a b ha hb => by
  obtain ⟨r2, h1, _, h3, _⟩ := h.run j b hb
  rw [ha] at h1
  have := Option.some.inj h1
  subst this
  rw [h3])
def fR (y : Yard) (id task try_ : Int) : Bool :=
 match dY y id with
 | none => false
 | some k => match y.runs[k]? with
  | none => false
  | some r => inB task 0 ((r.tasks.length : Int) - 1) && (match r.tasks[task.toNat]? with | some t => decide (t.state = 3) && decide (t.try_ = try_) | none => false)
theorem RI.holds {y out : Yard} {n : Nat} (hy : YardIs y) (h : RI y out n) {k i : Nat} {r : Run} {t : Task} (hr : y.runs[k]? = some r) (ht : r.tasks[i]? = some t) :
  ∃ r2 t2, out.runs[k]? = some r2 ∧ RunIs r2 ∧ r2.tasks[i]? = some t2 ∧ fR out r.id (i : Int) t.try_ = decide (t2.state = 3) := by
 obtain ⟨r2, h1, h2, h3, h4, h5⟩ := h.run k r hr
 obtain ⟨t2, h6, h7⟩ := h5 i t ht
 refine ⟨r2, t2, h1, h2, h6, ?_⟩
 have hl := (List.getElem?_eq_some_iff.1 ht).1
 unfold fR
 rw [h.ix hy hr]
 simp only [h1, Int.toNat_natCast, h6, h7, decide_true, Bool.and_true]
 have : inB (i : Int) 0 ((r2.tasks.length : Int) - 1) = true := inB_iff'.2 aD
 rw [this]; rfl
theorem fresh_runs {y y' : Yard} (h : y'.runs = y.runs) (e : Entry) : fresh y' e = fresh y e := by
 unfold fresh dY
 rw [h]
theorem yE {y : Yard} {e : Entry} (h : fresh y e = true) : ∃ k r t, dY y e.run = some k ∧ y.runs[k]? = some r ∧ 0 ≤ e.task ∧ r.tasks[e.task.toNat]? = some t ∧ t.state = 2 := by
 unfold fresh at h
 cases h1 : dY y e.run with
 | none => rw [h1] at h; cases h
 | some k =>
  rw [h1] at h
  simp only at h
  cases h2 : y.runs[k]? with
  | none => rw [h2] at h; cases h
  | some r =>
   rw [h2] at h
   simp only [Bool.and_eq_true] at h
   obtain ⟨h3, h4⟩ := h
   cases h5 : r.tasks[e.task.toNat]? with
   | none => rw [h5] at h4; cases h4
   | some t => rw [h5] at h4; exact ⟨k, r, t, rfl, h2, (inB_iff'.1 h3).1, h5, by simpa using h4⟩
def iE (y : Yard) (s : Nat) (l : List Entry) : Yard := ⟨y.now, y.seq, y.shelf.set s l, y.runs⟩
def aZ (y : Yard) (s : Int) : Yard := if inB s 0 ((y.shelf.length : Int) - 1) then iE y s.toNat ((y.shelf.getD s.toNat []).filter (fresh y)) else y
def eU (xs : List Entry) : Nat := (xs.length + 1) / 2
def fD (a b : List Entry) : List Entry := if 80 < a.length + b.length then a else b.foldl jF a
theorem lP (b : List Entry) : ∀ a : List Entry, (b.foldl jF a).length = a.length + b.length := by
 induction b with
 | nil => intro a; rfl
 | cons e b ih => intro a; rw [List.foldl_cons, ih, xZ, List.length_cons]; omega
theorem qU {a b : List Entry} {k : Nat} (h : k < b.length) : (b.take (k + 1)).foldl jF a = jF ((b.take k).foldl jF a) b[k] := by
 rw [List.take_succ_eq_append_getElem h, List.foldl_append]; rfl
theorem merged_len {a b : List Entry} (h : a.length ≤ 80) : (fD a b).length ≤ 80 := by
 unfold fD
 split
 ·exact h
 ·rw [lP]; omega
theorem putE_mem {xs : List Entry} {e x : Entry} (h : x ∈ jF xs e) : x ∈ xs ∨ x = e := by
 unfold jF at h
 rw [List.mem_append, List.mem_cons] at h
 rcases h with h | h | h
 ·exact .inl (List.mem_of_mem_take h)
 ·exact .inr h
 ·exact .inl (List.mem_of_mem_drop h)
theorem foldl_put_mem (b : List Entry) : ∀ {a : List Entry} {x : Entry}, x ∈ b.foldl jF a → x ∈ a ∨ x ∈ b := by
 induction b with
 | nil => intro a x h; exact .inl h
 | cons e b ih =>
  intro a x h
  rcases ih h with h | h
  ·rcases putE_mem h with h | h
   ·exact .inl h
   ·exact .inr (by simp [h])
  ·exact .inr (by simp [h])
theorem merged_mem {a b : List Entry} {x : Entry} (h : x ∈ fD a b) : x ∈ a ∨ x ∈ b := by
 unfold fD at h
 split at h
 ·exact .inl h
 ·exact foldl_put_mem b h
def mG (home draw : Int) (i : Nat) : Int := (home + 1 + (max draw 0 % 3 + (i : Int)) % 3) % 4
def cI (home draw : Int) : List Int := [mG home draw 0, mG home draw 1, mG home draw 2]
theorem victim_rng (home draw : Int) (i : Nat) (hh : 0 ≤ home ∧ home ≤ 3) : 0 ≤ mG home draw i ∧ mG home draw i ≤ 3 ∧ mG home draw i ≠ home := by unfold mG; omega
theorem mZ {home draw : Int} (hh : 0 ≤ home ∧ home ≤ 3) : ∀ o ∈ cI home draw, 0 ≤ o ∧ o ≤ 3 ∧ o ≠ home := by
 intro o ho
 simp only [cI, List.mem_cons, List.not_mem_nil, or_false] at ho
 rcases ho with rfl | rfl | rfl <;> exact victim_rng _ _ _ hh
def xW (y : Yard) (home o : Nat) : Yard := iE (iE y home (fD (y.shelf.getD home []) ((y.shelf.getD o []).take (eU (y.shelf.getD o []))))) o ((y.shelf.getD o []).drop (eU (y.shelf.getD o [])))
theorem robY_comm {y : Yard} {home o : Nat} (h : home ≠ o) : xW y home o = iE (iE y o ((y.shelf.getD o []).drop (eU (y.shelf.getD o [])))) home (fD (y.shelf.getD home []) ((y.shelf.getD o []).take (eU (y.shelf.getD o [])))) := by
 unfold xW iE
 simp only [Yard.mk.injEq, true_and, and_true]
 rw [List.set_comm _ _ h]
def sI (home : Nat) (y : Yard) (o : Int) : Yard := if y.shelf.getD home [] = [] then xW (aZ y o) home o.toNat else y
def eR (home : Nat) (y : Yard) (l : List Int) : Yard := l.foldl (sI home) y
theorem vO {home : Nat} {y : Yard} {l : List Int} {k : Nat} {o : Int} (h : l[k]? = some o) (he : (eR home y (l.take k)).shelf.getD home [] = []) : eR home y (l.take (k + 1)) = xW (aZ (eR home y (l.take k)) o) home o.toNat := by
 obtain ⟨hj, rfl⟩ := List.getElem?_eq_some_iff.1 h
 rw [List.take_succ_eq_append_getElem hj]
 unfold eR at he ⊢
 rw [List.foldl_append, List.foldl_cons, List.foldl_nil]
 have hz : ∀ (z : Yard) (o : Int), z.shelf.getD home [] = [] → sI home z o = xW (aZ z o) home o.toNat := fun z o h => by unfold sI; rw [if_pos h]
 exact hz _ _ he
theorem sH {home : Nat} {y : Yard} : ∀ {l : List Int}, ¬ y.shelf.getD home [] = [] → eR home y l = y
 | [], _ => rfl
 | o :: l, h => by
  show eR home (sI home y o) l = y
  have : sI home y o = y := by unfold sI; rw [if_neg h]
  rw [this]; exact sH h
theorem tO {home : Nat} {y : Yard} {l : List Int} {k : Nat} (h : ¬ (eR home y (l.take k)).shelf.getD home [] = []) : eR home y l = eR home y (l.take k) := by
 have e : eR home y l = eR home (eR home y (l.take k)) (l.drop k) := by
  unfold eR
  rw [← List.foldl_append, List.take_append_drop]
 rw [e]; exact sH h
theorem tP {home : Nat} {y : Yard} {l : List Int} {k : Nat} (h : k = l.length) : eR home y (l.take k) = eR home y l := by rw [h, List.take_length]
structure PI (y out : Yard) (home : Nat) : Prop where
 now : out.now = y.now
 seq : out.seq = y.seq
 runs : out.runs = y.runs
 len : out.shelf.length = 4
 each : ∀ s, s < 4 → (out.shelf.getD s []).length ≤ 80
 fresh : ∀ e ∈ out.shelf.getD home [], fresh y e = true
theorem jP {xss : List (List Entry)} {s : Nat} (h : s < xss.length) (l : List Entry) : (xss.set s l).getD s [] = l := by rw [List.getD_eq_getElem?_getD, List.getElem?_set_self h]; rfl
theorem nN {xss : List (List Entry)} {s j : Nat} (h : s ≠ j) (l : List Entry) : (xss.set s l).getD j [] = xss.getD j [] := by rw [List.getD_eq_getElem?_getD, List.getElem?_set_ne h, List.getD_eq_getElem?_getD]
theorem rM {y : Yard} {s : Int} (h : 0 ≤ s ∧ s ≤ 3) (h4 : y.shelf.length = 4) : aZ y s = iE y s.toNat ((y.shelf.getD s.toNat []).filter (Go.Proofs.YtchnllpegfbleaaGreat.fresh y)) := by
 unfold aZ
 rw [if_pos (inB_iff'.2 aD)]
theorem sV {y : Yard} (h : YardIs y) : ∀ s, s < 4 → (y.shelf.getD s []).length ≤ 80 := by
 intro s hs
 have hl := h.shelf
 rw [List.getD_eq_getElem?_getD, List.getElem?_eq_getElem aD]
 have := sG (h.each y.shelf[s] (List.getElem_mem _))
 simpa using this
theorem kS {xss : List (List Entry)} {n s : Nat} {l : List Entry} (h : ∀ j, j < 4 → (xss.getD j []).length ≤ n) (hl : l.length ≤ n) (h4 : xss.length = 4) : ∀ j, j < 4 → ((xss.set s l).getD j []).length ≤ n := by
 intro j hj
 by_cases e : s = j
 ·subst e; rw [jP aD]; exact hl
 ·rw [nN e]; exact h j hj
theorem PI.start {y : Yard} (h : YardIs y) {home : Nat} (hh : home < 4) : PI y (aZ y (home : Int)) home := by
 have h4 := h.shelf
 rw [rM aD h4]
 simp only [Int.toNat_natCast]
 refine ⟨rfl, rfl, rfl, by show (y.shelf.set _ _).length = 4; rw [List.length_set]; exact h4, ?_, ?_⟩
 ·exact kS (sV h) (Nat.le_trans (List.length_filter_le _ _) (sV h home hh)) h4
 ·intro e he
  have : e ∈ (y.shelf.set home ((y.shelf.getD home []).filter (Go.Proofs.YtchnllpegfbleaaGreat.fresh y))).getD home [] := he
  rw [jP aD] at this
  exact (List.mem_filter.1 this).2
theorem PI.rob {y out : Yard} {home : Nat} (h : PI y out home) (hh : home < 4) {o : Int} (ho : 0 ≤ o ∧ o ≤ 3 ∧ o ≠ (home : Int)) : PI y (xW (aZ out o) home o.toNat) home := by
 have h4 := h.len
 have e4 : (out.shelf.set o.toNat ((out.shelf.getD o.toNat []).filter (Go.Proofs.YtchnllpegfbleaaGreat.fresh out))).length = 4 := by rw [List.length_set]; exact h4
 have e0 : (out.shelf.set o.toNat ((out.shelf.getD o.toNat []).filter (Go.Proofs.YtchnllpegfbleaaGreat.fresh out))).getD o.toNat [] = (out.shelf.getD o.toNat []).filter (Go.Proofs.YtchnllpegfbleaaGreat.fresh out) := jP aD _
 have e1 : (out.shelf.set o.toNat ((out.shelf.getD o.toNat []).filter (Go.Proofs.YtchnllpegfbleaaGreat.fresh out))).getD home [] = out.shelf.getD home [] := nN aD _
 have hfl : ((out.shelf.getD o.toNat []).filter (Go.Proofs.YtchnllpegfbleaaGreat.fresh out)).length ≤ 80 := Nat.le_trans (List.length_filter_le _ _) (h.each _ aD)
 rw [rM aD h4]
 refine ⟨h.now, h.seq, h.runs, ?_, ?_, ?_⟩
 ·unfold xW iE
  simp only [List.length_set]
  exact h4
 ·refine kS (kS (kS h.each hfl h4) ?_ e4) ?_ (by unfold iE; simp only [List.length_set]; exact h4)
  ·exact merged_len (by show ((List.set _ _ _).getD home []).length ≤ 80; rw [e1]; exact h.each _ hh)
  ·show (List.drop _ ((List.set _ _ _).getD _ [])).length ≤ 80
   rw [e0, List.length_drop]; omega
 ·intro e he
  have he' : e ∈ (((out.shelf.set o.toNat ((out.shelf.getD o.toNat []).filter (Go.Proofs.YtchnllpegfbleaaGreat.fresh out))).set home (fD ((out.shelf.set o.toNat ((out.shelf.getD o.toNat []).filter (Go.Proofs.YtchnllpegfbleaaGreat.fresh out))).getD home []) (((out.shelf.set o.toNat ((out.shelf.getD o.toNat []).filter (Go.Proofs.YtchnllpegfbleaaGreat.fresh out))).getD o.toNat []).take (eU ((out.shelf.set o.toNat ((out.shelf.getD o.toNat []).filter (Go.Proofs.YtchnllpegfbleaaGreat.fresh out))).getD o.toNat []))))).set o.toNat _).getD home [] := he
  rw [nN aD, jP aD, e0, e1] at he'
  rcases merged_mem he' with h1 | h1
  ·exact h.fresh e h1
  ·have := (List.mem_filter.1 (List.mem_of_mem_take h1)).2
   rwa [fresh_runs h.runs] at this
theorem PI.all {y : Yard} (h : YardIs y) {home : Nat} (hh : home < 4) {l : List Int} (hl : ∀ o ∈ l, 0 ≤ o ∧ o ≤ 3 ∧ o ≠ (home : Int)) : ∀ {out : Yard}, PI y out home → PI y (eR home out l) home := by
 induction l with
 | nil => intro out ho; exact ho
 | cons o l ih =>
  intro out ho
  refine ih (fun a ha => hl a (by simp [ha])) (out := sI home out o) ?_
  unfold sI
  split
  ·exact ho.rob hh (hl o (by simp))
  ·exact ho
theorem PI.take {y : Yard} (h : YardIs y) {home : Nat} (hh : home < 4) {l : List Int} (hl : ∀ o ∈ l, 0 ≤ o ∧ o ≤ 3 ∧ o ≠ (home : Int)) (k : Nat) : PI y (eR home (aZ y (home : Int)) (l.take k)) home := PI.all h hh (fun o ho => hl o (List.mem_of_mem_take ho)) (PI.start h hh)
def gZ (r : Run) (i : Nat) (t : Task) (now : Int) : Run := ⟨r.id, r.plan, r.state, r.tasks.set i ⟨3, t.need, t.try_ + 1, now + r.plan.wait⟩⟩
def pK (out : Yard) (home : Nat) : Yard × Reply := match out.shelf.getD home [] with
 | [] => (out, ⟨9, 0, 0, 0⟩)
 | e :: rest => match dY out e.run with
  | none => (out, ⟨9, 0, 0, 0⟩)
  | some k => match out.runs[k]? with
   | none => (out, ⟨9, 0, 0, 0⟩)
   | some r => match r.tasks[e.task.toNat]? with
    | none => (out, ⟨9, 0, 0, 0⟩)
    | some t => (⟨out.now, out.seq, out.shelf.set home rest, out.runs.set k (gZ r e.task.toNat t out.now)⟩, ⟨0, e.run, e.task, t.try_ + 1⟩)
noncomputable def aP (y : Yard) (worker draw : Int) : Yard × Reply :=
 if ¬ dR y = true then (y, ⟨8, 0, 0, 0⟩) else if ¬ inB worker 0 99 = true then (y, ⟨5, 0, 0, 0⟩)
 else pK (eR (worker % 4).toNat (aZ y (worker % 4)) (cI (worker % 4) draw)) (worker % 4).toNat
theorem uD {out : Yard} {home : Nat} (h : out.shelf.getD home [] = []) : pK out home = (out, ⟨9, 0, 0, 0⟩) := by unfold pK; rw [h]
theorem vZ {out : Yard} {home k : Nat} {e : Entry} {rest : List Entry} {r : Run} {t : Task} (h : out.shelf.getD home [] = e :: rest) (hk : dY out e.run = some k) (hr : out.runs[k]? = some r) (ht : r.tasks[e.task.toNat]? = some t) : pK out home = (⟨out.now, out.seq, out.shelf.set home rest, out.runs.set k (gZ r e.task.toNat t out.now)⟩, ⟨0, e.run, e.task, t.try_ + 1⟩) := by
 unfold pK
 rw [h]; simp only [hk, hr, ht]
theorem mid_get' {C : List Value} {o m j : Nat} {v : Value} (h : ((C.drop o).take m)[j]? = some v) : C[o + j]? = some v := by
 rw [List.getElem?_take] at h
 split at h
 ·rwa [List.getElem?_drop] at h
 ·cases h
theorem St.ownOpen {w0 W : World} {rs : List Res} {v : Value} {xs : List Entry} {fp : List Nat} (h : St w0 W (Res.own v xs fp :: rs)) (hne : 0 < xs.length) :
  ∃ b off cap C e, v = .slice (some ⟨b, off, none⟩) xs.length cap ∧ xs.length ≤ cap ∧ cap ≤ 9223372036854775807 ∧ off + xs.length * 4 ≤ C.length ∧ Elems W ((C.drop off).take (xs.length * 4)) xs [] ∧ St w0 W (Res.bx b C e :: rs) := by
 have hown := h.get 0 rfl
 have hwr := hown.2
 obtain ⟨ao, cap, e0, h1, h2, h3⟩ := aI hown
 rcases h3 with ⟨h0, _⟩ | ⟨b, off, f, _, e4, rfl, hb, h3⟩
 ·rw [h0] at hne; exact absurd hne (by simp)
 subst e4
 have hf := SlAt.plain eI h3
 subst hf
 obtain ⟨cells, he, hr⟩ := Elems.of_at off h3
 obtain ⟨C, e, hC⟩ := hwr b (by simp)
 have hcl : cells.length = xs.length * 4 := he.len
 have hget : ∀ j v, cells[j]? = some v → C.toList[off + j]? = some v := fun j v hj => by
  have := hr j v hj
  simpa [World.cell?, hC] using this
 have hle : off + xs.length * 4 ≤ C.toList.length := by
  have hj := List.getElem?_eq_getElem (l := cells) (i := xs.length * 4 - 1) aD
  have := (List.getElem?_eq_some_iff.1 (hget _ _ hj)).1
  omega
 have hce : cells = (C.toList.drop off).take (xs.length * 4) := by
  apply List.ext_getElem?
  intro j
  rw [List.getElem?_take]
  by_cases hj : j < xs.length * 4
  ·rw [if_pos hj, List.getElem?_drop, List.getElem?_eq_getElem aD]
   exact (hget j _ (List.getElem?_eq_getElem aD)).symm
  ·rw [if_neg hj, List.getElem?_eq_none aD]
 refine ⟨b, off, cap, C.toList, e, e0, h1, h2, hle, hce ▸ he, ?_⟩
 exact h.turn (r' := Res.bx b C.toList e) rfl rfl rfl (Nat.le_refl _) (fun _ _ _ => rfl) (by show W.heap[b]? = some (.cells C.toList.toArray e (0, 0)); simpa using hC) (by simp [Res.bx]) (fun c hc => .inl (by simpa [Res.own, Res.bx] using hc))
theorem St.ownShut {w0 W : World} {rs : List Res} {b off cap m : Nat} {C : List Value} {e : TypeId} {ys : List Entry} (h : St w0 W (Res.bx b C e :: rs)) (hE : Elems W ((C.drop off).take (m * 4)) ys []) (hm : ys.length = m) (h1 : m ≤ cap) (h2 : cap ≤ 9223372036854775807) (hle : off + m * 4 ≤ C.length) :
  ∃ fp, St w0 W (Res.own (.slice (some ⟨b, off, none⟩) m cap) ys fp :: rs) := by
 have hB : W.heap[b]? = some (.cells C.toArray e (0, 0)) := h.get 0 rfl
 subst hm
 cases ys with
 | nil =>
  refine ⟨[], h.turn (r' := Res.own _ ([] : List Entry) []) rfl rfl rfl (Nat.le_refl _) (fun _ _ _ => rfl) ⟨Sl.v ⟨_, cap, rfl, h1, h2, .inl ⟨rfl, rfl⟩⟩, by simp⟩ (by simp [Res.own]) (fun c hc => by simp [Res.own] at hc)⟩
 | cons y ys =>
  refine ⟨[b], h.turn (r' := Res.own _ (y :: ys) [b]) rfl rfl rfl (Nat.le_refl _) (fun _ _ _ => rfl) ⟨Sl.v ⟨_, cap, rfl, h1, h2, .inr ⟨b, off, [], by simp, rfl, rfl, (Array.getElem?_eq_some_iff.1 hB).1, ?_⟩⟩, ?_⟩ (by simp [Res.own]) (fun c hc => .inl (by simpa [Res.own, Res.bx] using hc))⟩
  ·refine hE.at off ?_
   intro j u hj
   have := cF hB (off + j) u (mid_get' hj)
   simpa using this
  ·intro c hc
   simp at hc; subst hc
   exact ⟨_, _, hB⟩
section
variable {P : Program} {n : Nat} {f : Nat → Value} {w0 W : World} {rs : List Res} {Q : Exit → Act → World → Prop} {d : Option Tmp} {ty : TypeId} {pos : String} {af : Array Go.Edge} {g : Option (Nat × Bool)} {K : Value → World → Prop}
theorem stp_clearb {t e e' : TypeId} {x : Operand} {b o m c : Nat} {C zs : List Value} (hT : P.underlying t = some (.slice e)) (hz : ((P.info? e).bind (·.zero)).map (·.cells) = some zs.toArray) (hzl : zs.length = 4) (hz1 : ∀ v ∈ zs, v.oneCell' = true) (hx : ev n f x = .slice (some ⟨b, o, none⟩) m c) (hm : 0 < m) (hst : St w0 W (Res.bx b C e' :: rs)) (hle : o + m * 4 ≤ C.length)
  (k : ∀ Z W', Z.length = m * 4 → St w0 W' (Res.bx b (cG C o Z) e' :: rs) → K (.tuple #[]) W') : Stp P n ⟨d, .call { callee := .builtin .clear, args := #[x], argTypes := #[t] }, ty, pos, af, g⟩ f W Q K := by
 have hB : W.heap[b]? = some (.cells C.toArray e' (0, 0)) := hst.get 0 rfl
 have hZl : (Builtin.zeroCells zs.toArray m).toList.length = m * 4 := by rw [Array.length_toList, size_zeroCells, List.size_toArray, hzl]
 cases hi : P.info? e with
 | none => simp [hi] at hz
 | some i =>
  cases hzz : i.zero with
  | none => simp [hi, hzz] at hz
  | some z =>
   have hzc : z.cells = zs.toArray := by simpa [hi, hzz] using hz
   have h1 : ∀ v ∈ (Builtin.zeroCells zs.toArray m).toList, v.oneCell' = true := by
    intro v hv
    simp only [Builtin.zeroCells, Array.toList_map, List.mem_map] at hv
    obtain ⟨j, _, rfl⟩ := hv
    have hj : j % zs.length < zs.length := Nat.mod_lt _ aD
    have hq : zs.toArray[j % zs.toArray.size]! = zs[j % zs.length] := by simp [hj]
    first | (rw [hq]; exact hz1 _ (List.getElem_mem _)) | (simp only [List.size_toArray] at *; rw [hq]; exact hz1 _ (List.getElem_mem _))
   have hst2 := run_storeCells_cells (P := P) b o (Builtin.zeroCells zs.toArray m).toList 0 W (fun j hj => by simp [World.cell?, hB]; omega) (fun j hj => by simp [World.frozen?, hB]) h1
   simp only [Nat.add_zero] at hst2
   have hr : (Builtin.clear_ #[t] ty #[.slice (some ⟨b, o, none⟩) m c]).run P W = .ok (.tuple #[]) (W.setCells b o (Builtin.zeroCells zs.toArray m).toList) := by
    obtain ⟨m', rfl⟩ : ∃ m', m = m' + 1 := ⟨m - 1, by omega⟩
    simp [Builtin.clear_, run_underlying hT, zeroValue, typeInfo, hi, hzz, hzc, hst2]
   refine Stp.run (v := .tuple #[]) (W' := W.setCells b o (Builtin.zeroCells zs.toArray m).toList) ?_ (k _ _ hZl (hst.store o _ (by rw [hZl]; exact hle)))
   simp only [execOp, resolve, invoke, builtin, Sem.run_bind, Sem.run_pure, Result.andThen_ok, List.map_toArray, List.map_cons, List.map_nil, hx, hr]
end
theorem splice_front {W W' : World} {C Z : List Value} {off i : Nat} {xs : List Entry} (hi : i ≤ xs.length) (hE : Elems W ((C.drop off).take (xs.length * 4)) xs []) (hle : off + xs.length * 4 ≤ C.length) (hZ : Z.length = (xs.length - i) * 4) : Elems W' (((cG C (off + i * 4) Z).drop off).take (i * 4)) (xs.take i) [] := by
 have h1 := (hE.parts i hi).1
 have h2 : (((C.drop off).take (xs.length * 4)).take (i * Shape.size Entry)) = (C.drop off).take (i * 4) := by
  rw [List.take_take]
  congr 1
  show min (i * 4) (xs.length * 4) = i * 4
  omega
 rw [h2] at h1
 have h3 : (((cG C (off + i * 4) Z).drop off).take (i * 4)) = (C.drop off).take (i * 4) := by
  rw [rP _ _ _ aD, List.append_assoc, List.drop_append_of_le_length (by rw [List.length_take]; omega), List.take_append_of_le_length (by rw [List.length_drop, List.length_take]; omega), List.drop_take, List.take_take]
  congr 1
  omega
 rw [h3]
 exact h1.entry
section
variable {α : Type} [Shape α]
theorem zN {w : World} {v : Value} {xs : List α} {fp : List Nat} {h : Nat} (hs : Sl w v xs fp) (hh : h ≤ xs.length) : ∃ u g, Sl w u (xs.take h) g ∧ (∀ c ∈ g, c ∈ fp) ∧
  ∀ {P : Program} {n : Nat} {f : Nat → Value} {W : World} {Q : Exit → Act → World → Prop} {K : Value → World → Prop} {d : Option Tmp} {ty : TypeId} {pos : String} {af : Array Go.Edge} {gd : Option (Nat × Bool)} {t t' : TypeId} {x y : Operand} {e : Int}, SlOk P t t' α → ev n f x = v → ev n f y = I e → e = h → K u W → Stp P n ⟨d, .slice t x none (some y) none, ty, pos, af, gd⟩ f W Q K := by
 obtain ⟨ao, cap, fp', rfl, hcap, hs', hf⟩ := hs.part 0 h (Nat.zero_le _) hh
 refine ⟨sliced ao 0 h cap (Shape.size α), fp', by simpa using hs', hf, ?_⟩
 intro P n f W Q K d ty pos af gd t t' x y e hT hx hy he k
 subst he
 have hel : P.elem t = t' := by simp [Program.elem, hT.desc]
 have hu : P.underlying t = some (.slice (P.elem t)) := by rw [hel]; exact hT.desc
 refine Stp.run (v := sliced ao 0 h cap (Shape.size α)) ?_ k
 simp only [execOp, hx, hy, Sem.run_bind, Option.map_none, Option.map_some]
 rw [run_sliceAt_slice (h := hu), run_slice_h (ht := hu) (h0 := by omega) (h2 := by omega), hel, kP hT.size]
 simp
theorem vL {w : World} {v : Value} {xs : List α} {fp : List Nat} {l : Nat} (hs : Sl w v xs fp) (hh : l ≤ xs.length) : ∃ u g, Sl w u (xs.drop l) g ∧ (∀ c ∈ g, c ∈ fp) ∧
  ∀ {P : Program} {n : Nat} {f : Nat → Value} {W : World} {Q : Exit → Act → World → Prop} {K : Value → World → Prop} {d : Option Tmp} {ty : TypeId} {pos : String} {af : Array Go.Edge} {gd : Option (Nat × Bool)} {t t' : TypeId} {x y : Operand} {e : Int}, SlOk P t t' α → ev n f x = v → ev n f y = I e → e = l → K u W → Stp P n ⟨d, .slice t x (some y) none none, ty, pos, af, gd⟩ f W Q K := by
 obtain ⟨ao, cap, fp', rfl, hcap, hs', hf⟩ := hs.part l xs.length hh (Nat.le_refl _)
 refine ⟨sliced ao l xs.length cap (Shape.size α), fp', by simpa using hs', hf, ?_⟩
 intro P n f W Q K d ty pos af gd t t' x y e hT hx hy he k
 subst he
 have hel : P.elem t = t' := by simp [Program.elem, hT.desc]
 have hu : P.underlying t = some (.slice (P.elem t)) := by rw [hel]; exact hT.desc
 refine Stp.run (v := sliced ao l xs.length cap (Shape.size α)) ?_ k
 simp only [execOp, hx, hy, Sem.run_bind, Option.map_none, Option.map_some]
 rw [run_sliceAt_slice (h := hu), run_slice_l (ht := hu) (h0 := by omega) (h1 := by omega), hel, kP hT.size]
 simp
end
section
variable {P : Program} {n : Nat} {f : Nat → Value} {W : World} {α : Type} [Shape α] [Agg α]
theorem wZ {fn : Func} {s u u2 : Tmp} {t : TypeId} {R : Ending → World → Prop} {b : Nat} {C : List Value} {t' : TypeId} {v v2 : Value} (hT : TyOk P t α) (ha : Agg.agg α = true) (hr : fn.results = #[.cell s t, .tmp u, .tmp u2]) (hv : ev n f (.tmp s) = .pointer (some ⟨b, 0, none⟩)) (hB : (Res.bx b C t').holds W) (hl : C.length = Shape.size α) (hu : ev n f (.tmp u) = v) (hu2 : ev n f (.tmp u2) = v2) (h : R (.returned (.tuple #[.agg C.toArray, v, v2])) W) : bodyPost P fn R .ret (act n f) W := by
 refine ⟨rfl, .tuple #[.agg C.toArray, v, v2], ?_, h⟩
 have h1 := hT.load (cF hB) hl
 simp only [val, ha, cond_true, Instr.loadAt, Instr.sureAddr, Sem.run_bind, Sem.run_pure, Result.andThen_ok] at h1
 have e : (act n f).tmps.getD s undef = .pointer (some ⟨b, 0, none⟩) := by rw [iK]; exact hv
 have e2 : (act n f).tmps.getD u undef = v := by rw [iK]; exact hu
 have e3 : (act n f).tmps.getD u2 undef = v2 := by rw [iK]; exact hu2
 rw [Array.getD_eq_getD_getElem?] at e e2 e3
 simp [results, hr, e, e2, e3, asAddr, h1]
end
theorem sl_ok {w : World} {v : Value} {xs : List Entry} {fp : List Nat} {i : Nat} {e : Entry} (h : Sl w v xs fp) (he : xs[i]? = some e) : e.ok := by
 obtain ⟨_, _, _, _, _, _, hc, _⟩ := gT h he
 exact hc.2.2
def gJ : Entry := ⟨0, 0, 0, 0⟩
theorem vict_to {home draw : Int} {k : Nat} (h : k < 3) : (cI home draw).take (k + 1) = (cI home draw).take k ++ [mG home draw k] := by
 rcases k with _ | _ | _ | k
 ·rfl
 ·rfl
 ·rfl
 ·omega
def fL (home : Int) (k : Nat) : List Int := [(home + 1) % 4, (home + 2) % 4, (home + 3) % 4].take (k - 1)
theorem aB1 {home : Int} {k : Nat} (h : 1 ≤ k) (h2 : k < 4) : fL home (k + 1) = fL home k ++ [(home + (k : Int)) % 4] := by
 rcases k with _ | _ | _ | _ | k
 ·omega
 ·rfl
 ·rfl
 ·rfl
 ·omega
theorem oth_4 (home : Int) : fL home 4 = [(home + 1) % 4, (home + 2) % 4, (home + 3) % 4] := rfl
theorem yA {home draw d : Int} (hd : d = max draw 0 % 3) : ([] ++ (fL home 4).drop d.toNat) ++ (fL home 4).take d.toNat = cI home draw := by
 rw [oth_4]
 have h3 : d = 0 ∨ d = 1 ∨ d = 2 := by omega
 unfold cI mG
 rw [← hd]
 rcases h3 with rfl | rfl | rfl
 ·simp only [Int.toNat_zero, List.drop_zero, List.take_zero, List.append_nil, List.nil_append, List.cons.injEq, and_true]
  omega
 ·show [(home + 2) % 4, (home + 3) % 4, (home + 1) % 4] = _
  simp only [List.cons.injEq, and_true]
  omega
 ·show [(home + 3) % 4, (home + 1) % 4, (home + 2) % 4] = _
  simp only [List.cons.injEq, and_true]
  omega

theorem BroughtI (w : World) (n a b : Int) (h : a ≤ n ∧ n ≤ b) :
  Calls Tryz.prog 191 #[I n, I a, I b] w fun e w' => e = .returned (I n) ∧ St w w' [] := by
 refine jX Tryz.func191 rfl Tryz.ntmps191 aX (wp_seq (aA (sg (aC (v := I 0) rfl (aB (wp_seq (wp_seq (aA ?_))))))))
 rcases nem (b < a) with h4p | h4p
 ·have h4 := decide_eq_false h4p
  refine rn (St.start w) 8 Ag.nil.put.put.put.put [] [(14, .bool (decide (n < a)))] [qk h4, .o] aE fun f5 h5_ => (aB (aK (h5_.at 14) (fun h6p => ?_) (fun h6p => ?_)))
  ·omega
  ·refine wp_skip (wp_seq (aA (rn (St.start w) 4 h5_ [6] [(6, I (min n b))] [] aE fun f8 h8_ => (aB (wr (aL Tryz.results191 (h8_.at 6) ?_))))))
   exact ⟨fI aD, (St.start w).bare⟩
 ·have h4 := decide_eq_true h4p
  omega
theorem BroughtS (w : World) (n a b : Int) (h : a ≤ n ∧ n ≤ b) :
  Calls Tryz.prog 186 #[I n, I a, I b] w fun e w' => e = .returned (I n) ∧ St w w' [] := by
 refine jX Tryz.func186 rfl Tryz.ntmps186 aX (wp_seq (aA (sg (aC (v := I 0) rfl (aB (wp_seq (wp_seq (aA ?_))))))))
 rcases nem (b < a) with h4p | h4p
 ·have h4 := decide_eq_false h4p
  refine rn (St.start w) 8 Ag.nil.put.put.put.put [] [(14, .bool (decide (n < a)))] [qk h4, .o] aE fun f5 h5_ => (aB (aK (h5_.at 14) (fun h6p => ?_) (fun h6p => ?_)))
  ·omega
  ·refine wp_skip (wp_seq (wp_seq (aA (rn (St.start w) 3 h5_ [] [(18, .bool (decide (b < n)))] [.o] aE fun f8 h8_ => (aB (aK (h8_.at 18) (fun h9p => ?_) (fun h9p => ?_)))))))
   ·omega
   ·refine wp_skip (wp_seq (aA (sg (aF (v := I n) (h8_.at 0) (sg (aC (v := I n) rfl (aB (wr (aL Tryz.results186 rfl ?_)))))))))
    exact ⟨fI aD, (St.start w).bare⟩
 ·have h4 := decide_eq_true h4p
  omega
theorem VictimsI (w : World) (home draw : Int) (hh : 0 ≤ home ∧ home ≤ 3) (hdw : I64 draw) :
  Calls Tryz.prog 131 #[I home, I draw] w fun e w' => ∃ (v : Value) (fp' : List Nat), e = .returned v ∧ St w w' [Res.own (α := List Int) v (cI home draw) fp'] := by
 have hdw2 := hdw
 unfold I64 at hdw2
 refine bR Tryz.func131 rfl Tryz.ntmps131 aX (wp_seq (aA (sg (aC (v := .slice none 0 0) rfl (aB (wp_seq (aA (rc (St.start w) 3 Ag.nil.put.put.put [0] [(0, I home)] [qc Tryz.func191 rfl (fun W s b => BroughtI W home 0 3 aD)] aE fun f4 W5 h4_ st6 hb7 => (aB (wp_seq (aA (sg (aC (v := .slice none 0 0) rfl ?_)))))))))))))
 refine aB (wp_seq (wp_seq (aA (sg (aC (v := I 0) rfl (aB (wp_block ?_)))))))
 have st13 := st6.row_nil (α := Int) 3
 refine aY (fun (m : Nat) (f : Nat → Value) (W : World) => ∃ (k : Nat) (v12 : Value), k ≤ 3 ∧ m = 3 - k ∧ Ag [(0, I home), (1, I draw), (5, v12), (6, I (k : Int))] f ∧ St w W ([Res.row (α := Int) 3 v12 ((cI home draw).take k) []])) (3 - 0) ?_ ?_
 ·exact ⟨0, (.slice none 0 0), aD, rfl, (h4_.put.put.to aE), st13⟩
 intro m15 f16 W17 hJ18
 obtain ⟨k, v12, hcd20_0, rfl, hA20, st19⟩ := hJ18
 have hvl := List.length_take_le k (cI home draw)
 have hv3 : (cI home draw).length = 3 := rfl
 refine wp_seq (wp_seq (aA (sg (aF (v := I (k : Int)) (hA20.at 6) (sg (bS rfl rfl (aB (aK rfl (fun h23p => ?_) (fun h23p => ?_)))))))))
 ·refine wp_skip (wp_seq (wp_block (aA (rn st19 4 hA20.put.put [] [(13, v12), (15, I (home + 1)), (16, I draw)] [qad home 1] aE fun f25 h25_ => (sg (zK (h25_.at 16) rfl (rn st19 6 h25_.put [] [(23, I (((home + 1) + ((((max draw 0) % 3) + (k : Int)) % 3)) % 4))] [qq (max draw 0) 3, qad ((max draw 0) % 3) (k : Int), qq (((max draw 0) % 3) + (k : Int)) 3, qad (home + 1) ((((max draw 0) % 3) + (k : Int)) % 3), qq ((home + 1) + ((((max draw 0) % 3) + (k : Int)) % 3)) 4] aE fun f27 h27_ => (sg (aT (cs := [I (((home + 1) + ((((max draw 0) % 3) + (k : Int)) % 3)) % 4)]) (e := 3) (cY (v := I (((home + 1) + ((((max draw 0) % 3) + (k : Int)) % 3)) % 4)) (h27_.at 23) eA) (bN cZ _ _ rfl rfl aX) st19 ?_))))))))); intro b28 W29 hb30 st31
  refine sg (cP (ys := [((home + 1) + ((((max draw 0) % 3) + (k : Int)) % 3)) % 4]) cZ (h27_.at 13) rfl rfl st31.f1 (Elems.ic (by simp only [I64]; omega) Elems.i0) (by unfold maxLen; omega) aD ?_); intro v34 W35 st36
  refine sg (aC (v := v34) rfl (aB (aA (rn st36 3 h27_.put.put.put [6] [(6, I ((k : Int) + 1))] [qad (k : Int) 1] aE fun f40 h40_ => (aB ?_)))))
  exact ⟨_, 3 - (k + 1), aD, rfl, k + 1, v34, aD, rfl, (h40_.to aE), (by rw [vict_to aD]; exact st36)⟩
 ·refine wp_exit (wp_seq (aA (sg (aF (v := v12) (hA20.at 5) (sg (aC (v := v12) rfl (aB (wr (aL Tryz.results131 rfl ?_)))))))))
  obtain rfl : k = 3 := by omega
  rw [show (cI home draw).take 3 = cI home draw from rfl] at st19
  have hq_ := st19.shut
  obtain ⟨fpz, stz⟩ := hq_
  exact ⟨_, fpz, rfl, stz.only 0 rfl⟩
theorem VictimsS (w : World) (home draw : Int) (hh : 0 ≤ home ∧ home ≤ 3) (hdw : I64 draw) :
  Calls Tryz.prog 122 #[I home, I draw] w fun e w' => ∃ (v : Value) (fp' : List Nat), e = .returned v ∧ St w w' [Res.own (α := List Int) v (cI home draw) fp'] := by
 have hdw2 := hdw
 unfold I64 at hdw2
 refine bR Tryz.func122 rfl Tryz.ntmps122 aX (wp_seq (aA (sg (aC (v := .slice none 0 0) rfl (aB (wp_seq (aA (rc (St.start w) 3 Ag.nil.put.put.put [0] [(0, I home)] [qc Tryz.func186 rfl (fun W s b => BroughtS W home 0 3 aD)] aE fun f4 W5 h4_ st6 hb7 => (aB (wp_seq (wp_seq (aA ?_))))))))))))
 refine sg (aF (v := I draw) (h4_.at 1) (sg (bS rfl rfl (aB (aK rfl (fun h10p => ?_) (fun h10p => ?_))))))
 ·refine aA (sg (aC (v := I 0) rfl (aB (wp_seq (aA (sg (aT (cs := []) (e := 3) eA (bV cZ _) st6 ?_))))))); intro b13 W14 hb15 st16
  have st16 := st16.row_empty (α := Int)
  refine sg (aC (v := (.slice (some ⟨b13, 0, none⟩) 0 0)) rfl (aB (wp_seq (wp_seq (aA (sg (aC (v := I 1) rfl (aB (wp_block (aY (fun (m : Nat) (f : Nat → Value) (W : World) => ∃ (k : Nat) (v22 : Value), 1 ≤ k ∧ k ≤ 4 ∧ m = 4 - k ∧ Ag [(0, I home), (1, I 0), (5, v22), (6, I (k : Int))] f ∧ St w W ([Res.row (α := Int) 3 v22 (fL home k) []])) (4 - 1) ?_ ?_))))))))))
  ·exact ⟨1, (.slice (some ⟨b13, 0, none⟩) 0 0), aD, aD, rfl, (h4_.put.put.put.put.put.put.to aE), st16⟩
  intro m23 f24 W25 hJ26
  obtain ⟨k, v22, hcd28_0, hcd28_1, rfl, hA28, st27⟩ := hJ26
  have hol : (fL home k).length ≤ 3 := by unfold fL; rw [List.length_take]; exact Nat.min_le_right _ _
  refine wp_seq (wp_seq (aA (sg (aF (v := I (k : Int)) (hA28.at 6) (sg (bS rfl rfl (aB (aK rfl (fun h31p => ?_) (fun h31p => ?_)))))))))
  ·refine wp_skip (wp_seq (wp_block (aA (rn st27 5 hA28.put.put [] [(17, v22), (21, I ((home + (k : Int)) % 4))] [qad home (k : Int), qq (home + (k : Int)) 4] aE fun f33 h33_ => (sg (aT (cs := [I ((home + (k : Int)) % 4)]) (e := 3) (cY (v := I ((home + (k : Int)) % 4)) (h33_.at 21) eA) (bN cZ _ _ rfl rfl aX) st27 ?_)))))); intro b34 W35 hb36 st37
   refine sg (cP (ys := [(home + (k : Int)) % 4]) cZ (h33_.at 17) rfl rfl st37.f1 (Elems.ic (by simp only [I64]; omega) Elems.i0) (by unfold maxLen; omega) aD ?_); intro v40 W41 st42
   refine sg (aC (v := v40) rfl (aB (aA (rn st42 3 h33_.put.put.put [6] [(6, I ((k : Int) + 1))] [qad (k : Int) 1] aE fun f46 h46_ => (aB ?_)))))
   exact ⟨_, 4 - (k + 1), aD, rfl, k + 1, v40, aD, aD, rfl, (h46_.to aE), (by rw [aB1 aD aD]; exact st42)⟩
  ·refine wp_exit (wp_seq ?_)
   obtain rfl : k = 4 := by omega
   have ho3 : (fL home 4).length = 3 := rfl
   have ho3i : ((fL home 4).length : Int) = 3 := rfl
   refine aA (rn st27 3 hA28.put.put [] [(24, I 0), (26, I ((fL home 4).length : Int))] [ql (bW (st27.get 0 rfl))] aE fun f48 h48_ => (sg (pW (h48_.at 24) ((h48_.at 26).trans (congrArg I ho3i)) aD aD (sg (aC (v := I ((0 : Int) % 3)) rfl (aB (wp_seq ?_)))))))
   have hq_ := vL (bW (st27.get 0 rfl)) (l := ((0 : Int) % 3).toNat) aD
   obtain ⟨u72, g73, hs74, hm75, hq76⟩ := hq_
   have hq_ := zN (bW (st27.get 0 rfl)) (h := ((0 : Int) % 3).toNat) aD
   obtain ⟨u81, g82, hs83, hm84, hq85⟩ := hq_
   refine eX 8 [0, 4] [[], [0], [0, 4]] [[(0, 1)], [(1, 2)]] (w1 := W25) (rs := []) (fun q => match q with | 0 => Cp.fr (ι := Unit) (fun _ => []) (fun _ => []) | 1 => Cp.fr (ι := Nat) (fun b67 => [(.slice (some ⟨b67, 0, none⟩) 0 0)]) (fun b67 => [Res.row (α := Int) 3 (.slice (some ⟨b67, 0, none⟩) 0 0) [] []]) | _ => Cp.fr (ι := Value × Nat) (fun ⟨v78, b67⟩ => [(.slice (some ⟨b67, 0, none⟩) 0 0), v78]) (fun ⟨v78, b67⟩ => [Res.row (α := Int) 3 v78 ([] ++ ((fL home 4).drop ((0 : Int) % 3).toNat)) []])) [Pq.none, Pq.is (v22) (Sl.yl (bW (st27.get 0 rfl))), Pq.is (I ((0 : Int) % 3)), Pq.is u72 (Sl.yl hs74), Pq.none, Pq.is (v22) (Sl.yl (bW (st27.get 0 rfl))), Pq.is (I ((0 : Int) % 3)), Pq.is u81 (Sl.yl hs83)] mix (by rfl) (by rfl) (by rfl) ⟨(), rfl, (St.start W25), (St.start W25).below⟩ (by rfl) ⟨⟨rfl, ?_, True.intro⟩, (fun f W hst hbl hd hf => aF (v := v22) ((hf 5 rfl).trans (h48_.at 5)) brq), (fun f W hst hbl hd hf => aF (v := I ((0 : Int) % 3)) ((hf 7 rfl).trans (show _ = I ((0 : Int) % 3) from rfl)) brq), (fun f W hst hbl hd hf => hq76 eP (hd 1 29 rfl rfl) (hd 2 30 rfl rfl) aD brq), ⟨rfl, ?_, True.intro⟩, (fun f W hst hbl hd hf => aF (v := v22) ((hf 5 rfl).trans (h48_.at 5)) brq), (fun f W hst hbl hd hf => aF (v := I ((0 : Int) % 3)) ((hf 7 rfl).trans (show _ = I ((0 : Int) % 3) from rfl)) brq), (fun f W hst hbl hd hf => hq85 eP (hd 5 33 rfl rfl) (hd 6 34 rfl rfl) aD brq), trivial⟩ ?_
   ·intro f W hC hd hf
    have hC_ := hC
    obtain ⟨_, hu, st66, hbl⟩ := hC_
    try dsimp only [cap_, dP] at st66
    refine (aT (cs := []) (e := 3) eA (bV cZ _) st66 ?_); intro b67 W68 hb69 st70
    have st70 := st70.row_empty (α := Int)
    exact ⟨⟨b67, (ce rfl rfl), st70, st70.below⟩, Sl.yl (bW (st70.get 0 rfl))⟩
   ·intro f W hC hd hf
    have hC_ := hC
    obtain ⟨b67, hu, st77, hbl⟩ := hC_
    try dsimp only [cap_, dP] at st77
    have hu4_28 : f 28 = (.slice (some ⟨b67, 0, none⟩) 0 0) := congrArg (fun l => l.getD 0 undef) hu
    refine (cE oA cZ hu4_28 (hd 3 31 rfl rfl) hs74 st77.below st77 (by unfold maxLen; simp only [List.length_append, List.length_drop, List.length_take, List.length_nil, ho3]; omega) (by simp only [List.length_append, List.length_drop, List.length_take, List.length_nil, ho3]; omega) ?_); intro v78 W79 st80
    exact ⟨⟨(v78, b67), (ce hu4_28 (ce rfl rfl)), st80, st80.below⟩, Sl.yl (bW (st80.get 0 rfl))⟩
   intro f86 W87 hC hv88 hf89
   have hC_ := hC
   obtain ⟨⟨v78, b67⟩, hu, st90, hbl91⟩ := hC_
   try dsimp only [cap_, dP] at st90
   have hu92 : f86 28 = (.slice (some ⟨b67, 0, none⟩) 0 0) := congrArg (fun l => l.getD 0 undef) hu
   have hu93 : f86 32 = v78 := congrArg (fun l => l.getD 1 undef) hu
   refine sg (cE oA cZ hu93 (hv88 7 35 aX rfl) hs83 st90.below st90 (by unfold maxLen; simp only [List.length_append, List.length_drop, List.length_take, List.length_nil, ho3]; omega) (by simp only [List.length_append, List.length_drop, List.length_take, List.length_nil, ho3]; omega) ?_); intro v95 W96 st97
   refine sg (aC (v := v95) rfl (aB (wr (aL Tryz.results122 rfl ?_))))
   have st100 := St.call st27 st97
   have hv_ := yA (home := home) (draw := draw) (d := (0 : Int) % 3) aD
   have hst_ := st100
   rw [hv_] at hst_
   have hq_ := hst_.shut
   obtain ⟨fpz, stz⟩ := hq_
   exact ⟨_, fpz, rfl, stz.only 0 rfl⟩
 ·refine wp_skip (wp_seq (aA (sg (aT (cs := []) (e := 3) eA (bV cZ _) st6 ?_)))); intro b101 W102 hb103 st104
  have st104 := st104.row_empty (α := Int)
  refine sg (aC (v := (.slice (some ⟨b101, 0, none⟩) 0 0)) rfl (aB (wp_seq (wp_seq (aA (sg (aC (v := I 1) rfl (aB (wp_block (aY (fun (m : Nat) (f : Nat → Value) (W : World) => ∃ (k : Nat) (v110 : Value), 1 ≤ k ∧ k ≤ 4 ∧ m = 4 - k ∧ Ag [(0, I home), (1, I draw), (5, v110), (6, I (k : Int))] f ∧ St w W ([Res.row (α := Int) 3 v110 (fL home k) []])) (4 - 1) ?_ ?_))))))))))
  ·exact ⟨1, (.slice (some ⟨b101, 0, none⟩) 0 0), aD, aD, rfl, (h4_.put.put.put.put.put.to aE), st104⟩
  intro m111 f112 W113 hJ114
  obtain ⟨k, v110, hcd116_0, hcd116_1, rfl, hA116, st115⟩ := hJ114
  have hol : (fL home k).length ≤ 3 := by unfold fL; rw [List.length_take]; exact Nat.min_le_right _ _
  refine wp_seq (wp_seq (aA (sg (aF (v := I (k : Int)) (hA116.at 6) (sg (bS rfl rfl (aB (aK rfl (fun h119p => ?_) (fun h119p => ?_)))))))))
  ·refine wp_skip (wp_seq (wp_block (aA (rn st115 5 hA116.put.put [] [(17, v110), (21, I ((home + (k : Int)) % 4))] [qad home (k : Int), qq (home + (k : Int)) 4] aE fun f121 h121_ => (sg (aT (cs := [I ((home + (k : Int)) % 4)]) (e := 3) (cY (v := I ((home + (k : Int)) % 4)) (h121_.at 21) eA) (bN cZ _ _ rfl rfl aX) st115 ?_)))))); intro b122 W123 hb124 st125
   refine sg (cP (ys := [(home + (k : Int)) % 4]) cZ (h121_.at 17) rfl rfl st125.f1 (Elems.ic (by simp only [I64]; omega) Elems.i0) (by unfold maxLen; omega) aD ?_); intro v128 W129 st130
   refine sg (aC (v := v128) rfl (aB (aA (rn st130 3 h121_.put.put.put [6] [(6, I ((k : Int) + 1))] [qad (k : Int) 1] aE fun f134 h134_ => (aB ?_)))))
   exact ⟨_, 4 - (k + 1), aD, rfl, k + 1, v128, aD, aD, rfl, (h134_.to aE), (by rw [aB1 aD aD]; exact st130)⟩
  ·refine wp_exit (wp_seq ?_)
   obtain rfl : k = 4 := by omega
   have ho3 : (fL home 4).length = 3 := rfl
   have ho3i : ((fL home 4).length : Int) = 3 := rfl
   refine aA (rn st115 3 hA116.put.put [] [(24, I draw), (26, I ((fL home 4).length : Int))] [ql (bW (st115.get 0 rfl))] aE fun f136 h136_ => (sg (pW (h136_.at 24) ((h136_.at 26).trans (congrArg I ho3i)) aD aD (sg (aC (v := I (draw % 3)) rfl (aB (wp_seq ?_)))))))
   have hq_ := vL (bW (st115.get 0 rfl)) (l := (draw % 3).toNat) aD
   obtain ⟨u160, g161, hs162, hm163, hq164⟩ := hq_
   have hq_ := zN (bW (st115.get 0 rfl)) (h := (draw % 3).toNat) aD
   obtain ⟨u169, g170, hs171, hm172, hq173⟩ := hq_
   refine eX 8 [0, 4] [[], [0], [0, 4]] [[(0, 1)], [(1, 2)]] (w1 := W113) (rs := []) (fun q => match q with | 0 => Cp.fr (ι := Unit) (fun _ => []) (fun _ => []) | 1 => Cp.fr (ι := Nat) (fun b155 => [(.slice (some ⟨b155, 0, none⟩) 0 0)]) (fun b155 => [Res.row (α := Int) 3 (.slice (some ⟨b155, 0, none⟩) 0 0) [] []]) | _ => Cp.fr (ι := Value × Nat) (fun ⟨v166, b155⟩ => [(.slice (some ⟨b155, 0, none⟩) 0 0), v166]) (fun ⟨v166, b155⟩ => [Res.row (α := Int) 3 v166 ([] ++ ((fL home 4).drop (draw % 3).toNat)) []])) [Pq.none, Pq.is (v110) (Sl.yl (bW (st115.get 0 rfl))), Pq.is (I (draw % 3)), Pq.is u160 (Sl.yl hs162), Pq.none, Pq.is (v110) (Sl.yl (bW (st115.get 0 rfl))), Pq.is (I (draw % 3)), Pq.is u169 (Sl.yl hs171)] mix (by rfl) (by rfl) (by rfl) ⟨(), rfl, (St.start W113), (St.start W113).below⟩ (by rfl) ⟨⟨rfl, ?_, True.intro⟩, (fun f W hst hbl hd hf => aF (v := v110) ((hf 5 rfl).trans (h136_.at 5)) brq), (fun f W hst hbl hd hf => aF (v := I (draw % 3)) ((hf 7 rfl).trans (show _ = I (draw % 3) from rfl)) brq), (fun f W hst hbl hd hf => hq164 eP (hd 1 29 rfl rfl) (hd 2 30 rfl rfl) aD brq), ⟨rfl, ?_, True.intro⟩, (fun f W hst hbl hd hf => aF (v := v110) ((hf 5 rfl).trans (h136_.at 5)) brq), (fun f W hst hbl hd hf => aF (v := I (draw % 3)) ((hf 7 rfl).trans (show _ = I (draw % 3) from rfl)) brq), (fun f W hst hbl hd hf => hq173 eP (hd 5 33 rfl rfl) (hd 6 34 rfl rfl) aD brq), trivial⟩ ?_
   ·intro f W hC hd hf
    have hC_ := hC
    obtain ⟨_, hu, st154, hbl⟩ := hC_
    try dsimp only [cap_, dP] at st154
    refine (aT (cs := []) (e := 3) eA (bV cZ _) st154 ?_); intro b155 W156 hb157 st158
    have st158 := st158.row_empty (α := Int)
    exact ⟨⟨b155, (ce rfl rfl), st158, st158.below⟩, Sl.yl (bW (st158.get 0 rfl))⟩
   ·intro f W hC hd hf
    have hC_ := hC
    obtain ⟨b155, hu, st165, hbl⟩ := hC_
    try dsimp only [cap_, dP] at st165
    have hu4_28 : f 28 = (.slice (some ⟨b155, 0, none⟩) 0 0) := congrArg (fun l => l.getD 0 undef) hu
    refine (cE oA cZ hu4_28 (hd 3 31 rfl rfl) hs162 st165.below st165 (by unfold maxLen; simp only [List.length_append, List.length_drop, List.length_take, List.length_nil, ho3]; omega) (by simp only [List.length_append, List.length_drop, List.length_take, List.length_nil, ho3]; omega) ?_); intro v166 W167 st168
    exact ⟨⟨(v166, b155), (ce hu4_28 (ce rfl rfl)), st168, st168.below⟩, Sl.yl (bW (st168.get 0 rfl))⟩
   intro f174 W175 hC hv176 hf177
   have hC_ := hC
   obtain ⟨⟨v166, b155⟩, hu, st178, hbl179⟩ := hC_
   try dsimp only [cap_, dP] at st178
   have hu180 : f174 28 = (.slice (some ⟨b155, 0, none⟩) 0 0) := congrArg (fun l => l.getD 0 undef) hu
   have hu181 : f174 32 = v166 := congrArg (fun l => l.getD 1 undef) hu
   refine sg (cE oA cZ hu181 (hv176 7 35 aX rfl) hs171 st178.below st178 (by unfold maxLen; simp only [List.length_append, List.length_drop, List.length_take, List.length_nil, ho3]; omega) (by simp only [List.length_append, List.length_drop, List.length_take, List.length_nil, ho3]; omega) ?_); intro v183 W184 st185
   refine sg (aC (v := v183) rfl (aB (wr (aL Tryz.results122 rfl ?_))))
   have st188 := St.call st115 st185
   have hv_ := yA (home := home) (draw := draw) (d := draw % 3) aD
   have hst_ := st188
   rw [hv_] at hst_
   have hq_ := hst_.shut
   obtain ⟨fpz, stz⟩ := hq_
   exact ⟨_, fpz, rfl, stz.only 0 rfl⟩
theorem HalfOfI (w : World) {v : Value} {xs : List Entry} {fp : List Nat} (h : Sl w v xs fp) (hxl : xs.length ≤ 1048576) :
  Calls Tryz.prog 132 #[v] w fun e w' => ∃ (v1 : Value) (fp1 : List Nat) (v2 : Value) (fp2 : List Nat), e = .returned (.tuple #[v1, v2]) ∧ St w w' [Res.own v1 (xs.take (eU xs)) fp1, Res.own v2 (xs.drop (eU xs)) fp2] := by
 have hnl : ([] : List Entry).length = 0 := rfl
 refine cR Tryz.func132 rfl Tryz.ntmps132 aX (wp_seq (aA (sg (aC (v := .slice none 0 0) rfl (sg (aC (v := .slice none 0 0) rfl (aB (wp_seq (aA (rn (St.start w) 5 Ag.nil.put.put.put [] [(4, I (((xs.length : Int) + 1) / 2))] [ql h, qad (xs.length : Int) 1, qq ((xs.length : Int) + 1) 2] aE fun f4 h4_ => (aB (wp_seq ?_))))))))))))
 have hhn : (((xs.length : Int) + 1) / 2).toNat = eU xs := by unfold eU; omega
 have htl : (xs.take (((xs.length : Int) + 1) / 2).toNat).length ≤ xs.length := by rw [List.length_take]; omega
 have hdl : (xs.drop (((xs.length : Int) + 1) / 2).toNat).length ≤ xs.length := by rw [List.length_drop]; omega
 have hq_ := zN h (h := (((xs.length : Int) + 1) / 2).toNat) aD
 obtain ⟨u5, g6, hs7, hm8, hq9⟩ := hq_
 have hq_ := vL h (l := (((xs.length : Int) + 1) / 2).toNat) aD
 obtain ⟨u17, g18, hs19, hm20, hq21⟩ := hq_
 refine eX 7 [3] [[], [3]] [[(0, 1)]] (w1 := w) (rs := []) (fun q => match q with | 0 => Cp.fr (ι := Unit) (fun _ => []) (fun _ => []) | _ => Cp.fr (ι := Value) (fun v11 => [v11]) (fun v11 => [Res.row (α := Entry) 131 v11 (xs.take (((xs.length : Int) + 1) / 2).toNat) []])) [Pq.is (v) (Sl.yl h), Pq.is (I (((xs.length : Int) + 1) / 2)), Pq.is u5 (Sl.yl hs7), Pq.none, Pq.is (v) (Sl.yl h), Pq.is (I (((xs.length : Int) + 1) / 2)), Pq.is u17 (Sl.yl hs19)] mix (by rfl) (by rfl) (by rfl) ⟨(), rfl, (St.start w), (Below.refl _ _)⟩ (by rfl) ⟨(fun f W hst hbl hd hf => aF (v := v) ((hf 0 rfl).trans (h4_.at 0)) brq), (fun f W hst hbl hd hf => aF (v := I (((xs.length : Int) + 1) / 2)) ((hf 4 rfl).trans (h4_.at 4)) brq), (fun f W hst hbl hd hf => hq9 sl_EntryS (hd 0 9 rfl rfl) (hd 1 10 rfl rfl) aD brq), ⟨rfl, ?_, True.intro⟩, (fun f W hst hbl hd hf => aF (v := v) ((hf 0 rfl).trans (h4_.at 0)) brq), (fun f W hst hbl hd hf => aF (v := I (((xs.length : Int) + 1) / 2)) ((hf 4 rfl).trans (h4_.at 4)) brq), (fun f W hst hbl hd hf => hq21 sl_EntryS (hd 4 13 rfl rfl) (hd 5 14 rfl rfl) aD brq), trivial⟩ ?_
 ·intro f W hC hd hf
  have hC_ := hC
  obtain ⟨_, hu, st10, hbl⟩ := hC_
  try dsimp only [cap_, dP] at st10
  refine (bF Tryz.func174 rfl (hd 2 11 rfl rfl) ((fM W (hs7.below st10.below) aD).mono ?_)); rintro _ W13 ⟨v11, rfl, hk14⟩; refine ⟨_, rfl, ?_⟩
  have st15 := St.call st10 hk14
  exact ⟨⟨v11, (ce rfl rfl), st15, (hbl.trans (Below.mono hk14.below hbl.size))⟩, Sl.yl (bW (st15.get 0 rfl))⟩
 intro f22 W23 hC hv24 hf25
 have hC_ := hC
 obtain ⟨v11, hu, st26, hbl27⟩ := hC_
 try dsimp only [cap_, dP] at st26
 have hu28 : f22 12 = v11 := congrArg (fun l => l.getD 0 undef) hu
 refine sg (bF Tryz.func174 rfl (hv24 6 15 aX rfl) ((fM W23 (hs19.below st26.below) aD).mono ?_)); rintro _ W32 ⟨v30, rfl, hk33⟩; refine ⟨_, rfl, ?_⟩
 have st34 := St.call st26 hk33
 refine sg (aC (v := v11) hu28 (sg (aC (v := v30) rfl (aB (wr (ret2 Tryz.results132 rfl rfl ?_))))))
 have hq_ := st34.shut
 obtain ⟨fp38, st39⟩ := hq_
 have hq_ := st39.f1.shut
 obtain ⟨fp41, st42⟩ := hq_
 have st44 := st42.f1.f1
 rw [hhn] at st44
 exact ⟨_, _, _, _, rfl, st44⟩
theorem HalfOfS (w : World) {v : Value} {xs : List Entry} {fp : List Nat} (h : Sl w v xs fp) (hxl : xs.length ≤ 1048576) :
  Calls Tryz.prog 123 #[v] w fun e w' => ∃ (v1 : Value) (fp1 : List Nat) (v2 : Value) (fp2 : List Nat), e = .returned (.tuple #[v1, v2]) ∧ St w w' [Res.own v1 (xs.take (eU xs)) fp1, Res.own v2 (xs.drop (eU xs)) fp2] := by
 have hnl : ([] : List Entry).length = 0 := rfl
 refine cR Tryz.func123 rfl Tryz.ntmps123 aX (wp_seq (aA (sg (aC (v := .slice none 0 0) rfl (sg (aC (v := .slice none 0 0) rfl (aB (wp_seq (aA (rn (St.start w) 5 Ag.nil.put.put.put [] [(4, I (((xs.length : Int) + 1) / 2))] [ql h, qad (xs.length : Int) 1, qq ((xs.length : Int) + 1) 2] aE fun f4 h4_ => (aB (wp_seq ?_))))))))))))
 have hhn : (((xs.length : Int) + 1) / 2).toNat = eU xs := by unfold eU; omega
 have htl : (xs.take (((xs.length : Int) + 1) / 2).toNat).length ≤ xs.length := by rw [List.length_take]; omega
 have hdl : (xs.drop (((xs.length : Int) + 1) / 2).toNat).length ≤ xs.length := by rw [List.length_drop]; omega
 have hq_ := zN h (h := (((xs.length : Int) + 1) / 2).toNat) aD
 obtain ⟨u26, g27, hs28, hm29, hq30⟩ := hq_
 have hq_ := vL h (l := (((xs.length : Int) + 1) / 2).toNat) aD
 obtain ⟨u41, g42, hs43, hm44, hq45⟩ := hq_
 refine eX 9 [0, 4, 5] [[], [0], [0, 4], [5], [0, 5], [0, 4, 5]] [[(0, 1), (3, 4)], [(1, 2), (4, 5)], [(2, 5), (0, 3), (1, 4)]] (w1 := w) (rs := []) (fun q => match q with | 0 => Cp.fr (ι := Unit) (fun _ => []) (fun _ => []) | 1 => Cp.fr (ι := Nat) (fun b21 => [(.slice (some ⟨b21, 0, none⟩) 0 0)]) (fun b21 => [Res.row (α := Entry) 131 (.slice (some ⟨b21, 0, none⟩) 0 0) [] []]) | 2 => Cp.fr (ι := Value × Nat) (fun ⟨v32, b21⟩ => [(.slice (some ⟨b21, 0, none⟩) 0 0), v32]) (fun ⟨v32, b21⟩ => [Res.row (α := Entry) 131 v32 ([] ++ (xs.take (((xs.length : Int) + 1) / 2).toNat)) []]) | 3 => Cp.fr (ι := Nat) (fun b47 => [(.slice (some ⟨b47, 0, none⟩) 0 0)]) (fun b47 => [Res.row (α := Entry) 131 (.slice (some ⟨b47, 0, none⟩) 0 0) [] []]) | 4 => Cp.fr (ι := Nat × Nat) (fun ⟨b53, b21⟩ => [(.slice (some ⟨b21, 0, none⟩) 0 0), (.slice (some ⟨b53, 0, none⟩) 0 0)]) (fun ⟨b53, b21⟩ => [Res.row (α := Entry) 131 (.slice (some ⟨b53, 0, none⟩) 0 0) [] [], Res.row (α := Entry) 131 (.slice (some ⟨b21, 0, none⟩) 0 0) [] []]) | _ => Cp.fr (ι := Nat × Value × Nat) (fun ⟨b36, v32, b21⟩ => [(.slice (some ⟨b21, 0, none⟩) 0 0), v32, (.slice (some ⟨b36, 0, none⟩) 0 0)]) (fun ⟨b36, v32, b21⟩ => [Res.row (α := Entry) 131 (.slice (some ⟨b36, 0, none⟩) 0 0) [] [], Res.row (α := Entry) 131 v32 ([] ++ (xs.take (((xs.length : Int) + 1) / 2).toNat)) []])) [Pq.none, Pq.is (v) (Sl.yl h), Pq.is (I (((xs.length : Int) + 1) / 2)), Pq.is u26 (Sl.yl hs28), Pq.none, Pq.none, Pq.is (v) (Sl.yl h), Pq.is (I (((xs.length : Int) + 1) / 2)), Pq.is u41 (Sl.yl hs43)] mix (by rfl) (by rfl) (by rfl) ⟨(), rfl, (St.start w), (St.start w).below⟩ (by rfl) ⟨⟨rfl, ?_, ?_, True.intro⟩, (fun f W hst hbl hd hf => aF (v := v) ((hf 0 rfl).trans (h4_.at 0)) brq), (fun f W hst hbl hd hf => aF (v := I (((xs.length : Int) + 1) / 2)) ((hf 4 rfl).trans (h4_.at 4)) brq), (fun f W hst hbl hd hf => hq30 sl_EntryS (hd 1 10 rfl rfl) (hd 2 11 rfl rfl) aD brq), ⟨rfl, ?_, ?_, True.intro⟩, ⟨rfl, ?_, ?_, ?_, True.intro⟩, (fun f W hst hbl hd hf => aF (v := v) ((hf 0 rfl).trans (h4_.at 0)) brq), (fun f W hst hbl hd hf => aF (v := I (((xs.length : Int) + 1) / 2)) ((hf 4 rfl).trans (h4_.at 4)) brq), (fun f W hst hbl hd hf => hq45 sl_EntryS (hd 6 15 rfl rfl) (hd 7 16 rfl rfl) aD brq), trivial⟩ ?_
 ·intro f W hC hd hf
  have hC_ := hC
  obtain ⟨_, hu, st20, hbl⟩ := hC_
  try dsimp only [cap_, dP] at st20
  refine (aT (cs := []) (e := 131) eA (bV cA _) st20 ?_); intro b21 W22 hb23 st24
  have st24 := st24.row_empty (α := Entry)
  exact ⟨⟨b21, (ce rfl rfl), st24, st24.below⟩, Sl.yl (bW (st24.get 0 rfl))⟩
 ·intro f W hC hd hf
  have hC_ := hC
  obtain ⟨b47, hu, st58, hbl⟩ := hC_
  try dsimp only [cap_, dP] at st58
  have hu0_14 : f 14 = (.slice (some ⟨b47, 0, none⟩) 0 0) := congrArg (fun l => l.getD 0 undef) hu
  refine (aT (cs := []) (e := 131) eA (bV cA _) st58 ?_); intro b59 W60 hb61 st62
  have st62 := st62.row_empty (α := Entry)
  exact ⟨⟨(b47, b59), (ce rfl (ce hu0_14 rfl)), st62.f1, st62.f1.below⟩, Sl.yl (bW (st62.f1.get 1 rfl))⟩
 ·intro f W hC hd hf
  have hC_ := hC
  obtain ⟨b21, hu, st31, hbl⟩ := hC_
  try dsimp only [cap_, dP] at st31
  have hu4_9 : f 9 = (.slice (some ⟨b21, 0, none⟩) 0 0) := congrArg (fun l => l.getD 0 undef) hu
  refine (cE eI cA hu4_9 (hd 3 12 rfl rfl) hs28 st31.below st31 (by unfold maxLen; omega) aD ?_); intro v32 W33 st34
  exact ⟨⟨(v32, b21), (ce hu4_9 (ce rfl rfl)), st34, st34.below⟩, Sl.yl (bW (st34.get 0 rfl))⟩
 ·intro f W hC hd hf
  have hC_ := hC
  obtain ⟨⟨b53, b21⟩, hu, st65, hbl⟩ := hC_
  try dsimp only [cap_, dP] at st65
  have hu4_9 : f 9 = (.slice (some ⟨b21, 0, none⟩) 0 0) := congrArg (fun l => l.getD 0 undef) hu
  have hu4_14 : f 14 = (.slice (some ⟨b53, 0, none⟩) 0 0) := congrArg (fun l => l.getD 1 undef) hu
  have st66 := st65.f1
  refine (cE eI cA hu4_9 (hd 3 12 rfl rfl) hs28 st66.below st66 (by unfold maxLen; omega) aD ?_); intro v67 W68 st69
  exact ⟨⟨(b53, v67, b21), (ce hu4_9 (ce rfl (ce hu4_14 rfl))), st69.f1, st69.f1.below⟩, Sl.yl (bW (st69.f1.get 1 rfl))⟩
 ·intro f W hC hd hf
  have hC_ := hC
  obtain ⟨⟨v32, b21⟩, hu, st35, hbl⟩ := hC_
  try dsimp only [cap_, dP] at st35
  have hu5_9 : f 9 = (.slice (some ⟨b21, 0, none⟩) 0 0) := congrArg (fun l => l.getD 0 undef) hu
  have hu5_13 : f 13 = v32 := congrArg (fun l => l.getD 1 undef) hu
  refine (aT (cs := []) (e := 131) eA (bV cA _) st35 ?_); intro b36 W37 hb38 st39
  have st39 := st39.row_empty (α := Entry)
  exact ⟨⟨(b36, v32, b21), (ce hu5_9 (ce hu5_13 (ce rfl rfl))), st39, st39.below⟩, Sl.yl (bW (st39.get 0 rfl))⟩
 ·intro f W hC hd hf
  have hC_ := hC
  obtain ⟨_, hu, st46, hbl⟩ := hC_
  try dsimp only [cap_, dP] at st46
  refine (aT (cs := []) (e := 131) eA (bV cA _) st46 ?_); intro b47 W48 hb49 st50
  have st50 := st50.row_empty (α := Entry)
  exact ⟨⟨b47, (ce rfl rfl), st50, st50.below⟩, Sl.yl (bW (st50.get 0 rfl))⟩
 ·intro f W hC hd hf
  have hC_ := hC
  obtain ⟨b21, hu, st52, hbl⟩ := hC_
  try dsimp only [cap_, dP] at st52
  have hu5_9 : f 9 = (.slice (some ⟨b21, 0, none⟩) 0 0) := congrArg (fun l => l.getD 0 undef) hu
  refine (aT (cs := []) (e := 131) eA (bV cA _) st52 ?_); intro b53 W54 hb55 st56
  have st56 := st56.row_empty (α := Entry)
  exact ⟨⟨(b53, b21), (ce hu5_9 (ce rfl rfl)), st56, st56.below⟩, Sl.yl (bW (st56.get 0 rfl))⟩
 intro f71 W72 hC hv73 hf74
 have hC_ := hC
 obtain ⟨⟨b36, v32, b21⟩, hu, st75, hbl76⟩ := hC_
 try dsimp only [cap_, dP] at st75
 have hu77 : f71 9 = (.slice (some ⟨b21, 0, none⟩) 0 0) := congrArg (fun l => l.getD 0 undef) hu
 have hu78 : f71 13 = v32 := congrArg (fun l => l.getD 1 undef) hu
 have hu79 : f71 14 = (.slice (some ⟨b36, 0, none⟩) 0 0) := congrArg (fun l => l.getD 2 undef) hu
 refine sg (cE eI cA hu79 (hv73 8 17 aX rfl) hs43 st75.below st75 (by unfold maxLen; omega) aD ?_); intro v81 W82 st83
 refine sg (aC (v := v32) hu78 (sg (aC (v := v81) rfl (aB (wr (ret2 Tryz.results123 rfl rfl ?_))))))
 have hq_ := st83.shut
 obtain ⟨fp86, st87⟩ := hq_
 have hq_ := st87.f1.shut
 obtain ⟨fp89, st90⟩ := hq_
 have st92 := st90.f1.f1
 rw [hhn] at st92
 exact ⟨_, _, _, _, rfl, st92⟩
theorem TakeI (w : World) {v : Value} {xs : List Entry} {fp : List Nat} (h : Sl w v xs fp) (hxl : xs.length ≤ 1048576) :
  Calls Tryz.prog 134 #[v] w fun e w' => ∃ (v1 : Value) (fp1 : List Nat), e = .returned (.tuple #[.agg #[I (xs.headD gJ).prio, I (xs.headD gJ).seq, I (xs.headD gJ).run, I (xs.headD gJ).task], v1, .bool (!decide (xs = []))]) ∧ (xs.headD gJ).ok ∧ St w w' [Res.own v1 (xs.drop 1) fp1] := by
 have hnl : ([] : List Entry).length = 0 := rfl
 refine cR Tryz.func134 rfl Tryz.ntmps134 aX (wp_seq (aA (sg (aR gX (St.start w) ?_)))); intro b1 W2 hb3 st4
 refine sg (aC (v := .slice none 0 0) rfl (sg (aC (v := .bool false) rfl (aB (wp_seq (wp_seq (aA (rn st4 3 Ag.nil.put.put.put.put [] [(7, .bool (decide ((xs.length : Int) = 0)))] [ql h, .o] aE fun f9 h9_ => (aB (aK (h9_.at 7) (fun h10p => ?_) (fun h10p => ?_)))))))))))
 ·refine wp_seq (aA (sg (eJ (vs := []) (cs := [I 0, I 0, I 0, I 0]) eA aE (sgn (aM (cs := [I 0, I 0, I 0, I 0]) (C' := [I 0, I 0, I 0, I 0]) aE (h9_.at 2) rfl (aG rfl (aG rfl (aG rfl (aG rfl bK)))) st4 bP rfl ?_))))); intro W11 st12
  refine sg (aC (v := .slice none 0 0) rfl (sg (aC (v := .bool false) rfl (aB (wr (wZ dN rfl Tryz.results134 (h9_.at 2) (st12.get 0 rfl) rfl rfl rfl ?_))))))
  have st15 := St.own_nil (α := Entry) st12
  have hx0 : xs = [] := List.eq_nil_of_length_eq_zero aD
  subst hx0
  exact ⟨_, _, rfl, (by simp [gJ, Entry.ok, I64]), st15.d1⟩
 ·refine wp_skip (wp_seq ?_)
  have hq_ : ∃ e0 rest, xs = e0 :: rest := by cases xs with | nil => simp at * | cons a l => exact ⟨a, l, rfl⟩
  obtain ⟨e0, rest, hx0⟩ := hq_
  have he0 : xs[0]? = some e0 := by rw [hx0]; rfl
  have hok0 : e0.ok := sl_ok h he0
  have hdl : (xs.drop 1).length ≤ xs.length := by rw [List.length_drop]; omega
  have hi24eb6 : 0 < xs.length := (List.getElem?_eq_some_iff.1 he0).1
  have hq_ := gT h (i := 0) he0
  obtain ⟨b18, o18, cs18, f18, hp18, hr18, hc18, hm18⟩ := hq_
  have hk19 := hc18
  obtain ⟨he19, rfl, hok19⟩ := hk19
  have he19 : _ = [I e0.prio, I e0.seq, I e0.run, I e0.task] := he19
  subst he19
  have hq_ := vL h (l := 1) aD
  obtain ⟨u20, g21, hs22, hm23, hq24⟩ := hq_
  refine eX 6 [5] [[], [5]] [[(0, 1)]] (w1 := W2) (rs := [Res.bx b1 [I 0, I 0, I 0, I 0] 131]) (fun q => match q with | 0 => Cp.fr (ι := Unit) (fun _ => []) (fun _ => []) | _ => Cp.fr (ι := Value) (fun v26 => [v26]) (fun v26 => [Res.row (α := Entry) 131 v26 (xs.drop 1) []])) [Pq.is (v) (Sl.yl h), Pq.is (.pointer (some ⟨b18, o18, none⟩)), Pq.is (.agg #[I e0.prio, I e0.seq, I e0.run, I e0.task]), Pq.is (v) (Sl.yl h), Pq.is u20 (Sl.yl hs22), Pq.none] mix (by rfl) (by rfl) (by rfl) ⟨(), rfl, st4, (Below.refl _ _)⟩ (by rfl) ⟨(fun f W hst hbl hd hf => aF (v := v) ((hf 0 rfl).trans (h9_.at 0)) brq), (fun f W hst hbl hd hf => aN sl_EntryS (hd 0 9 rfl rfl) hp18 rfl rfl brq), (fun f W hst hbl hd hf => fX (cs := [I e0.prio, I e0.seq, I e0.run, I e0.task]) dN rfl (hd 1 10 rfl rfl) hr18 hst.below (i := 0) rfl rfl rfl brq), (fun f W hst hbl hd hf => aF (v := v) ((hf 0 rfl).trans (h9_.at 0)) brq), (fun f W hst hbl hd hf => hq24 sl_EntryS (hd 3 12 rfl rfl) rfl rfl brq), ⟨rfl, ?_, True.intro⟩, trivial⟩ ?_
  ·intro f W hC hd hf
   have hC_ := hC
   obtain ⟨_, hu, st25, hbl⟩ := hC_
   try dsimp only [cap_, dP] at st25
   refine (bF Tryz.func174 rfl (hd 4 13 rfl rfl) ((fM W (hs22.below st25.below) aD).mono ?_)); rintro _ W28 ⟨v26, rfl, hk29⟩; refine ⟨_, rfl, ?_⟩
   have st30 := St.call st25 hk29
   exact ⟨⟨v26, (ce rfl rfl), st30, (hbl.trans (Below.mono hk29.below hbl.size))⟩, Sl.yl (bW (st30.get 0 rfl))⟩
  intro f32 W33 hC hv34 hf35
  have hC_ := hC
  obtain ⟨v26, hu, st36, hbl37⟩ := hC_
  try dsimp only [cap_, dP] at st36
  have hu38 : f32 14 = v26 := congrArg (fun l => l.getD 0 undef) hu
  have st40 := st36.f1
  refine sgn (aM (cs := [I e0.prio, I e0.seq, I e0.run, I e0.task]) (C' := [I e0.prio, I e0.seq, I e0.run, I e0.task]) aE ((hf35 2 rfl).trans (h9_.at 2)) (hv34 2 11 aX rfl) (aG rfl (aG rfl (aG rfl (aG rfl bK)))) st40 bP rfl ?_); intro W41 st42
  refine sg (aC (v := v26) hu38 (sg (aC (v := .bool true) rfl (aB (wr (wZ dN rfl Tryz.results134 ((hf35 2 rfl).trans (h9_.at 2)) (st42.get 0 rfl) rfl rfl rfl ?_))))))
  have hq_ := st42.f1.shut
  obtain ⟨fp46, st47⟩ := hq_
  rw [show xs.headD gJ = e0 from by rw [hx0]; rfl, show (!decide (xs = [])) = true from by rw [hx0]; rfl]
  exact ⟨_, _, rfl, hok0, st47.d1⟩
theorem TakeS (w : World) {v : Value} {xs : List Entry} {fp : List Nat} (h : Sl w v xs fp) (hxl : xs.length ≤ 1048576) :
  Calls Tryz.prog 125 #[v] w fun e w' => ∃ (v1 : Value) (fp1 : List Nat), e = .returned (.tuple #[.agg #[I (xs.headD gJ).prio, I (xs.headD gJ).seq, I (xs.headD gJ).run, I (xs.headD gJ).task], v1, .bool (!decide (xs = []))]) ∧ (xs.headD gJ).ok ∧ St w w' [Res.own v1 (xs.drop 1) fp1] := by
 have hnl : ([] : List Entry).length = 0 := rfl
 refine cR Tryz.func125 rfl Tryz.ntmps125 aX (wp_seq (aA (sg (aR gX (St.start w) ?_)))); intro b1 W2 hb3 st4
 refine sg (aC (v := .slice none 0 0) rfl (sg (aC (v := .bool false) rfl (aB (wp_seq (wp_seq (aA (rn st4 3 Ag.nil.put.put.put.put [] [(7, .bool (decide ((xs.length : Int) = 0)))] [ql h, .o] aE fun f9 h9_ => (aB (aK (h9_.at 7) (fun h10p => ?_) (fun h10p => ?_)))))))))))
 ·refine wp_seq (aA (sg (eJ (vs := []) (cs := [I 0, I 0, I 0, I 0]) eA aE (sg (aT (cs := []) (e := 131) eA (bV cA _) st4 ?_))))); intro b11 W12 hb13 st14
  have st14 := st14.row_empty (α := Entry)
  refine sgn (aM (cs := [I 0, I 0, I 0, I 0]) (C' := [I 0, I 0, I 0, I 0]) aE (h9_.at 2) rfl (aG rfl (aG rfl (aG rfl (aG rfl bK)))) st14.f1 bP rfl ?_); intro W17 st18
  refine sg (aC (v := (.slice (some ⟨b11, 0, none⟩) 0 0)) rfl (sg (aC (v := .bool false) rfl (aB (wr (wZ dN rfl Tryz.results125 (h9_.at 2) (st18.get 0 rfl) rfl rfl rfl ?_))))))
  have hq_ := st18.f1.shut
  obtain ⟨fp22, st23⟩ := hq_
  have hx0 : xs = [] := List.eq_nil_of_length_eq_zero aD
  subst hx0
  exact ⟨_, _, rfl, (by simp [gJ, Entry.ok, I64]), st23.d1⟩
 ·refine wp_skip (wp_seq ?_)
  have hq_ : ∃ e0 rest, xs = e0 :: rest := by cases xs with | nil => simp at * | cons a l => exact ⟨a, l, rfl⟩
  obtain ⟨e0, rest, hx0⟩ := hq_
  have he0 : xs[0]? = some e0 := by rw [hx0]; rfl
  have hok0 : e0.ok := sl_ok h he0
  have hdl : (xs.drop 1).length ≤ xs.length := by rw [List.length_drop]; omega
  have hi24eb6 : 0 < xs.length := (List.getElem?_eq_some_iff.1 he0).1
  have hq_ := gT h (i := 0) he0
  obtain ⟨b42, o42, cs42, f42, hp42, hr42, hc42, hm42⟩ := hq_
  have hk43 := hc42
  obtain ⟨he43, rfl, hok43⟩ := hk43
  have he43 : _ = [I e0.prio, I e0.seq, I e0.run, I e0.task] := he43
  subst he43
  have hq_ := vL h (l := 1) aD
  obtain ⟨u50, g51, hs52, hm53, hq54⟩ := hq_
  refine eX 7 [3, 6] [[], [3], [3, 6]] [[(0, 1)], [(1, 2)]] (w1 := w) (rs := [Res.bx b1 [I 0, I 0, I 0, I 0] 131]) (fun q => match q with | 0 => Cp.fr (ι := Unit) (fun _ => []) (fun _ => []) | 1 => Cp.fr (ι := Nat) (fun b45 => [(.slice (some ⟨b45, 0, none⟩) 0 0)]) (fun b45 => [Res.row (α := Entry) 131 (.slice (some ⟨b45, 0, none⟩) 0 0) [] []]) | _ => Cp.fr (ι := Value × Nat) (fun ⟨v56, b45⟩ => [(.slice (some ⟨b45, 0, none⟩) 0 0), v56]) (fun ⟨v56, b45⟩ => [Res.row (α := Entry) 131 v56 ([] ++ (xs.drop 1)) []])) [Pq.is (v) (Sl.yl h), Pq.is (.pointer (some ⟨b42, o42, none⟩)), Pq.is (.agg #[I e0.prio, I e0.seq, I e0.run, I e0.task]), Pq.none, Pq.is (v) (Sl.yl h), Pq.is u50 (Sl.yl hs52), Pq.none] mix (by rfl) (by rfl) (by rfl) ⟨(), rfl, st4, st4.below⟩ (by rfl) ⟨(fun f W hst hbl hd hf => aF (v := v) ((hf 0 rfl).trans (h9_.at 0)) brq), (fun f W hst hbl hd hf => aN sl_EntryS (hd 0 10 rfl rfl) hp42 rfl rfl brq), (fun f W hst hbl hd hf => fX (cs := [I e0.prio, I e0.seq, I e0.run, I e0.task]) dN rfl (hd 1 11 rfl rfl) hr42 hst.below (i := 0) rfl rfl rfl brq), ⟨rfl, ?_, True.intro⟩, (fun f W hst hbl hd hf => aF (v := v) ((hf 0 rfl).trans (h9_.at 0)) brq), (fun f W hst hbl hd hf => hq54 sl_EntryS (hd 4 14 rfl rfl) rfl rfl brq), ⟨rfl, ?_, True.intro⟩, trivial⟩ ?_
  ·intro f W hC hd hf
   have hC_ := hC
   obtain ⟨_, hu, st44, hbl⟩ := hC_
   try dsimp only [cap_, dP] at st44
   refine (aT (cs := []) (e := 131) eA (bV cA _) st44 ?_); intro b45 W46 hb47 st48
   have st48 := st48.row_empty (α := Entry)
   exact ⟨⟨b45, (ce rfl rfl), st48, st48.below⟩, Sl.yl (bW (st48.get 0 rfl))⟩
  ·intro f W hC hd hf
   have hC_ := hC
   obtain ⟨b45, hu, st55, hbl⟩ := hC_
   try dsimp only [cap_, dP] at st55
   have hu6_13 : f 13 = (.slice (some ⟨b45, 0, none⟩) 0 0) := congrArg (fun l => l.getD 0 undef) hu
   refine (cE eI cA hu6_13 (hd 5 15 rfl rfl) hs52 st55.below st55 (by unfold maxLen; omega) aD ?_); intro v56 W57 st58
   exact ⟨⟨(v56, b45), (ce hu6_13 (ce rfl rfl)), st58, st58.below⟩, Sl.yl (bW (st58.get 0 rfl))⟩
  intro f59 W60 hC hv61 hf62
  have hC_ := hC
  obtain ⟨⟨v56, b45⟩, hu, st63, hbl64⟩ := hC_
  try dsimp only [cap_, dP] at st63
  have hu65 : f59 13 = (.slice (some ⟨b45, 0, none⟩) 0 0) := congrArg (fun l => l.getD 0 undef) hu
  have hu66 : f59 16 = v56 := congrArg (fun l => l.getD 1 undef) hu
  have st68 := st63.f1
  refine sgn (aM (cs := [I e0.prio, I e0.seq, I e0.run, I e0.task]) (C' := [I e0.prio, I e0.seq, I e0.run, I e0.task]) aE ((hf62 2 rfl).trans (h9_.at 2)) (hv61 2 12 aX rfl) (aG rfl (aG rfl (aG rfl (aG rfl bK)))) st68 bP rfl ?_); intro W69 st70
  refine sg (aC (v := v56) hu66 (sg (aC (v := .bool true) rfl (aB (wr (wZ dN rfl Tryz.results125 ((hf62 2 rfl).trans (h9_.at 2)) (st70.get 0 rfl) rfl rfl rfl ?_))))))
  have hq_ := st70.f1.shut
  obtain ⟨fp74, st75⟩ := hq_
  rw [show xs.headD gJ = e0 from by rw [hx0]; rfl, show (!decide (xs = [])) = true from by rw [hx0]; rfl]
  exact ⟨_, _, rfl, hok0, st75.d1⟩
theorem MergedI (w : World) {v u : Value} {xs ys : List Entry} {fp gp : List Nat} (h : Sl w v xs fp) (h2 : Sl w u ys gp) (hxl : xs.length ≤ 1048576) (hyl : ys.length ≤ 1048576) :
  Calls Tryz.prog 133 #[v, u] w fun e w' => ∃ (v1 : Value) (fp1 : List Nat), e = .returned v1 ∧ St w w' [Res.own v1 (fD xs ys) fp1] := by
 have hnl : ([] : List Entry).length = 0 := rfl
 refine bR Tryz.func133 rfl Tryz.ntmps133 aX (wp_seq (aA (sg (aC (v := .slice none 0 0) rfl (aB (wp_seq (aA (sg (aF (v := v) rfl (sg (bF Tryz.func174 rfl rfl ((fM w (h.below (Below.refl _ _)) aD).mono ?_)))))))))))); rintro _ W7 ⟨v5, rfl, hk8⟩; refine ⟨_, rfl, ?_⟩
 have st9 := St.call (St.start w) hk8
 refine sg (aC (v := v5) rfl (aB (wp_seq (wp_seq (aA (rn st9 6 Ag.nil.put.put.put.put.put.put [] [(15, .bool (decide (80 < ((xs.length : Int) + (ys.length : Int)))))] [ql h, ql h2, qad (xs.length : Int) (ys.length : Int), .o] aE fun f14 h14_ => (aB (aK (h14_.at 15) (fun h15p => ?_) (fun h15p => ?_)))))))))
 ·refine wp_seq (aA (sg (aF (v := v5) (h14_.at 5) (sg (aC (v := v5) rfl (aB (wr (aL Tryz.results133 rfl ?_))))))))
  have hq_ := st9.shut
  obtain ⟨fp18, st19⟩ := hq_
  have hme : fD xs ys = xs := by unfold fD; rw [if_pos aD]
  rw [hme]
  first | exact ⟨_, _, rfl, st19⟩ | (have hz := st19; simp only [List.nil_append] at hz; exact ⟨_, _, rfl, hz⟩)
 ·refine wp_skip (wp_seq (wp_seq (aA (rn st9 3 h14_ [] [(17, u), (18, I (ys.length : Int)), (19, I 0)] [ql h2] aE fun f21 h21_ => (aB (wp_block ?_))))))
  have hq_ := st9.shut
  obtain ⟨fp22, st23⟩ := hq_
  refine aY (fun (m : Nat) (f : Nat → Value) (W : World) => ∃ (k : Nat) (v24 : Value) (fo25 : List Nat), k ≤ ys.length ∧ m = ys.length - k ∧ Ag [(5, v24), (17, u), (18, I (ys.length : Int)), (19, I (k : Int))] f ∧ St w W ([Res.own (α := List Entry) v24 ((ys.take k).foldl jF xs) fo25])) (ys.length - 0) ?_ ?_
  ·exact ⟨0, v5, fp22, Nat.zero_le _, rfl, (h21_.to aE), st23⟩
  intro m26 f27 W28 hJ29
  obtain ⟨k, v24, fo25, hcd31_0, rfl, hA31, st30⟩ := hJ29
  have hfl := lP (ys.take k) xs
  rw [List.length_take] at hfl
  refine wp_seq (aA (sg (bS (hA31.at 19) (hA31.at 18) (aB (wp_seq (aK rfl (fun h34p => ?_) (fun h34p => ?_)))))))
  ·refine wp_skip (wp_seq (wp_block (wp_seq (aA ?_))))
   have hi28e79 : k < ys.length := aD
   have hq_ := idx h2 (i := k) hi28e79
   obtain ⟨b35, o35, cs35, f35, hp35, hr35, hc35, hm35⟩ := hq_
   refine sg (aN sl_EntryS (hA31.at 17) hp35 (hA31.at 19) rfl (sg (dL dN rfl rfl hr35 st30.below (Shape.len hc35) (sg (aR gX st30 ?_))))); intro b38 W39 hb40 st41
   refine sgn (aO (cs := cs35) dN hc35 rfl rfl st41 rfl ?_); intro W43 st44
   refine aB (aA (sg (aF (v := v24) (hA31.at 5) (sg (bB dN rfl rfl (st44.get 0 rfl) (Shape.len hc35) (sg (bJ Tryz.func192 rfl rfl rfl ((wP W43 (aI (st44.get 1 rfl)) hc35 aD).mono ?_)))))))); rintro _ W49 ⟨v47, fp47, rfl, hk50⟩; refine ⟨_, rfl, ?_⟩
   have st51 := St.call st44 hk50
   refine sg (aC (v := v47) rfl (aB (aA (sg (bY (hA31.at 19) rfl dX (sg (aF (v := I ((k : Int) + 1)) rfl (aB ?_))))))))
   exact ⟨_, ys.length - (k + 1), aD, rfl, k + 1, v47, fp47, aD, rfl, (hA31.put.put.put.put.put.put.put.put.put.put.to aE), (by rw [qU aD]; exact st51.d1.d1)⟩
  ·refine wp_exit (wp_seq (aA (sg (aF (v := v24) (hA31.at 5) (sg (aC (v := v24) rfl (aB (wr (aL Tryz.results133 rfl ?_)))))))))
   have hme : fD xs ys = (ys.take k).foldl jF xs := by unfold fD; rw [if_neg aD, show k = ys.length by omega, List.take_length]
   rw [hme]
   exact ⟨_, _, rfl, st30⟩
theorem MergedS (w : World) {v u : Value} {xs ys : List Entry} {fp gp : List Nat} (h : Sl w v xs fp) (h2 : Sl w u ys gp) (hxl : xs.length ≤ 1048576) (hyl : ys.length ≤ 1048576) :
  Calls Tryz.prog 124 #[v, u] w fun e w' => ∃ (v1 : Value) (fp1 : List Nat), e = .returned v1 ∧ St w w' [Res.own v1 (fD xs ys) fp1] := by
 have hnl : ([] : List Entry).length = 0 := rfl
 refine bR Tryz.func124 rfl Tryz.ntmps124 aX (wp_seq (aA (sg (aC (v := .slice none 0 0) rfl (aB (wp_seq (aA (sg (aT (cs := []) (e := 131) eA (bV cA _) (St.start w) ?_))))))))); intro b3 W4 hb5 st6
 have st6 := st6.row_empty (α := Entry)
 refine sg (aF (v := v) rfl (sg (cE eI cA rfl rfl h st6.below st6 (by unfold maxLen; omega) aD ?_))); intro v10 W11 st12
 refine sg (aC (v := v10) rfl (aB (wp_seq (wp_seq (aA (rn st12 6 Ag.nil.put.put.put.put.put.put.put [] [(15, .bool (decide (80 < ((xs.length : Int) + (ys.length : Int)))))] [ql h, ql h2, qad (xs.length : Int) (ys.length : Int), .o] aE fun f16 h16_ => (aB (aK (h16_.at 15) (fun h17p => ?_) (fun h17p => ?_)))))))))
 ·refine wp_seq (aA (sg (aF (v := v10) (h16_.at 5) (sg (aC (v := v10) rfl (aB (wr (aL Tryz.results124 rfl ?_))))))))
  have hq_ := st12.shut
  obtain ⟨fp20, st21⟩ := hq_
  have hme : fD xs ys = xs := by unfold fD; rw [if_pos aD]
  rw [hme]
  first | exact ⟨_, _, rfl, st21⟩ | (have hz := st21; simp only [List.nil_append] at hz; exact ⟨_, _, rfl, hz⟩)
 ·refine wp_skip (wp_seq (wp_seq (aA (sg (aC (v := I 0) rfl (aB (wp_block ?_)))))))
  have hq_ := st12.shut
  obtain ⟨fp24, st25⟩ := hq_
  have st26 := st25
  simp only [List.nil_append] at st26
  refine aY (fun (m : Nat) (f : Nat → Value) (W : World) => ∃ (k : Nat) (v27 : Value) (fo28 : List Nat), k ≤ ys.length ∧ m = ys.length - k ∧ Ag [(1, u), (5, v27), (6, I (k : Int))] f ∧ St w W ([Res.own (α := List Entry) v27 ((ys.take k).foldl jF xs) fo28])) (ys.length - 0) ?_ ?_
  ·exact ⟨0, v10, fp24, Nat.zero_le _, rfl, (h16_.put.to aE), st26⟩
  intro m29 f30 W31 hJ32
  obtain ⟨k, v27, fo28, hcd34_0, rfl, hA34, st33⟩ := hJ32
  have hfl := lP (ys.take k) xs
  rw [List.length_take] at hfl
  refine wp_seq (wp_seq (aA (rn st33 4 hA34 [] [(20, .bool (decide ((k : Int) < (ys.length : Int))))] [ql h2, .o] aE fun f36 h36_ => (aB (aK (h36_.at 20) (fun h37p => ?_) (fun h37p => ?_))))))
  ·refine wp_skip (wp_seq (wp_block (aA ?_)))
   have hi28e79 : k < ys.length := aD
   have hq_ := idx h2 (i := k) hi28e79
   obtain ⟨b39, o39, cs39, f39, hp39, hr39, hc39, hm39⟩ := hq_
   refine rn st33 5 h36_ [] [(23, v27), (27, .agg cs39.toArray)] [qx hp39, qrw hr39 (Shape.len hc39)] aE fun f40 h40_ => (sg (bJ Tryz.func187 rfl (h40_.at 23) (h40_.at 27) ((sC W31 (aI (st33.get 0 rfl)) hc39 aD).mono ?_))); rintro _ W43 ⟨v41, fp41, rfl, hk44⟩; refine ⟨_, rfl, ?_⟩
   have st45 := St.call st33 hk44
   refine sg (aC (v := v41) rfl (aB (aA (rn st45 3 h40_.put.put [6] [(6, I ((k : Int) + 1))] [qad (k : Int) 1] aE fun f50 h50_ => (aB ?_)))))
   exact ⟨_, ys.length - (k + 1), aD, rfl, k + 1, v41, fp41, aD, rfl, (h50_.to aE), (by rw [qU aD]; exact st45.d1)⟩
  ·refine wp_exit (wp_seq (aA (sg (aF (v := v27) (h36_.at 5) (sg (aC (v := v27) rfl (aB (wr (aL Tryz.results124 rfl ?_)))))))))
   have hme : fD xs ys = (ys.take k).foldl jF xs := by unfold fD; rw [if_neg aD, show k = ys.length by omega, List.take_length]
   rw [hme]
   exact ⟨_, _, rfl, st33⟩
theorem yD {α : Type} {p : α → Bool} : ∀ {xs : List α} {k : Nat}, fE p xs = some k → (xs.take k).any p = false
 | [], k, h => by simp [fE] at h
 | x :: xs, k, h => by
  unfold fE at h
  cases hp : p x with
  | true => simp [hp] at h; subst h; rfl
  | false =>
   simp only [hp, Bool.false_eq_true, if_false] at h
   cases hq : fE p xs with
   | none => simp [hq] at h
   | some m =>
    simp [hq] at h
    subst h
    simp [hp]
    have := yD hq
    simpa using this
theorem yG {α : Type} {p : α → Bool} {xs : List α} (h : xs.any p = false) : xs.filter (fun x => !p x) = xs := by
 rw [List.filter_eq_self]
 intro x hx
 have := List.any_eq_false.1 h x hx
 simpa using this
theorem ixI_none {α : Type} {p : α → Bool} {xs : List α} (h : ixI (fE p xs) = -1) : xs.filter (fun x => !p x) = xs := by
 apply yG
 cases hq : fE p xs with
 | some k => rw [hq] at h; simp only [ixI] at h; omega
 | none =>
  rw [Bool.eq_false_iff]
  intro ha
  have : ∀ ys : List α, ys.any p = true → fE p ys ≠ none := by
   intro ys
   induction ys with
   | nil => intro h; simp at h
   | cons y ys ih =>
    intro h
    unfold fE
    cases hp : p y with
    | true => simp
    | false =>
     have : ys.any p = true := by simpa [hp] using h
     simp only [Bool.false_eq_true, if_false]
     cases hz : fE p ys with
     | none => exact absurd hz (ih this)
     | some m => simp
  exact this xs ha hq
theorem ixI_some {α : Type} {p : α → Bool} {xs : List α} (h : ¬ ixI (fE p xs) = -1) : ∃ k, fE p xs = some k := by
 cases hq : fE p xs with
 | some k => exact ⟨k, rfl⟩
 | none => rw [hq] at h; exact absurd rfl h
section
variable {p : Entry → Bool} {xs cur : List Entry} {i j k : Nat} {e : Entry}
theorem del_init (h : fE p xs = some k) : xs.take k = (xs.take (k + 1)).filter (fun x => !p x) := by
 obtain ⟨hk, hp⟩ := oE h
 rw [List.take_succ_eq_append_getElem hk, List.filter_append, yG (yD h)]
 simp [hp]
theorem aA1 (hcd : cur.drop j = xs.drop j) (he : cur[j]? = some e) : xs[j]? = some e := by
 have h1 : (cur.drop j)[0]? = some e := by simpa using he
 rw [hcd] at h1
 simpa using h1
theorem del_skip (hct : cur.take i = (xs.take j).filter (fun x => !p x)) (hcd : cur.drop j = xs.drop j) (he : cur[j]? = some e) (hq : p e = true) : cur.take i = (xs.take (j + 1)).filter (fun x => !p x) := by
 obtain ⟨hj, he2⟩ := List.getElem?_eq_some_iff.1 (aA1 hcd he)
 rw [List.take_succ_eq_append_getElem hj, List.filter_append, hct, he2]
 simp [hq]
theorem del_keep (hij : i < j) (hct : cur.take i = (xs.take j).filter (fun x => !p x)) (hcd : cur.drop j = xs.drop j) (he : cur[j]? = some e) (hq : p e = false) : (cur.set i e).take (i + 1) = (xs.take (j + 1)).filter (fun x => !p x) := by
 obtain ⟨hj, he2⟩ := List.getElem?_eq_some_iff.1 (aA1 hcd he)
 have hi : i < cur.length := by have := (List.getElem?_eq_some_iff.1 he).1; omega
 have h1 : (cur.set i e).take (i + 1) = cur.take i ++ [e] := by
  rw [List.take_succ_eq_append_getElem (by simpa using hi), List.getElem_set_self, List.take_set_of_le (Nat.le_refl _)]
 rw [h1, List.take_succ_eq_append_getElem hj, List.filter_append, hct, he2]
 simp [hq]
theorem yK (hcd : cur.drop j = xs.drop j) : cur.drop (j + 1) = xs.drop (j + 1) := by
 have := congrArg (fun l => l.drop 1) hcd
 simpa [List.drop_drop, Nat.add_comm] using this
theorem del_dropS (hij : i < j) (hcd : cur.drop j = xs.drop j) : (cur.set i e).drop (j + 1) = xs.drop (j + 1) := by
 rw [List.drop_set_of_lt aD]
 exact yK hcd
end

theorem DeleteE {w W0 : World} {rs : List Res} {v : Value} {xs : List Entry} {fp : List Nat} {F : FuncId} {capt : List Value} {fn : Func} (hst : St w W0 (Res.own v xs fp :: rs)) (hfn : Tryz.prog.funcs[F]? = some fn) (hok : ((fn.name == "runtime.NumGoroutine") || fn.body.isNone) = false) {p : Entry → Bool} (hxl : xs.length ≤ 1048576)
  (hF : ∀ (W1 : World) (cs : List Value) (e : Entry) (f1 : List Nat), St w W1 rs → Shape.C W1 cs e f1 → Calls Tryz.prog F (Value.agg cs.toArray :: capt).toArray W1 fun en w' => en = .returned (.bool (p e)) ∧ St W1 w' []) :
  Calls Tryz.prog 189 #[v, .func (.func F) #[] capt.toArray] W0 fun e w' => ∃ (v' : Value) (fp' : List Nat), e = .returned v' ∧ St w w' (Res.own v' (xs.filter (fun x => !p x)) fp' :: rs) := by
 refine bR Tryz.func189 rfl Tryz.ntmps189 aX (wp_seq (aA (sg (aC (v := .slice none 0 0) rfl (aB (wp_seq (aA (sg (aF (v := v) rfl (sg (aF (v := .func (.func F) #[] capt.toArray) rfl (sg (bJ Tryz.func227 rfl rfl rfl ((yS W0 (aI (hst.get 0 rfl)) F capt hfn hok p (fun w1 i hi cs f1 hb hc => hF w1 cs _ f1 ((St.call hst (St.of_below hb)).dropn 1) hc)).mono ?_)))))))))))))); rintro _ W5 ⟨rfl, hk6⟩; refine ⟨_, rfl, ?_⟩
 have st7 := St.call hst hk6
 refine sg (aC (v := I (ixI (fE p xs))) rfl (aB (wp_seq (wp_seq (aA (sg (aF (v := I (ixI (fE p xs))) rfl (sg (dI rfl rfl (aB (aK rfl (fun h12p => ?_) (fun h12p => ?_))))))))))))
 ·refine wp_seq (aA (sg (aF (v := v) rfl (sg (aC (v := v) rfl (aB (wr (aL Tryz.results189 rfl ?_))))))))
  have hff := ixI_none h12p
  rw [hff]
  exact ⟨_, _, rfl, st7⟩
 ·refine wp_skip (wp_seq (wp_seq ?_))
  have hq_ := ixI_some h12p
  obtain ⟨k0, hk0⟩ := hq_
  have hk1 := (oE hk0).1
  refine aA (rn st7 3 (Ag.up (t := 5) (v := I (k0 : Int)) ((rfl : _ = I (ixI (fE p xs))).trans (congrArg I (by rw [hk0]; rfl))) Ag.nil.put.put.put.put.put.put.put.put.put) [] [(6, I ((k0 : Int) + 1))] [qad (k0 : Int) 1] aE fun f16 h16_ => (aB (wp_block (aY (fun (m : Nat) (f : Nat → Value) (W : World) => ∃ (j : Nat) (i : Nat) (cur : List Entry) (fo17 : List Nat), j ≤ xs.length ∧ i < j ∧ cur.length = xs.length ∧ cur.take i = (xs.take j).filter (fun x => !p x) ∧ cur.drop j = xs.drop j ∧ m = xs.length - j ∧ Ag [(0, v), (1, .func (.func F) #[] capt.toArray), (5, I (i : Int)), (6, I (j : Int))] f ∧ St w W (Res.own (α := List Entry) v cur fo17 :: rs)) (xs.length - (k0 + 1)) ?_ ?_))))
  ·exact ⟨(k0 + 1), k0, xs, fp, aD, aD, rfl, (del_init hk0), rfl, rfl, (Ag.cons (h16_.at 0) (Ag.cons (h16_.at 1) (Ag.cons (h16_.at 5) (Ag.cons (Eq.trans (show _ = I ((k0 : Int) + 1) from (h16_.at 6)) (congrArg I aD)) Ag.nil)))), st7⟩
  intro m18 f19 W20 hJ21
  obtain ⟨j, i, cur, fo17, hj, hij, hcl, hct, hcd, rfl, hA23, st22⟩ := hJ21
  refine wp_seq (wp_seq (aA (rn st22 4 hA23 [] [(19, .bool (decide ((j : Int) < (cur.length : Int))))] [ql (aI (st22.get 0 rfl)), .o] aE fun f25 h25_ => (aB (aK (h25_.at 19) (fun h26p => ?_) (fun h26p => ?_))))))
  ·refine wp_skip (wp_seq (wp_block (wp_seq (aA (sg (aF (v := v) (h25_.at 0) (sg (aF (v := I (j : Int)) (h25_.at 6) ?_))))))))
   have hq_ := eH (xs := cur) (i := j) aD
   obtain ⟨e, he⟩ := hq_
   have hie44fd : j < cur.length := (List.getElem?_eq_some_iff.1 he).1
   have hq_ := gT (aI (st22.get 0 rfl)) (i := j) he
   obtain ⟨b29, o29, cs29, f29, hp29, hr29, hc29, hm29⟩ := hq_
   refine sg (aN sl_EntryS rfl hp29 rfl rfl (sg (dL dN rfl rfl hr29 (Below.refl _ _) (Shape.len hc29) (sg (aR gX st22 ?_))))); intro b32 W33 hb34 st35
   refine sgn (aO (cs := cs29) dN hc29 rfl rfl st35 rfl ?_); intro W37 st38
   refine aB (wp_seq (aA (sg (aF (v := .func (.func F) #[] capt.toArray) (h25_.at 1) (sg (bB dN rfl rfl (st38.get 0 rfl) (Shape.len hc29) (sg (nW (first := []) hfn hok rfl (sO (v := .agg cs29.toArray) rfl sQ) ((hF W37 _ e _ (st38.dropn 2) hc29).mono ?_))))))))); rintro _ W41 ⟨rfl, hk42⟩; refine ⟨_, rfl, ?_⟩
   have st43 := St.call st38 hk42
   refine sg (nU rfl (aB (cT rfl (fun h46 => ?_) (fun h46 => ?_))))
   ·refine wp_seq (aA (rn st43 3 h25_.put.put.put.put.put.put.put.put.put [] [(30, v), (31, I (i : Int)), (32, .agg cs29.toArray)] [qw 0 rfl (Shape.len hc29)] aE fun f48 h48_ => ?_))
    have hk49 := hc29
    obtain ⟨he49, rfl, hok49⟩ := hk49
    have he49 : _ = [I e.prio, I e.seq, I e.run, I e.task] := he49
    subst he49
    have hq_ := eH (xs := cur) (i := i) aD
    obtain ⟨ei, hei⟩ := hq_
    have hq_ := St.lendx (α := Entry) aX st43.f1 (x := ei) hei
    obtain ⟨b51, e51, pre51, cs51, post51, fi51, fr51, hPA51, hC51, st52⟩ := hq_
    obtain ⟨he51, hf51, hok51⟩ := hC51; have he51 : _ = [I ei.prio, I ei.seq, I ei.run, I ei.task] := he51; subst he51
    refine sg (aN sl_EntryS (h48_.at 30) hPA51 (h48_.at 31) rfl (sgn (fC (i := 0) (cs := [I e.prio, I e.seq, I e.run, I e.task]) (C' := [I e.prio, I e.seq, I e.run, I e.task]) aE rfl (h48_.at 32) (aG rfl (aG rfl (aG rfl (aG rfl bK)))) st52.d1 rfl bP rfl ?_))); intro W59 st60
    refine aB (aA (rn st60 3 h48_.put [5] [(5, I ((i : Int) + 1))] [qad (i : Int) 1] aE fun f62 h62_ => (aB (aA (rn st60 3 h62_ [6] [(6, I ((j : Int) + 1))] [qad (j : Int) 1] aE fun f64 h64_ => (aB ?_))))))
    have st65 := st60.cs0 (cs := [I e.prio, I e.seq, I e.run, I e.task]) (x := e) ⟨rfl, rfl, hok49⟩
    have hq_ := St.give (α := Entry) st65.f2.f1.f2
    obtain ⟨fp70, st71⟩ := hq_
    exact ⟨_, xs.length - (j + 1), aD, rfl, j + 1, i + 1, (cur.set i e), fp70, aD, aD, (by rw [List.length_set]; exact hcl), (del_keep hij hct hcd he (aW h46)), (del_dropS hij hcd), rfl, (h64_.to aE), st71.d1⟩
   ·refine wp_skip (aA (rn st43 3 h25_.put.put.put.put.put.put.put.put.put [6] [(6, I ((j : Int) + 1))] [qad (j : Int) 1] aE fun f74 h74_ => (aB ?_)))
    exact ⟨_, xs.length - (j + 1), aD, rfl, j + 1, i, cur, fo17, aD, aD, hcl, (del_skip hct hcd he (bG h46)), (yK hcd), rfl, (h74_.to aE), st43.f1.d1⟩
  ·refine wp_exit (wp_seq ?_)
   have hje : j = xs.length := by omega
   have hq_ := St.ownOpen st22 aD
   obtain ⟨bD, oD, cD, CD, eD, hvD, hcD, hmD, hlD, hED, st77⟩ := hq_
   subst hvD
   refine aA (sg (aF (v := .slice (some ⟨bD, oD, none⟩) cur.length cD) (h25_.at 0) (sg (aF (v := I (i : Int)) (h25_.at 5) (sg (nC (l := i) sl_EntryS rfl rfl aD aD aD ?_))))))
   refine sgn (stp_clearb (zs := [I 0, I 0, I 0, I 0]) Tryz.underlying124 aE rfl (by intro v hv; simp only [List.mem_cons, List.not_mem_nil, or_false] at hv; rcases hv with rfl | rfl | rfl | rfl <;> rfl) rfl aD st77 (by show oD + i * 4 + (cur.length - i) * 4 ≤ CD.length; omega) ?_); intro ZD W80 hZD st81
   refine aB (wp_seq (aA (sg (aF (v := .slice (some ⟨bD, oD, none⟩) cur.length cD) (h25_.at 0) (sg (aF (v := I (i : Int)) (h25_.at 5) (sg (yW (h := i) sl_EntryS rfl rfl aD aD aD (sg (aC (v := .slice (some ⟨bD, oD, none⟩) i cD) rfl (aB (wr (aL Tryz.results189 rfl ?_)))))))))))))
   have hq_ := St.ownShut (off := oD) (cap := cD) (m := i) st81 (splice_front (i := i) aD hED hlD hZD) (by rw [List.length_take]; omega) aD hmD (by rw [fQ]; omega)
   obtain ⟨fpz, stz⟩ := hq_
   rw [hct, hje, List.take_length] at stz
   exact ⟨_, fpz, rfl, stz⟩
theorem SweptC (w : World) {y : Yard} {cs : List Value} {fp : List Nat} (hc : Shape.C w cs y fp) {bt : Nat} {tt : TypeId} (hB : (Res.bx bt cs tt).holds w) {e : Entry} {ds : List Value} {gp : List Nat} (hd_ : Shape.C w ds e gp) (hw : y.wt ≤ 1048576) :
  Calls Tryz.prog 190 #[.agg ds.toArray, .pointer (some ⟨bt, 0, none⟩)] w fun en w' => en = .returned (.bool (!fresh y e)) ∧ St w w' [] := by
 refine bR Tryz.func190 rfl Tryz.ntmps190 aX (wp_seq (aA (sg (aJ (cs := ds) rfl (St.start w) ?_)))); intro b1 W2 hb3 st4
 refine sg (aC (v := .bool false) rfl (aB (wp_seq (aA (rc st4 5 Ag.nil.put.put.put.put [3] [(3, .bool (!(fresh y e)))] [qrw (cF hB) (Shape.len hc), qw 0 rfl (Shape.len hd_), qc Tryz.func165 rfl (fun W s b => aC5 W (bA hc s.below) hd_ aD), .o] aE fun f9 W10 h9_ st11 hb12 => (aB (wr (aL Tryz.results190 (h9_.at 3) ?_))))))))
 exact ⟨rfl, st11.bare⟩
theorem aC0 (w : World) {y : Yard} {cs : List Value} {fp : List Nat} (hc : Shape.C w cs y fp) (sh : Int) (hw : y.wt ≤ 1048576) :
  Calls Tryz.prog 130 #[.agg cs.toArray, I sh] w fun e w' => ∃ (cs' : List Value) (fp' : List Nat), e = .returned (.agg cs'.toArray) ∧ St w w' [Res.own (.agg cs'.toArray) (aZ y sh) fp'] := by
 have hslw : y.shelf.length ≤ y.wt := by unfold Yard.wt wtL; omega
 refine bR Tryz.func130 rfl Tryz.ntmps130 aX (wp_seq (aA (sg (aJ (cs := cs) rfl (St.start w) ?_)))); intro b1 W2 hb3 st4
 refine sg (aR fA st4 ?_); intro b6 W7 hb8 st9
 refine aB (wp_seq (aA (sg (bB bM rfl rfl (st9.get 1 rfl) (Shape.len hc) (sg (bF Tryz.func108 rfl rfl ((mF W7 (bA hc st9.below) aD).mono ?_))))))); rintro _ W15 ⟨cs13, fp13, rfl, hk16⟩; refine ⟨_, rfl, ?_⟩
 have st17 := St.call st9 hk16
 refine sg (aR fA st17 ?_); intro b19 W20 hb21 st22
 refine sgn (aO (cs := cs13) bM (bO (st22.get 1 rfl) rfl) rfl rfl st22 rfl ?_); intro W24 st25
 refine aB (wp_seq (wp_seq (aA ?_)))
 have hk27 := hc
 obtain ⟨v27_0, v27_1, g27_0, g27_1, rfl, hok27, h27_0, h27_1, rfl⟩ := hk27
 refine rc st25 7 Ag.nil.put.put.put.put.put.put.put [] [(14, .bool (!(inB sh 0 ((y.shelf.length : Int) - 1))))] [qb 3 rfl 2, ql h27_0, qsb (y.shelf.length : Int) 1, qc Tryz.func47 rfl (fun W s b => bZ W sh 0 ((y.shelf.length : Int) - 1)), .o] aE fun f28 W29 h28_ st30 hb31 => (aB (cT (h28_.at 14) (fun h32 => ?_) (fun h32 => ?_)))
 ·have h32p := cJ (aW h32)
  refine wp_seq (aA (sg (bB bM rfl (h28_.at 5) (st30.get 0 rfl) (Shape.len (bO (st30.get 1 rfl) rfl)) (sgn (aO (cs := cs13) bM (bO (st30.f2.get 2 rfl) rfl) (h28_.at 4) rfl st30.f2 rfl ?_))))); intro W36 st37
  refine aB (wr (eO bM rfl Tryz.results130 (h28_.at 4) (st37.get 0 rfl) (Shape.len (bO (st37.get 2 rfl) rfl)) ?_))
  have hfe : aZ y sh = y := by unfold aZ; rw [(aW h32)]; rfl
  rw [hfe]
  exact ⟨_, _, rfl, st37.f2.d1.d1.d1⟩
 ·have h32p := inB_iff'.1 (bG h32)
  refine wp_skip (wp_seq ?_)
  have hsl : (sh).toNat < y.shelf.length := by omega
  have hgd : y.shelf[(sh).toNat]? = some (y.shelf.getD (sh).toNat []) := getD_some hsl
  have hsy := nY y (sh).toNat hsl
  have hge : (y.shelf.getD (sh).toNat []) = y.shelf[(sh).toNat] := by rw [List.getD_eq_getElem?_getD, List.getElem?_eq_getElem hsl]; rfl
  rw [← hge] at hsy
  have hq_ := eB st30.f1
  obtain ⟨v43_0, v43_1, g43_0, g43_1, he43, hok43, st44⟩ := hq_
  subst he43
  have hq_ := St.lendx (α := List Entry) aX st44 (x := (y.shelf.getD (sh).toNat [])) hgd
  obtain ⟨b47, e47, pre47, cs47, post47, fi47, fr47, hPA47, hC47, st48⟩ := hq_
  have hq_ := st48.f1.uncs1
  obtain ⟨v47, he47, st53⟩ := hq_; subst he47
  refine eX 10 [9] [[], [9]] [[(0, 1)]] (w1 := w) (rs := [Res.bx b47 (pre47 ++ [v47] ++ post47) e47, Res.rest (α := (List Entry)) v43_0 b47 pre47 post47 y.shelf (sh).toNat fr47, Res.own (α := List Run) v43_1 y.runs g43_1, Res.bx b19 [I y.now, I y.seq, v43_0, v43_1] 34, Res.bx b6 [I 0, I 0, .slice none 0 0, .slice none 0 0] 34, Res.bx b1 [I y.now, I y.seq, v27_0, v27_1] 34]) (fun q => match q with | 0 => Cp.fr (ι := Unit) (fun _ => []) (fun _ => [Res.own (α := List Entry) v47 (y.shelf.getD (sh).toNat []) fi47]) | _ => Cp.fr (ι := Value × List Nat) (fun ⟨v66, fp66⟩ => [v66]) (fun ⟨v66, fp66⟩ => [Res.own (α := List Entry) v66 ((y.shelf.getD (sh).toNat []).filter (fun x => !(fun x => !fresh y x) x)) fp66])) [Pq.is (.pointer (some ⟨b19, 0 + 2, none⟩)), Pq.is (v43_0) (oW hPA47), Pq.is (I sh), Pq.is (.pointer (some ⟨b19, 0 + 2, none⟩)), Pq.is (v43_0) (oW hPA47), Pq.is (I sh), Pq.is (.pointer (some ⟨b47, pre47.length, none⟩)), Pq.is (v47) (Sl.yl (aI (st53.get 0 rfl))), Pq.is (.func (.func 190) #[] #[.pointer (some ⟨b1, 0, none⟩)]), Pq.none] mix (by rfl) (by rfl) (by rfl) ⟨(), rfl, st53, st53.below⟩ (by rfl) ⟨(fun f W hst hbl hd hf => aH eE ((hf 5 rfl).trans (h28_.at 5)) brq), (fun f W hst hbl hd hf => aU eG rfl (hd 0 16 rfl rfl) (hst.get 3 rfl) (i := 2) rfl rfl brq), (fun f W hst hbl hd hf => aF (v := I sh) ((hf 1 rfl).trans (h28_.at 1)) brq), (fun f W hst hbl hd hf => aH eE ((hf 5 rfl).trans (h28_.at 5)) brq), (fun f W hst hbl hd hf => aU eG rfl (hd 3 19 rfl rfl) (hst.get 3 rfl) (i := 2) rfl rfl brq), (fun f W hst hbl hd hf => aF (v := I sh) ((hf 1 rfl).trans (h28_.at 1)) brq), (fun f W hst hbl hd hf => aN eM (hd 4 20 rfl rfl) hPA47 (hd 5 21 rfl rfl) aD brq), (fun f W hst hbl hd hf => gY iS rfl (hd 6 22 rfl rfl) (hst.get 0 rfl) (i := 0) rfl rfl brq), (fun f W hst hbl hd hf => kC sQ (sO (v := .pointer (some ⟨b1, 0, none⟩)) ((hf 2 rfl).trans (h28_.at 2)) sQ) brq), ⟨rfl, ?_, True.intro⟩, trivial⟩ ?_
  ·intro f W hC hd hf
   have hC_ := hC
   obtain ⟨_, hu, st64, hbl⟩ := hC_
   try dsimp only [cap_, dP] at st64
   refine (bJ Tryz.func189 rfl (hd 7 23 rfl rfl) (hd 8 24 rfl rfl) ((DeleteE (capt := [.pointer (some ⟨b1, 0, none⟩)]) st64 Tryz.func190 rfl (p := (fun x => !fresh y x)) aD (fun W1_ cs_ e_ f_ hs_ hc_ => SweptC W1_ (bA hc hs_.below) (hs_.get 5 rfl) hc_ hw)).mono ?_)); rintro _ W65 ⟨v66, fp66, rfl, st67⟩; refine ⟨_, rfl, ?_⟩
   exact ⟨⟨(v66, fp66), (ce rfl rfl), st67, st67.below⟩, Sl.yl (aI (st67.get 0 rfl))⟩
  intro f69 W70 hC hv71 hf72
  have hC_ := hC
  obtain ⟨⟨v66, fp66⟩, hu, st73, hbl74⟩ := hC_
  try dsimp only [cap_, dP] at st73
  have hu75 : f69 25 = v66 := congrArg (fun l => l.getD 0 undef) hu
  refine sg (aN eM (hv71 1 17 aX rfl) hPA47 (hv71 2 18 aX rfl) aD ?_)
  have st79 := st73.f1
  refine sgn (bE (i := 0) (v := v66) (C' := [v66]) aE rfl hu75 (Sl.cells (aI (st79.get 1 rfl))) (Sl.one (aI (st79.get 1 rfl))) st79 rfl bP rfl ?_); intro W80 st81
  refine aB (wp_seq ?_)
  have st83 := st81.f1.cs1
  have hq_ := St.give (α := List Entry) st83.f2.f1.f2
  obtain ⟨fp87, st88⟩ := hq_
  have hnn : (y.shelf.getD (sh).toNat []).filter (fun x => !(fun x => !fresh y x) x) = (y.shelf.getD (sh).toNat []).filter (fresh y) := by congr 1; funext x; simp
  rw [hnn] at st88
  refine aA (sg (aV (cs := [I y.now, I y.seq, v43_0, v43_1]) bM rfl ((hf72 5 rfl).trans (h28_.at 5)) (st88.get 2 rfl) rfl rfl ?_))
  have st91 := st88.f3
  refine sgn (aM (cs := [I y.now, I y.seq, v43_0, v43_1]) (C' := [I y.now, I y.seq, v43_0, v43_1]) aE ((hf72 4 rfl).trans (h28_.at 4)) rfl (aG rfl (aG rfl (aG (Sl.one (aI (st91.get 1 rfl))) (aG (Sl.one (aI (st91.get 2 rfl))) bK)))) st91 bP rfl ?_); intro W92 st93
  refine aB (wr (eO bM rfl Tryz.results130 ((hf72 4 rfl).trans (h28_.at 4)) (st93.get 0 rfl) rfl ?_))
  have hfe : aZ y sh = iE y (sh).toNat ((y.shelf.getD (sh).toNat []).filter (fresh y)) := by unfold aZ; rw [(bG h32)]; rfl
  have st96 := eN (x := (iE y (sh).toNat ((y.shelf.getD (sh).toNat []).filter (fresh y)))) st93.f2.f2 (by assumption)
  rw [hfe]
  exact ⟨_, _, rfl, st96.d1.d1.d1⟩
theorem aB9 (w : World) {y : Yard} {cs : List Value} {fp : List Nat} (hc : Shape.C w cs y fp) (sh : Int) (hw : y.wt ≤ 1048576) :
  Calls Tryz.prog 121 #[.agg cs.toArray, I sh] w fun e w' => ∃ (cs' : List Value) (fp' : List Nat), e = .returned (.agg cs'.toArray) ∧ St w w' [Res.own (.agg cs'.toArray) (aZ y sh) fp'] := by
 have hslw : y.shelf.length ≤ y.wt := by unfold Yard.wt wtL; omega
 refine bR Tryz.func121 rfl Tryz.ntmps121 aX (wp_seq (aA (sg (aJ (cs := cs) rfl (St.start w) ?_)))); intro b1 W2 hb3 st4
 refine sg (aR fA st4 ?_); intro b6 W7 hb8 st9
 refine aB (wp_seq (aA (sg (bB bM rfl rfl (st9.get 1 rfl) (Shape.len hc) (sg (bF Tryz.func71 rfl rfl ((mE W7 (bA hc st9.below) aD).mono ?_))))))); rintro _ W15 ⟨cs13, fp13, rfl, hk16⟩; refine ⟨_, rfl, ?_⟩
 have st17 := St.call st9 hk16
 refine sg (aR fA st17 ?_); intro b19 W20 hb21 st22
 refine sgn (aO (cs := cs13) bM (bO (st22.get 1 rfl) rfl) rfl rfl st22 rfl ?_); intro W24 st25
 refine aB (wp_seq (wp_seq (aA ?_)))
 have hk27 := hc
 obtain ⟨v27_0, v27_1, g27_0, g27_1, rfl, hok27, h27_0, h27_1, rfl⟩ := hk27
 refine rc st25 7 Ag.nil.put.put.put.put.put.put.put [] [(16, .bool (!(inB sh 0 ((y.shelf.length : Int) - 1))))] [qb 3 rfl 2, ql h27_0, qsb (y.shelf.length : Int) 1, qc Tryz.func43 rfl (fun W s b => cN W sh 0 ((y.shelf.length : Int) - 1)), .o] aE fun f28 W29 h28_ st30 hb31 => (aB (cT (h28_.at 16) (fun h32 => ?_) (fun h32 => ?_)))
 ·have h32p := cJ (aW h32)
  refine wp_seq (aA (sg (bB bM rfl (h28_.at 5) (st30.get 0 rfl) (Shape.len (bO (st30.get 1 rfl) rfl)) (sgn (aO (cs := cs13) bM (bO (st30.f2.get 2 rfl) rfl) (h28_.at 4) rfl st30.f2 rfl ?_))))); intro W36 st37
  refine aB (wr (eO bM rfl Tryz.results121 (h28_.at 4) (st37.get 0 rfl) (Shape.len (bO (st37.get 2 rfl) rfl)) ?_))
  have hfe : aZ y sh = y := by unfold aZ; rw [(aW h32)]; rfl
  rw [hfe]
  exact ⟨_, _, rfl, st37.f2.d1.d1.d1⟩
 ·have h32p := inB_iff'.1 (bG h32)
  refine wp_skip (wp_seq ?_)
  have hsl : (sh).toNat < y.shelf.length := by omega
  have hgd : y.shelf[(sh).toNat]? = some (y.shelf.getD (sh).toNat []) := getD_some hsl
  have hsy := nY y (sh).toNat hsl
  have hge : (y.shelf.getD (sh).toNat []) = y.shelf[(sh).toNat] := by rw [List.getD_eq_getElem?_getD, List.getElem?_eq_getElem hsl]; rfl
  rw [← hge] at hsy
  refine aA (sg (aT (cs := []) (e := 131) eA (bV cA _) st30 ?_)); intro b42 W43 hb44 st45
  have st45 := st45.row_empty (α := Entry)
  refine sg (aC (v := (.slice (some ⟨b42, 0, none⟩) 0 0)) rfl (aB (wp_seq (wp_seq (aA (sg (aC (v := I 0) rfl (aB (wp_block (aY (fun (m : Nat) (f : Nat → Value) (W : World) => ∃ (k : Nat) (v51 : Value), k ≤ (y.shelf.getD (sh).toNat []).length ∧ m = (y.shelf.getD (sh).toNat []).length - k ∧ Ag [(1, I sh), (2, .pointer (some ⟨b1, 0, none⟩)), (4, .pointer (some ⟨b6, 0, none⟩)), (5, .pointer (some ⟨b19, 0, none⟩)), (6, v51), (7, I (k : Int))] f ∧ St w W ([Res.row (α := Entry) 131 v51 (((y.shelf.getD (sh).toNat []).take k).filter (fresh y)) [], Res.bx b19 cs13 34, Res.own (α := Yard) (.agg cs13.toArray) y fp13, Res.bx b6 [I 0, I 0, .slice none 0 0, .slice none 0 0] 34, Res.bx b1 [I y.now, I y.seq, v27_0, v27_1] 34])) ((y.shelf.getD (sh).toNat []).length - 0) ?_ ?_))))))))))
  ·exact ⟨0, (.slice (some ⟨b42, 0, none⟩) 0 0), Nat.zero_le _, rfl, (h28_.put.put.put.to aE), st45⟩
  intro m52 f53 W54 hJ55
  obtain ⟨k, v51, hcd57_0, rfl, hA57, st56⟩ := hJ55
  have hfl := List.length_filter_le (fresh y) ((y.shelf.getD (sh).toNat []).take k)
  have htl := List.length_take_le k (y.shelf.getD (sh).toNat [])
  refine wp_seq (wp_seq (aA ?_))
  have hi899e0 : (sh).toNat < y.shelf.length := (List.getElem?_eq_some_iff.1 hgd).1
  have hq_ := gT h27_0 (i := (sh).toNat) hgd
  obtain ⟨b59, o59, cs59, f59, hp59, hr59, hc59, hm59⟩ := hq_
  have hk59 := hc59
  obtain ⟨v60, rfl, h61⟩ := hk59
  refine rn st56 8 hA57 [] [(26, .bool (decide ((k : Int) < ((y.shelf.getD (sh).toNat []).length : Int))))] [qb 4 rfl 2, qxe hp59 (e := sh) aD, qr hr59 0, ql h61, .o] aE fun f62 h62_ => (aB (aK (h62_.at 26) (fun h63p => ?_) (fun h63p => ?_)))
  ·refine wp_skip (wp_seq (wp_block (wp_seq ?_)))
   have hq_ := eH (xs := (y.shelf.getD (sh).toNat [])) (i := k) aD
   obtain ⟨e, he⟩ := hq_
   have hkl : k < (y.shelf.getD (sh).toNat []).length := (List.getElem?_eq_some_iff.1 he).1
   have hek : (y.shelf.getD (sh).toNat [])[k] = e := (List.getElem?_eq_some_iff.1 he).2
   have hi55170 : k < (y.shelf.getD (sh).toNat []).length := (List.getElem?_eq_some_iff.1 he).1
   have hq_ := gT h61 (i := k) he
   obtain ⟨b65, o65, cs65, f65, hp65, hr65, hc65, hm65⟩ := hq_
   have hk66 := hc65
   obtain ⟨he66, rfl, hok66⟩ := hk66
   have he66 : _ = [I e.prio, I e.seq, I e.run, I e.task] := he66
   subst he66
   refine rd st56 h62_ [] [(38, .bool (fresh y e))] [qb 4 rfl 0, qb 4 rfl 2, qxe hp59 (e := sh) aD, qr hr59 0, qx hp65, qr hr65 0, qc Tryz.func158 rfl (fun W s b => aC4 W (bA hc s.below) hc65 aD)] aE aE fun f67 W68 h67_ st69 hb70 => (cT (h67_.at 38) (fun h71 => ?_) (fun h71 => ?_))
   ·refine aA (rn st69 9 h67_ [] [(39, v51), (47, .agg #[I e.prio, I e.seq, I e.run, I e.task])] [qb 4 rfl 2, qxe hp59 (e := sh) aD, qr hr59 0, qx hp65, qr hr65 0] aE fun f73 h73_ => ?_)
    have hoke : e.ok := (hc65).2.2
    refine sg (aT (cs := [I e.prio, I e.seq, I e.run, I e.task]) (e := 131) (cY (v := .agg #[I e.prio, I e.seq, I e.run, I e.task]) (h73_.at 47) eA) (bN cA _ _ rfl rfl aX) st69 ?_); intro b74 W75 hb76 st77
    refine sg (cP (ys := [(⟨e.prio, e.seq, e.run, e.task⟩ : Entry)]) cA (h73_.at 39) rfl rfl st77.f1 (Elems.one1 (show Shape.C _ [I e.prio, I e.seq, I e.run, I e.task] e [] from ⟨rfl, rfl, hoke⟩)) (by unfold maxLen; omega) aD ?_); intro v80 W81 st82
    refine sg (aC (v := v80) rfl (aB (aA (rn st82 3 h73_.put.put.put [7] [(7, I ((k : Int) + 1))] [qad (k : Int) 1] aE fun f86 h86_ => (aB ?_)))))
    exact ⟨_, (y.shelf.getD (sh).toNat []).length - (k + 1), aD, rfl, k + 1, v80, aD, rfl, (h86_.to aE), (by rw [zZ aD (by have hz := h71; rw [← hek] at hz; exact hz)]; exact (by rw [hek]; exact st82))⟩
   ·refine wp_skip (aA (rn st69 3 h67_ [7] [(7, I ((k : Int) + 1))] [qad (k : Int) 1] aE fun f88 h88_ => (aB ?_)))
    exact ⟨_, (y.shelf.getD (sh).toNat []).length - (k + 1), aD, rfl, k + 1, v51, aD, rfl, (h88_.to aE), (by rw [wE aD (by have hz := h71; rw [← hek] at hz; exact hz)]; exact st69)⟩
  ·refine wp_exit (wp_seq ?_)
   have hke : k = (y.shelf.getD (sh).toNat []).length := by omega
   rw [hke, List.take_length] at st56
   have st89 := st56.f2
   have hq_ := eB st89
   obtain ⟨v90_0, v90_1, g90_0, g90_1, he90, hok90, st91⟩ := hq_
   subst he90
   have hq_ := St.lendx (α := List Entry) aX st91 (x := (y.shelf.getD (sh).toNat [])) hgd
   obtain ⟨b94, e94, pre94, cs94, post94, fi94, fr94, hPA94, hC94, st95⟩ := hq_
   have hq_ := st95.f1.uncs1
   obtain ⟨v94, he94, st100⟩ := hq_; subst he94
   have hq_ := st100.f4.shut
   obtain ⟨fp102, st103⟩ := hq_
   refine aA (rn st103 5 h62_ [] [(53, v51), (54, .pointer (some ⟨b94, pre94.length, none⟩))] [qb 5 rfl 2, qxe hPA94 (e := sh) aD] aE fun f105 h105_ => (sgn (bE (i := 0) (v := v51) (C' := [v51]) aE (h105_.at 54) (h105_.at 53) (Sl.cells (aI (st103.f2.get 1 rfl))) (Sl.one (aI (st103.f2.get 1 rfl))) st103.f2 rfl bP rfl ?_))); intro W107 st108
   refine aB (wp_seq (aA (sg (aV (cs := [I y.now, I y.seq, v90_0, v90_1]) bM rfl (h105_.at 5) (st108.get 5 rfl) rfl rfl (sgn (aM (cs := [I y.now, I y.seq, v90_0, v90_1]) (C' := [I y.now, I y.seq, v90_0, v90_1]) aE (h105_.at 4) rfl (aG rfl (aG rfl (aG (vA hPA94) (aG (Sl.one (aI (st108.f6.get 5 rfl))) bK)))) st108.f6 bP rfl ?_)))))); intro W112 st113
   refine aB (wr (eO bM rfl Tryz.results121 (h105_.at 4) (st113.get 0 rfl) rfl ?_))
   have st115 := st113.f2.cs1
   have hq_ := St.give (α := List Entry) st115.f4.f1.f3
   obtain ⟨fp119, st120⟩ := hq_
   have hfe : aZ y sh = iE y (sh).toNat ((y.shelf.getD (sh).toNat []).filter (fresh y)) := by unfold aZ; rw [(bG h32)]; rfl
   have st123 := eN (x := (iE y (sh).toNat ((y.shelf.getD (sh).toNat []).filter (fresh y)))) st120.f3.f1 (by assumption)
   rw [hfe]
   exact ⟨_, _, rfl, st123.d1.d1.d1.d1⟩
noncomputable def nG (r : Run) (task : Int) : Bool := dK r && (inB task 0 ((r.tasks.length : Int) - 1) && (match r.tasks[task.toNat]? with | some t => decide (t.state = 3) | none => false))
theorem runsB_at {r : Run} {task : Int} (h : nG r task = true) : RunIs r ∧ ∃ t, 0 ≤ task ∧ r.tasks[task.toNat]? = some t ∧ t.state = 3 := by
 unfold nG at h
 simp only [Bool.and_eq_true] at h
 obtain ⟨h1, h2, h3⟩ := h
 refine ⟨runIs.1 h1, ?_⟩
 cases hq : r.tasks[task.toNat]? with
 | none => rw [hq] at h3; cases h3
 | some t => rw [hq] at h3; exact ⟨t, (inB_iff'.1 h2).1, rfl, by simpa using h3⟩
theorem RunsS (w : World) {r : Run} {cs : List Value} {fp : List Nat} (hc : Shape.C w cs r fp) (task : Int) (hw : r.wt ≤ 1048576) :
  Calls Tryz.prog 169 #[.agg cs.toArray, I task] w fun e w' => e = .returned (.bool (nG r task)) ∧ St w w' [] := by
 have hrw : r.tasks.length ≤ r.wt := by unfold Run.wt; omega
 refine bR Tryz.func169 rfl Tryz.ntmps169 aX (wp_seq (aA (sg (aJ (cs := cs) rfl (St.start w) ?_)))); intro b1 W2 hb3 st4
 refine sg (aC (v := .bool false) rfl (aB (wp_seq (aA ?_))))
 rcases bd (dK r) with h9 | h9
 ·refine rc st4 20 Ag.nil.put.put.put.put [4] [(4, .bool false)] [qw 0 rfl (Shape.len hc), qcb Tryz.func89 rfl h9 (fun W s b => uW W (bA hc s.below))] aE fun f10 W11 h10_ st12 hb13 => (aB (wr (aL Tryz.results169 (h10_.at 4) ?_)))
  exact ⟨(fB (by unfold nG; rw [h9]; rfl)), st12.bare⟩
 ·have hk14 := hc
  obtain ⟨v14_0, v14_1, g14_0, g14_1, rfl, hok14, h14_0, h14_1, rfl⟩ := hk14
  rcases bd (inB task 0 ((r.tasks.length : Int) - 1)) with h15 | h15
  ·have h15p := cJ h15
   refine rc st4 20 Ag.nil.put.put.put.put [4] [(4, .bool false)] [qb 0 rfl 0, qcb Tryz.func89 rfl h9 (fun W s b => uW W (bA hc s.below)), qb 0 rfl 7, ql h14_1, qsb (r.tasks.length : Int) 1, qcb Tryz.func43 rfl h15 (fun W s b => cN W task 0 ((r.tasks.length : Int) - 1))] aE fun f16 W17 h16_ st18 hb19 => (aB (wr (aL Tryz.results169 (h16_.at 4) ?_)))
   exact ⟨(fB (by unfold nG; rw [h9, h15]; rfl)), st18.bare⟩
  ·have h15p := inB_iff'.1 h15
   have hi653cf : (task).toNat < r.tasks.length := aD
   have hq_ := idx h14_1 (i := (task).toNat) hi653cf
   obtain ⟨b20, o20, cs20, f20, hp20, hr20, hc20, hm20⟩ := hq_
   have hk21 := hc20
   obtain ⟨he21, rfl, hok21⟩ := hk21
   have he21 : _ = [I (r.tasks[(task).toNat]'hi653cf).state, I (r.tasks[(task).toNat]'hi653cf).need, I (r.tasks[(task).toNat]'hi653cf).try_, I (r.tasks[(task).toNat]'hi653cf).until_] := he21
   subst he21
   refine rc st4 20 Ag.nil.put.put.put.put [4] [(4, .bool (decide ((r.tasks[(task).toNat]'hi653cf).state = 3)))] [qb 0 rfl 0, qcb Tryz.func89 rfl h9 (fun W s b => uW W (bA hc s.below)), qb 0 rfl 7, ql h14_1, qsb (r.tasks.length : Int) 1, qcb Tryz.func43 rfl h15 (fun W s b => cN W task 0 ((r.tasks.length : Int) - 1)), qb 0 rfl 7, qxe hp20 (e := task) aD, qr hr20 0, .o] aE fun f22 W23 h22_ st24 hb25 => (aB ?_)
   rcases nem ((r.tasks[(task).toNat]'hi653cf).state = 3) with h26p | h26p
   ·have h26 := decide_eq_false h26p
    refine wr (aL Tryz.results169 ((h22_.at 4).trans (congrArg Value.bool h26)) ?_)
    have hB_ := h15
    have htl : task.toNat < r.tasks.length := by have := inB_iff'.1 hB_; omega
    exact ⟨(fB (by unfold nG; rw [h9, hB_]; simp only [List.getElem?_eq_getElem htl, h26, Bool.true_and])), st24.bare⟩
   ·have h26 := decide_eq_true h26p
    refine wr (aL Tryz.results169 ((h22_.at 4).trans (congrArg Value.bool h26)) ?_)
    have hB_ := h15
    have htl : task.toNat < r.tasks.length := by have := inB_iff'.1 hB_; omega
    exact ⟨(fB (by unfold nG; rw [h9, hB_]; simp only [List.getElem?_eq_getElem htl, h26, Bool.true_and])), st24.bare⟩
def bX (r r' : Run) (k : Nat) : List Int := (gW r'.tasks 2 k).filter (fun t => !decide (t ∈ bC r.tasks 2))
theorem freshTo_zero (r r' : Run) : bX r r' 0 = [] := rfl
theorem freshTo_len (r r' : Run) (k : Nat) : (bX r r' k).length ≤ k := Nat.le_trans (List.length_filter_le _ _) (kZ _ _ _)
theorem tin_mem {ts : List Task} {s : Int} {k : Nat} : (k : Int) ∈ bC ts s ↔ ∃ h : k < ts.length, ts[k].state = s := by
 unfold bC gW
 rw [List.mem_filterMap]
 constructor
 ·rintro ⟨a, ha, h⟩
  rw [List.mem_range] at ha
  split at h
  ·next e =>
   simp only [Option.some.injEq] at h
   have : a = k := by omega
   subst this
   rw [List.getElem?_eq_getElem ha] at e
   exact ⟨ha, by simpa using e⟩
  ·cases h
 ·rintro ⟨h, e⟩
  exact ⟨k, by simpa using h, by rw [if_pos (by rw [List.getElem?_eq_getElem h]; simpa using e)]⟩
theorem uF {r r' : Run} {k : Nat} (h : k < r'.tasks.length) (hs : ¬ r'.tasks[k].state = 2) : bX r r' (k + 1) = bX r r' k := by unfold bX; rw [rK h hs]
theorem freshTo_f2 {r r' : Run} {k : Nat} (h : k < r'.tasks.length) (h2 : k < r.tasks.length) (hs : r.tasks[k].state = 2) : bX r r' (k + 1) = bX r r' k := by
 by_cases hq : r'.tasks[k].state = 2
 ·unfold bX
  rw [nT h hq, List.filter_append]
  have : (k : Int) ∈ bC r.tasks 2 := tin_mem.2 ⟨h2, hs⟩
  simp [this]
 ·exact uF h hq
theorem wC {r r' : Run} {k : Nat} (h : k < r'.tasks.length) (hs : r'.tasks[k].state = 2) (hn : r.tasks.length ≤ k ∨ ∃ h2 : k < r.tasks.length, ¬ r.tasks[k].state = 2) : bX r r' (k + 1) = bX r r' k ++ [(k : Int)] := by
 unfold bX
 rw [nT h hs, List.filter_append]
 have : ¬ (k : Int) ∈ bC r.tasks 2 := fun hm => by
  obtain ⟨h2, e⟩ := tin_mem.1 hm
  rcases hn with hn | ⟨_, hn⟩
  ·omega
  ·exact hn e
 simp [this]
theorem xN {w W0 : World} {rs : List Res} {cs : List Value} {r : Run} (h0 : St w W0 rs) (h : ∀ W', St w W' rs → ∃ f, Shape.C W' cs r f) : ∃ v1 v2, cs = [I r.id, I r.plan.prio, I r.plan.most, I r.plan.wait, I r.plan.tasks, v1, I r.state, v2] ∧ r.ok ∧ (∀ W', St w W' rs → ∃ f, Sl W' v1 r.plan.edges f) ∧ (∀ W', St w W' rs → ∃ f, Sl W' v2 r.tasks f) := by
 obtain ⟨f, hc⟩ := h W0 h0
 obtain ⟨v1, v2, f1, f2, rfl, hok, h1, h2, _⟩ := hc
 refine ⟨v1, v2, rfl, hok, fun W' st => ?_, fun W' st => ?_⟩
 ·obtain ⟨f, hc⟩ := h W' st
  obtain ⟨a1, a2, g1, g2, e, _, q1, q2, _⟩ := hc
  have e1 : v1 = a1 := by have := congrArg (fun l => l.getD 5 undef) e; exact this
  rw [e1]; exact ⟨_, q1⟩
 ·obtain ⟨f, hc⟩ := h W' st
  obtain ⟨a1, a2, g1, g2, e, _, q1, q2, _⟩ := hc
  have e1 : v2 = a2 := by have := congrArg (fun l => l.getD 7 undef) e; exact this
  rw [e1]; exact ⟨_, q2⟩

theorem LayS {w W0 : World} {rs : List Res} {now seq : Int} {vs vr : Value} {xss : List (List Entry)} {fp : List Nat} {csw csr : List Value} {was r : Run} (hst : St w W0 (Res.own vs xss fp :: rs)) (hvr : vr.oneCell' = true) (hwas : ∀ W', St w W' rs → ∃ f, Shape.C W' csw was f) (hr : ∀ W', St w W' rs → ∃ f, Shape.C W' csr r f) (hss : 4 ≤ xss.length) (hrl : r.tasks.length ≤ 1000) (hln : (xss.getD (bH r.id).toNat []).length ≤ 1000000) (hsq : 0 ≤ seq ∧ seq ≤ 4000000000) :
  Calls Tryz.prog 168 #[.agg #[I now, I seq, vs, vr], .agg csw.toArray, .agg csr.toArray] W0 fun e w' => ∃ (fp' : List Nat), e = .returned (.agg #[I now, I (seq + ((jA was r).length : Int)), vs, vr]) ∧ St w w' (Res.own vs (dC (bH r.id).toNat r.plan.prio r.id (jA was r) xss seq) fp' :: rs) := by
 have hsr := iQ r.id
 have hq_ := xN (St.dropn 1 hst) hwas
 obtain ⟨v1, v2, rfl, hwok, hv1, hv2⟩ := hq_
 have hq_ := xN (St.dropn 1 hst) hr
 obtain ⟨u1, u2, rfl, hrok, hu1, hu2⟩ := hq_
 have hwl := (vE hv2 (St.dropn 1 hst)).len_le
 refine jX Tryz.func168 rfl Tryz.ntmps168 aX (wp_seq (aA (sg (aJ (cs := [I now, I seq, vs, vr]) rfl hst ?_)))); intro b1 W2 hb3 st4
 refine sg (aJ (cs := [I was.id, I was.plan.prio, I was.plan.most, I was.plan.wait, I was.plan.tasks, v1, I was.state, v2]) rfl st4 ?_); intro b6 W7 hb8 st9
 refine sg (aJ (cs := [I r.id, I r.plan.prio, I r.plan.most, I r.plan.wait, I r.plan.tasks, u1, I r.state, u2]) rfl st9 ?_); intro b11 W12 hb13 st14
 refine sg (aR fA st14 ?_); intro b16 W17 hb18 st19
 refine aB (wp_seq (aA (rc st19 4 Ag.nil.put.put.put.put.put.put.put [] [(7, I (bH r.id))] [qb 1 rfl 0, qc Tryz.func219 rfl (fun W s b => ShelfOfS W r.id)] aE fun f22 W23 h22_ st24 hb25 => (aB (wp_seq (wp_seq (aA (sg (aC (v := I 0) rfl (aB (wp_block (aY (fun (m : Nat) (f : Nat → Value) (W : World) => ∃ (k : Nat) (fo28 : List Nat), k ≤ r.tasks.length ∧ m = r.tasks.length - k ∧ Ag [(3, .pointer (some ⟨b1, 0, none⟩)), (4, .pointer (some ⟨b6, 0, none⟩)), (5, .pointer (some ⟨b11, 0, none⟩)), (6, .pointer (some ⟨b16, 0, none⟩)), (7, I (bH r.id)), (8, I (k : Int))] f ∧ St w W (Res.bx b16 [I 0, I 0, .slice none 0 0, .slice none 0 0] 34 :: Res.bx b11 [I r.id, I r.plan.prio, I r.plan.most, I r.plan.wait, I r.plan.tasks, u1, I r.state, u2] 123 :: Res.bx b6 [I was.id, I was.plan.prio, I was.plan.most, I was.plan.wait, I was.plan.tasks, v1, I was.state, v2] 123 :: Res.bx b1 [I now, I (seq + ((bX was r k).length : Int)), vs, vr] 34 :: Res.own (α := List (List Entry)) vs (dC (bH r.id).toNat r.plan.prio r.id (bX was r k) xss seq) fo28 :: rs)) (r.tasks.length - 0) ?_ ?_))))))))))))
 ·exact ⟨0, fp, Nat.zero_le _, rfl, (h22_.put.to aE), (by simpa [freshTo_zero, dC] using st24)⟩
 intro m29 f30 W31 hJ32
 obtain ⟨k, fo28, hcd34_0, rfl, hA34, st33⟩ := hJ32
 have hzl := kM (bH r.id).toNat r.plan.prio r.id (bX was r k) xss seq
 have hzg := kN (bH r.id).toNat r.plan.prio r.id (bX was r k) xss seq aD
 have hfk := freshTo_len was r k
 refine wp_seq (wp_seq (aA (rn st33 5 hA34 [] [(16, .bool (decide ((k : Int) < (r.tasks.length : Int))))] [qb 1 rfl 7, ql (vE hu2 (St.dropn 5 st33)), .o] aE fun f36 h36_ => (aB (aK (h36_.at 16) (fun h37p => ?_) (fun h37p => ?_))))))
 ·refine wp_skip (wp_seq (wp_block (wp_seq (wp_seq (aA (sg (aH jC (h36_.at 5) ?_)))))))
  have hkr : k < r.tasks.length := by omega
  have hif4d94 : k < r.tasks.length := aD
  have hq_ := idx (vE hu2 (St.dropn 5 st33)) (i := k) hif4d94
  obtain ⟨b41, o41, cs41, f41, hp41, hr41, hc41, hm41⟩ := hq_
  have hk42 := hc41
  obtain ⟨he42, rfl, hok42⟩ := hk42
  have he42 : _ = [I (r.tasks[k]'hif4d94).state, I (r.tasks[k]'hif4d94).need, I (r.tasks[k]'hif4d94).try_, I (r.tasks[k]'hif4d94).until_] := he42
  subst he42
  rcases Decidable.em ((r.tasks[k]'hif4d94).state = 2) with h43p | h43p
  ·have h43 := gS h43p
   rcases nem ((k : Int) < (was.tasks.length : Int)) with h44p | h44p
   ·have h44 := decide_eq_false h44p
    refine rn st33 22 h36_.put [] [(41, .bool false)] [qb 1 rfl 7, qx hp41, qn hr41 0, qk h43, qb 2 rfl 7, ql (vE hv2 (St.dropn 5 st33)), qk h44] aE fun f45 h45_ => (aB (gK (h45_.at 41) rfl (wp_skip (wp_seq ?_))))
    have hid5573 : (bH r.id).toNat < (dC (bH r.id).toNat r.plan.prio r.id (bX was r k) xss seq).length := (List.getElem?_eq_some_iff.1 (getD_some (xss := dC (bH r.id).toNat r.plan.prio r.id (bX was r k) xss seq) (k := (bH r.id).toNat) aD)).1
    have hq_ := gT (aI (st33.get 4 rfl)) (i := (bH r.id).toNat) (getD_some (xss := dC (bH r.id).toNat r.plan.prio r.id (bX was r k) xss seq) (k := (bH r.id).toNat) aD)
    obtain ⟨b46, o46, cs46, f46, hp46, hr46, hc46, hm46⟩ := hq_
    have hk46 := hc46
    obtain ⟨v47, rfl, h48⟩ := hk46
    refine eX 18 [17] [[], [17]] [[(0, 1)]] (w1 := W31) (rs := Res.bx b16 [I 0, I 0, .slice none 0 0, .slice none 0 0] 34 :: Res.bx b11 [I r.id, I r.plan.prio, I r.plan.most, I r.plan.wait, I r.plan.tasks, u1, I r.state, u2] 123 :: Res.bx b6 [I was.id, I was.plan.prio, I was.plan.most, I was.plan.wait, I was.plan.tasks, v1, I was.state, v2] 123 :: Res.bx b1 [I now, I (seq + ((bX was r k).length : Int)), vs, vr] 34 :: Res.own (α := List (List Entry)) vs (dC (bH r.id).toNat r.plan.prio r.id (bX was r k) xss seq) fo28 :: rs) (fun q => match q with | 0 => Cp.fr (ι := Unit) (fun _ => []) (fun _ => []) | _ => Cp.fr (ι := Value × List Nat) (fun ⟨v50, fp50⟩ => [v50]) (fun ⟨v50, fp50⟩ => [Res.own (α := List Entry) v50 (jF ((dC (bH r.id).toNat r.plan.prio r.id (bX was r k) xss seq).getD (bH r.id).toNat []) (⟨r.plan.prio, seq + ((bX was r k).length : Int), r.id, (k : Int)⟩ : Entry)) fp50])) [Pq.is (.pointer (some ⟨b1, 0 + 2, none⟩)), Pq.is (vs) (Sl.yl (aI (st33.get 4 rfl))), Pq.is (I (bH r.id)), Pq.is (.pointer (some ⟨b1, 0 + 2, none⟩)), Pq.is (vs) (Sl.yl (aI (st33.get 4 rfl))), Pq.is (I (bH r.id)), Pq.is (.pointer (some ⟨b46, o46, none⟩)), Pq.is (v47) (Sl.yl h48), Pq.is (.pointer (some ⟨b11, 0 + 1, none⟩)), Pq.is (.pointer (some ⟨b11, 0 + 1 + 0, none⟩)), Pq.is (I r.plan.prio), Pq.is (.pointer (some ⟨b1, 0 + 1, none⟩)), Pq.is (I (seq + ((bX was r k).length : Int))), Pq.is (.pointer (some ⟨b11, 0 + 0, none⟩)), Pq.is (I r.id), Pq.is (I (k : Int)), Pq.is (.agg #[I r.plan.prio, I (seq + ((bX was r k).length : Int)), I r.id, I (k : Int)]), Pq.none] mix (by rfl) (by rfl) (by rfl) ⟨(), rfl, st33, (Below.refl _ _)⟩ (by rfl) ⟨(fun f W hst hbl hd hf => aH eE ((hf 3 rfl).trans (h45_.at 3)) brq), (fun f W hst hbl hd hf => aU eG rfl (hd 0 42 rfl rfl) (hst.get 3 rfl) (i := 2) rfl rfl brq), (fun f W hst hbl hd hf => aF (v := I (bH r.id)) ((hf 7 rfl).trans (h45_.at 7)) brq), (fun f W hst hbl hd hf => aH eE ((hf 3 rfl).trans (h45_.at 3)) brq), (fun f W hst hbl hd hf => aU eG rfl (hd 3 45 rfl rfl) (hst.get 3 rfl) (i := 2) rfl rfl brq), (fun f W hst hbl hd hf => aF (v := I (bH r.id)) ((hf 7 rfl).trans (h45_.at 7)) brq), (fun f W hst hbl hd hf => aN eM (hd 4 46 rfl rfl) hp46 (hd 5 47 rfl rfl) aD brq), (fun f W hst hbl hd hf => eV iS rfl (hd 6 48 rfl rfl) hr46 hbl (i := 0) rfl rfl brq), (fun f W hst hbl hd hf => aH jU ((hf 5 rfl).trans (h45_.at 5)) brq), (fun f W hst hbl hd hf => aH rX (hd 8 50 rfl rfl) brq), (fun f W hst hbl hd hf => aU eF rfl (hd 9 51 rfl rfl) (hst.get 1 rfl) (i := 1) rfl rfl brq), (fun f W hst hbl hd hf => aH rW ((hf 3 rfl).trans (h45_.at 3)) brq), (fun f W hst hbl hd hf => aU eF rfl (hd 11 53 rfl rfl) (hst.get 3 rfl) (i := 1) rfl rfl brq), (fun f W hst hbl hd hf => aH qX ((hf 5 rfl).trans (h45_.at 5)) brq), (fun f W hst hbl hd hf => aU eF rfl (hd 13 55 rfl rfl) (hst.get 1 rfl) (i := 0) rfl rfl brq), (fun f W hst hbl hd hf => aF (v := I (k : Int)) ((hf 8 rfl).trans (h45_.at 8)) brq), (fun f W hst hbl hd hf => eJ (vs := [(0, I r.plan.prio), (1, I (seq + ((bX was r k).length : Int))), (2, I r.id), (3, I (k : Int))]) (cs := [I r.plan.prio, I (seq + ((bX was r k).length : Int)), I r.id, I (k : Int)]) (cY (v := I r.plan.prio) (hd 10 52 rfl rfl) (cY (v := I (seq + ((bX was r k).length : Int))) (hd 12 54 rfl rfl) (cY (v := I r.id) (hd 14 56 rfl rfl) (cY (v := I (k : Int)) (hd 15 57 rfl rfl) eA)))) aE brq), ⟨rfl, ?_, True.intro⟩, trivial⟩ ?_
    ·intro f W hC hd hf
     have hC_ := hC
     obtain ⟨_, hu, st49, hbl⟩ := hC_
     try dsimp only [cap_, dP] at st49
     refine (bJ Tryz.func187 rfl (hd 7 49 rfl rfl) (hd 16 58 rfl rfl) ((sC W (h48.below hbl) (show Shape.C _ [I r.plan.prio, I (seq + ((bX was r k).length : Int)), I r.id, I (k : Int)] (⟨r.plan.prio, seq + ((bX was r k).length : Int), r.id, (k : Int)⟩ : Entry) [] from ⟨rfl, rfl, eS⟩) aD).mono ?_)); rintro _ W52 ⟨v50, fp50, rfl, hk53⟩; refine ⟨_, rfl, ?_⟩
     have st54 := St.call st49 hk53
     exact ⟨⟨(v50, fp50), (ce rfl rfl), st54, (hbl.trans (Below.mono hk53.below hbl.size))⟩, Sl.yl (aI (st54.get 0 rfl))⟩
    intro f56 W57 hC hv58 hf59
    have hC_ := hC
    obtain ⟨⟨v50, fp50⟩, hu, st60, hbl61⟩ := hC_
    try dsimp only [cap_, dP] at st60
    have hu62 : f56 59 = v50 := congrArg (fun l => l.getD 0 undef) hu
    have st64 := st60.f5
    have hq_ := St.lendx (α := List Entry) aX st64 (x := (dC (bH r.id).toNat r.plan.prio r.id (bX was r k) xss seq).getD (bH r.id).toNat []) (getD_some aD)
    obtain ⟨b65, e65, pre65, cs65, post65, fi65, fr65, hPA65, hC65, st66⟩ := hq_
    have hq_ := st66.f1.uncs1
    obtain ⟨v65, he65, st71⟩ := hq_; subst he65
    refine sg (aN eM (hv58 1 43 aX rfl) hPA65 (hv58 2 44 aX rfl) aD (sgn (bE (i := 0) (v := v50) (C' := [v50]) aE rfl hu62 (Sl.cells (aI (st71.f1.get 3 rfl))) (Sl.one (aI (st71.f1.get 3 rfl))) st71.f1 rfl bP rfl ?_))); intro W75 st76
    refine aB (aA (rn st76 4 (Ag.cons (show f56 3 = .pointer (some ⟨b1, 0, none⟩) from ((hf59 3 rfl).trans (h45_.at 3))) (Ag.cons (show f56 4 = .pointer (some ⟨b6, 0, none⟩) from ((hf59 4 rfl).trans (h45_.at 4))) (Ag.cons (show f56 5 = .pointer (some ⟨b11, 0, none⟩) from ((hf59 5 rfl).trans (h45_.at 5))) (Ag.cons (show f56 6 = .pointer (some ⟨b16, 0, none⟩) from ((hf59 6 rfl).trans (h45_.at 6))) (Ag.cons (show f56 7 = I (bH r.id) from ((hf59 7 rfl).trans (h45_.at 7))) (Ag.cons (show f56 8 = I (k : Int) from ((hf59 8 rfl).trans (h45_.at 8))) Ag.nil)))))).put [] [(63, I ((seq + ((bX was r k).length : Int)) + 1)), (64, .pointer (some ⟨b1, 1, none⟩))] [qb 7 rfl 1, qad (seq + ((bX was r k).length : Int)) 1] aE fun f78 h78_ => (sgn (aQ (v := I ((seq + ((bX was r k).length : Int)) + 1)) (C' := [I now, I ((seq + ((bX was r k).length : Int)) + 1), vs, vr]) aE (h78_.at 64) (h78_.at 63) rfl rfl st76.f7 bP rfl ?_)))); intro W80 st81
    refine aB (aA (rn st81 3 h78_ [8] [(8, I ((k : Int) + 1))] [qad (k : Int) 1] aE fun f83 h83_ => (aB ?_)))
    have st85 := st81.f4.cs1
    have hq_ := St.give (α := List Entry) st85.f4.f1.f3
    obtain ⟨fp89, st90⟩ := hq_
    exact ⟨_, r.tasks.length - (k + 1), aD, rfl, k + 1, fp89, aD, rfl, (h83_.to aE), (by rw [wC aD h43p (.inl aD), lC, List.length_append, List.length_singleton, show seq + (((bX was r k).length + 1 : Nat) : Int) = seq + ((bX was r k).length : Int) + 1 by omega]; exact st90.f1.f5.f5.f5.d5)⟩
   ·have h44 := decide_eq_true h44p
    have hie3f05 : k < was.tasks.length := aD
    have hq_ := idx (vE hv2 (St.dropn 5 st33)) (i := k) hie3f05
    obtain ⟨b96, o96, cs96, f96, hp96, hr96, hc96, hm96⟩ := hq_
    have hk97 := hc96
    obtain ⟨he97, rfl, hok97⟩ := hk97
    have he97 : _ = [I (was.tasks[k]'hie3f05).state, I (was.tasks[k]'hie3f05).need, I (was.tasks[k]'hie3f05).try_, I (was.tasks[k]'hie3f05).until_] := he97
    subst he97
    refine rn st33 22 h36_.put [] [(41, .bool (decide ((was.tasks[k]'hie3f05).state = 2)))] [qb 1 rfl 7, qx hp41, qn hr41 0, qk h43, qb 2 rfl 7, ql (vE hv2 (St.dropn 5 st33)), qk h44, qb 2 rfl 7, qx hp96, qn hr96 0, .o] aE fun f98 h98_ => (aB (aK (h98_.at 41) (fun h99p => ?_) (fun h99p => ?_)))
    ·refine wp_exit (aA (rn st33 3 h98_ [8] [(8, I ((k : Int) + 1))] [qad (k : Int) 1] aE fun f101 h101_ => (aB ?_)))
     exact ⟨_, r.tasks.length - (k + 1), aD, rfl, k + 1, fo28, aD, rfl, (h101_.to aE), (by rw [freshTo_f2 aD aD h99p]; exact st33)⟩
    ·refine wp_skip (wp_seq ?_)
     have hid5573 : (bH r.id).toNat < (dC (bH r.id).toNat r.plan.prio r.id (bX was r k) xss seq).length := (List.getElem?_eq_some_iff.1 (getD_some (xss := dC (bH r.id).toNat r.plan.prio r.id (bX was r k) xss seq) (k := (bH r.id).toNat) aD)).1
     have hq_ := gT (aI (st33.get 4 rfl)) (i := (bH r.id).toNat) (getD_some (xss := dC (bH r.id).toNat r.plan.prio r.id (bX was r k) xss seq) (k := (bH r.id).toNat) aD)
     obtain ⟨b102, o102, cs102, f102, hp102, hr102, hc102, hm102⟩ := hq_
     have hk102 := hc102
     obtain ⟨v103, rfl, h104⟩ := hk102
     refine eX 18 [17] [[], [17]] [[(0, 1)]] (w1 := W31) (rs := Res.bx b16 [I 0, I 0, .slice none 0 0, .slice none 0 0] 34 :: Res.bx b11 [I r.id, I r.plan.prio, I r.plan.most, I r.plan.wait, I r.plan.tasks, u1, I r.state, u2] 123 :: Res.bx b6 [I was.id, I was.plan.prio, I was.plan.most, I was.plan.wait, I was.plan.tasks, v1, I was.state, v2] 123 :: Res.bx b1 [I now, I (seq + ((bX was r k).length : Int)), vs, vr] 34 :: Res.own (α := List (List Entry)) vs (dC (bH r.id).toNat r.plan.prio r.id (bX was r k) xss seq) fo28 :: rs) (fun q => match q with | 0 => Cp.fr (ι := Unit) (fun _ => []) (fun _ => []) | _ => Cp.fr (ι := Value × List Nat) (fun ⟨v106, fp106⟩ => [v106]) (fun ⟨v106, fp106⟩ => [Res.own (α := List Entry) v106 (jF ((dC (bH r.id).toNat r.plan.prio r.id (bX was r k) xss seq).getD (bH r.id).toNat []) (⟨r.plan.prio, seq + ((bX was r k).length : Int), r.id, (k : Int)⟩ : Entry)) fp106])) [Pq.is (.pointer (some ⟨b1, 0 + 2, none⟩)), Pq.is (vs) (Sl.yl (aI (st33.get 4 rfl))), Pq.is (I (bH r.id)), Pq.is (.pointer (some ⟨b1, 0 + 2, none⟩)), Pq.is (vs) (Sl.yl (aI (st33.get 4 rfl))), Pq.is (I (bH r.id)), Pq.is (.pointer (some ⟨b102, o102, none⟩)), Pq.is (v103) (Sl.yl h104), Pq.is (.pointer (some ⟨b11, 0 + 1, none⟩)), Pq.is (.pointer (some ⟨b11, 0 + 1 + 0, none⟩)), Pq.is (I r.plan.prio), Pq.is (.pointer (some ⟨b1, 0 + 1, none⟩)), Pq.is (I (seq + ((bX was r k).length : Int))), Pq.is (.pointer (some ⟨b11, 0 + 0, none⟩)), Pq.is (I r.id), Pq.is (I (k : Int)), Pq.is (.agg #[I r.plan.prio, I (seq + ((bX was r k).length : Int)), I r.id, I (k : Int)]), Pq.none] mix (by rfl) (by rfl) (by rfl) ⟨(), rfl, st33, (Below.refl _ _)⟩ (by rfl) ⟨(fun f W hst hbl hd hf => aH eE ((hf 3 rfl).trans (h98_.at 3)) brq), (fun f W hst hbl hd hf => aU eG rfl (hd 0 42 rfl rfl) (hst.get 3 rfl) (i := 2) rfl rfl brq), (fun f W hst hbl hd hf => aF (v := I (bH r.id)) ((hf 7 rfl).trans (h98_.at 7)) brq), (fun f W hst hbl hd hf => aH eE ((hf 3 rfl).trans (h98_.at 3)) brq), (fun f W hst hbl hd hf => aU eG rfl (hd 3 45 rfl rfl) (hst.get 3 rfl) (i := 2) rfl rfl brq), (fun f W hst hbl hd hf => aF (v := I (bH r.id)) ((hf 7 rfl).trans (h98_.at 7)) brq), (fun f W hst hbl hd hf => aN eM (hd 4 46 rfl rfl) hp102 (hd 5 47 rfl rfl) aD brq), (fun f W hst hbl hd hf => eV iS rfl (hd 6 48 rfl rfl) hr102 hbl (i := 0) rfl rfl brq), (fun f W hst hbl hd hf => aH jU ((hf 5 rfl).trans (h98_.at 5)) brq), (fun f W hst hbl hd hf => aH rX (hd 8 50 rfl rfl) brq), (fun f W hst hbl hd hf => aU eF rfl (hd 9 51 rfl rfl) (hst.get 1 rfl) (i := 1) rfl rfl brq), (fun f W hst hbl hd hf => aH rW ((hf 3 rfl).trans (h98_.at 3)) brq), (fun f W hst hbl hd hf => aU eF rfl (hd 11 53 rfl rfl) (hst.get 3 rfl) (i := 1) rfl rfl brq), (fun f W hst hbl hd hf => aH qX ((hf 5 rfl).trans (h98_.at 5)) brq), (fun f W hst hbl hd hf => aU eF rfl (hd 13 55 rfl rfl) (hst.get 1 rfl) (i := 0) rfl rfl brq), (fun f W hst hbl hd hf => aF (v := I (k : Int)) ((hf 8 rfl).trans (h98_.at 8)) brq), (fun f W hst hbl hd hf => eJ (vs := [(0, I r.plan.prio), (1, I (seq + ((bX was r k).length : Int))), (2, I r.id), (3, I (k : Int))]) (cs := [I r.plan.prio, I (seq + ((bX was r k).length : Int)), I r.id, I (k : Int)]) (cY (v := I r.plan.prio) (hd 10 52 rfl rfl) (cY (v := I (seq + ((bX was r k).length : Int))) (hd 12 54 rfl rfl) (cY (v := I r.id) (hd 14 56 rfl rfl) (cY (v := I (k : Int)) (hd 15 57 rfl rfl) eA)))) aE brq), ⟨rfl, ?_, True.intro⟩, trivial⟩ ?_
     ·intro f W hC hd hf
      have hC_ := hC
      obtain ⟨_, hu, st105, hbl⟩ := hC_
      try dsimp only [cap_, dP] at st105
      refine (bJ Tryz.func187 rfl (hd 7 49 rfl rfl) (hd 16 58 rfl rfl) ((sC W (h104.below hbl) (show Shape.C _ [I r.plan.prio, I (seq + ((bX was r k).length : Int)), I r.id, I (k : Int)] (⟨r.plan.prio, seq + ((bX was r k).length : Int), r.id, (k : Int)⟩ : Entry) [] from ⟨rfl, rfl, eS⟩) aD).mono ?_)); rintro _ W108 ⟨v106, fp106, rfl, hk109⟩; refine ⟨_, rfl, ?_⟩
      have st110 := St.call st105 hk109
      exact ⟨⟨(v106, fp106), (ce rfl rfl), st110, (hbl.trans (Below.mono hk109.below hbl.size))⟩, Sl.yl (aI (st110.get 0 rfl))⟩
     intro f112 W113 hC hv114 hf115
     have hC_ := hC
     obtain ⟨⟨v106, fp106⟩, hu, st116, hbl117⟩ := hC_
     try dsimp only [cap_, dP] at st116
     have hu118 : f112 59 = v106 := congrArg (fun l => l.getD 0 undef) hu
     have st120 := st116.f5
     have hq_ := St.lendx (α := List Entry) aX st120 (x := (dC (bH r.id).toNat r.plan.prio r.id (bX was r k) xss seq).getD (bH r.id).toNat []) (getD_some aD)
     obtain ⟨b121, e121, pre121, cs121, post121, fi121, fr121, hPA121, hC121, st122⟩ := hq_
     have hq_ := st122.f1.uncs1
     obtain ⟨v121, he121, st127⟩ := hq_; subst he121
     refine sg (aN eM (hv114 1 43 aX rfl) hPA121 (hv114 2 44 aX rfl) aD (sgn (bE (i := 0) (v := v106) (C' := [v106]) aE rfl hu118 (Sl.cells (aI (st127.f1.get 3 rfl))) (Sl.one (aI (st127.f1.get 3 rfl))) st127.f1 rfl bP rfl ?_))); intro W131 st132
     refine aB (aA (rn st132 4 (Ag.cons (show f112 3 = .pointer (some ⟨b1, 0, none⟩) from ((hf115 3 rfl).trans (h98_.at 3))) (Ag.cons (show f112 4 = .pointer (some ⟨b6, 0, none⟩) from ((hf115 4 rfl).trans (h98_.at 4))) (Ag.cons (show f112 5 = .pointer (some ⟨b11, 0, none⟩) from ((hf115 5 rfl).trans (h98_.at 5))) (Ag.cons (show f112 6 = .pointer (some ⟨b16, 0, none⟩) from ((hf115 6 rfl).trans (h98_.at 6))) (Ag.cons (show f112 7 = I (bH r.id) from ((hf115 7 rfl).trans (h98_.at 7))) (Ag.cons (show f112 8 = I (k : Int) from ((hf115 8 rfl).trans (h98_.at 8))) Ag.nil)))))).put [] [(63, I ((seq + ((bX was r k).length : Int)) + 1)), (64, .pointer (some ⟨b1, 1, none⟩))] [qb 7 rfl 1, qad (seq + ((bX was r k).length : Int)) 1] aE fun f134 h134_ => (sgn (aQ (v := I ((seq + ((bX was r k).length : Int)) + 1)) (C' := [I now, I ((seq + ((bX was r k).length : Int)) + 1), vs, vr]) aE (h134_.at 64) (h134_.at 63) rfl rfl st132.f7 bP rfl ?_)))); intro W136 st137
     refine aB (aA (rn st137 3 h134_ [8] [(8, I ((k : Int) + 1))] [qad (k : Int) 1] aE fun f139 h139_ => (aB ?_)))
     have st141 := st137.f4.cs1
     have hq_ := St.give (α := List Entry) st141.f4.f1.f3
     obtain ⟨fp145, st146⟩ := hq_
     exact ⟨_, r.tasks.length - (k + 1), aD, rfl, k + 1, fp145, aD, rfl, (h139_.to aE), (by rw [wC aD h43p (.inr ⟨by omega, h99p⟩), lC, List.length_append, List.length_singleton, show seq + (((bX was r k).length + 1 : Nat) : Int) = seq + ((bX was r k).length : Int) + 1 by omega]; exact st146.f1.f5.f5.f5.d5)⟩
  ·have h43 := gR h43p
   refine rn st33 22 h36_.put [] [(41, .bool true)] [qb 1 rfl 7, qx hp41, qn hr41 0, qk h43] aE fun f152 h152_ => (aB (fH (h152_.at 41) rfl (wp_exit (aA (rn st33 3 h152_ [8] [(8, I ((k : Int) + 1))] [qad (k : Int) 1] aE fun f154 h154_ => (aB ?_))))))
   exact ⟨_, r.tasks.length - (k + 1), aD, rfl, k + 1, fo28, aD, rfl, (h154_.to aE), (by rw [uF aD h43p]; exact st33)⟩
 ·refine wp_exit (wp_seq (aA (sg (aV (cs := [I now, I (seq + ((bX was r k).length : Int)), vs, vr]) bM rfl (h36_.at 3) (st33.get 3 rfl) rfl rfl (sgn (aM (cs := [I now, I (seq + ((bX was r k).length : Int)), vs, vr]) (C' := [I now, I (seq + ((bX was r k).length : Int)), vs, vr]) aE (h36_.at 6) rfl (aG rfl (aG rfl (aG (Sl.one (aI (st33.get 4 rfl))) (aG hvr bK)))) st33 bP rfl ?_)))))); intro W157 st158
  refine aB (wr (eO bM rfl Tryz.results168 (h36_.at 6) (st158.get 0 rfl) rfl ?_))
  have hke : k = r.tasks.length := by omega
  have hfe : bX was r k = jA was r := by rw [hke]; rfl
  rw [hfe] at st158
  have st159 := st158.f4
  exact ⟨_, by rw [← hfe], st159.d1.d1.d1.d1⟩
theorem HoldsI_n (w : World) {y : Yard} {cs : List Value} {fp : List Nat} (hc : Shape.C w cs y fp) (id task try_ : Int) (hw : y.wt ≤ 1048576) (hix : dY y id = none) :
  Calls Tryz.prog 109 #[.agg cs.toArray, I id, I task, I try_] w fun e w' => e = .returned (.bool (fR y id task try_)) ∧ St w w' [] := by
 refine nO Tryz.func109 rfl Tryz.ntmps109 aX (wp_seq (aA (sg (aJ (cs := cs) rfl (St.start w) ?_)))); intro b1 W2 hb3 st4
 refine sg (aC (v := .bool false) rfl (aB (wp_seq (aA (rc st4 4 Ag.nil.put.put.put.put.put.put [] [(9, I (-1))] [qw 0 rfl (Shape.len hc), qc Tryz.func98 rfl (fun W s b => yR W (bA hc s.below) id hw hix)] aE fun f9 W10 h9_ st11 hb12 => (aB (wp_seq (wp_seq (aA ?_)))))))))
 rcases nem ((-1) < 0) with h14p | h14p
 ·have h14 := decide_eq_false h14p
  omega
 ·have h14 := decide_eq_true h14p
  refine rn st11 15 h9_ [] [(28, .bool true)] [qk h14] aE fun f15 h15_ => (aB (fH (h15_.at 28) rfl (wp_seq (aA (sg (aC (v := .bool false) rfl (aB (wr (aL Tryz.results109 rfl ?_)))))))))
  exact ⟨(fB (by unfold fR; rw [hix])), st11.bare⟩
theorem HoldsI_s (w : World) {y : Yard} {cs : List Value} {fp : List Nat} (hc : Shape.C w cs y fp) (id task try_ : Int) (hw : y.wt ≤ 1048576) {i : Nat} (hix : dY y id = some i) :
  Calls Tryz.prog 109 #[.agg cs.toArray, I id, I task, I try_] w fun e w' => e = .returned (.bool (fR y id task try_)) ∧ St w w' [] := by
 have hil := qG hix
 have hyk := jQ hil
 have hrw : y.runs[i].tasks.length ≤ y.runs[i].wt := by unfold Run.wt; omega
 refine nO Tryz.func109 rfl Tryz.ntmps109 aX (wp_seq (aA (sg (aJ (cs := cs) rfl (St.start w) ?_)))); intro b1 W2 hb3 st4
 refine sg (aC (v := .bool false) rfl (aB (wp_seq (aA (rc st4 4 Ag.nil.put.put.put.put.put.put [] [(9, I (i : Int))] [qw 0 rfl (Shape.len hc), qc Tryz.func98 rfl (fun W s b => rI W (bA hc s.below) id hw hix)] aE fun f9 W10 h9_ st11 hb12 => (aB (wp_seq (wp_seq (aA ?_)))))))))
 rcases nem ((i : Int) < 0) with h14p | h14p
 ·have h14 := decide_eq_false h14p
  have hk15 := hc
  obtain ⟨v15_0, v15_1, g15_0, g15_1, rfl, hok15, h15_0, h15_1, rfl⟩ := hk15
  have hia2a90 : i < y.runs.length := aD
  have hq_ := idx h15_1 (i := i) hia2a90
  obtain ⟨b16, o16, cs16, f16, hp16, hr16, hc16, hm16⟩ := hq_
  have hk17 := hc16
  obtain ⟨v17_0, v17_1, g17_0, g17_1, rfl, hok17, h17_0, h17_1, rfl⟩ := hk17
  refine rc st11 15 h9_ [] [(28, .bool (!(inB task 0 (((y.runs[i]'hia2a90).tasks.length : Int) - 1))))] [qk h14, qb 0 rfl 3, qx hp16, qr hr16 7, ql h17_1, qsb ((y.runs[i]'hia2a90).tasks.length : Int) 1, qc (args := [I task, I 0, I (((y.runs[i]'hia2a90).tasks.length : Int) - 1)]) (v := .bool (inB task 0 (((y.runs[i]'hia2a90).tasks.length : Int) - 1))) Tryz.func47 rfl (fun W s b => bZ W task 0 (((y.runs[i]'hia2a90).tasks.length : Int) - 1)), .o] aE fun f18 W19 h18_ st20 hb21 => (aB (cT (h18_.at 28) (fun h22 => ?_) (fun h22 => ?_)))
  ·have h22p := cJ (aW h22)
   refine wp_seq (aA (sg (aC (v := .bool false) rfl (aB (wr (aL Tryz.results109 rfl ?_))))))
   exact ⟨(fB (by unfold fR; rw [hix]; simp only [List.getElem?_eq_getElem hil, (aW h22), Bool.false_and])), st20.bare⟩
  ·have h22p := inB_iff'.1 (bG h22)
   refine wp_skip (wp_seq (aA ?_))
   have hi14f77 : (task).toNat < (y.runs[i]'hia2a90).tasks.length := aD
   have hq_ := idx h17_1 (i := (task).toNat) hi14f77
   obtain ⟨b26, o26, cs26, f26, hp26, hr26, hc26, hm26⟩ := hq_
   refine rn st20 9 h18_ [] [(37, .agg cs26.toArray)] [qb 0 rfl 3, qx hp16, qr hr16 7, qxe hp26 (e := task) aD, qrw hr26 (Shape.len hc26)] aE fun f27 h27_ => (sg (aR kA st20 ?_)); intro b28 W29 hb30 st31
   refine sgn (aO (cs := cs26) kG hc26 rfl (h27_.at 37) st31 rfl ?_); intro W33 st34
   refine aB (wp_seq (aA ?_))
   have hk36 := hc26
   obtain ⟨he36, rfl, hok36⟩ := hk36
   have he36 : _ = [I ((y.runs[i]'hia2a90).tasks[(task).toNat]'hi14f77).state, I ((y.runs[i]'hia2a90).tasks[(task).toNat]'hi14f77).need, I ((y.runs[i]'hia2a90).tasks[(task).toNat]'hi14f77).try_, I ((y.runs[i]'hia2a90).tasks[(task).toNat]'hi14f77).until_] := he36
   subst he36
   rcases nem (((y.runs[i]'hia2a90).tasks[(task).toNat]'hi14f77).state = 3) with h37p | h37p
   ·have h37 := decide_eq_false h37p
    refine rn st34 10 h27_.put [8] [(8, .bool false)] [qb 0 rfl 0, qk h37] aE fun f38 h38_ => (aB (wr (aL Tryz.results109 (h38_.at 8) ?_)))
    have hB_ := (bG h22)
    have htl : task.toNat < y.runs[i].tasks.length := by omega
    exact ⟨(fB (by unfold fR; rw [hix]; simp only [List.getElem?_eq_getElem hil, List.getElem?_eq_getElem htl, hB_, h37, Bool.true_and, Bool.and_true, Bool.false_and, Bool.and_false])), st34.bare⟩
   ·have h37 := decide_eq_true h37p
    refine rn st34 10 h27_.put [8] [(8, .bool (decide (((y.runs[i]'hia2a90).tasks[(task).toNat]'hi14f77).try_ = try_)))] [qb 0 rfl 0, qk h37, qb 0 rfl 2, .o] aE fun f39 h39_ => (aB ?_)
    rcases nem (((y.runs[i]'hia2a90).tasks[(task).toNat]'hi14f77).try_ = try_) with h40p | h40p
    ·have h40 := decide_eq_false h40p
     refine wr (aL Tryz.results109 ((h39_.at 8).trans (congrArg Value.bool h40)) ?_)
     have hB_ := (bG h22)
     have htl : task.toNat < y.runs[i].tasks.length := by omega
     exact ⟨(fB (by unfold fR; rw [hix]; simp only [List.getElem?_eq_getElem hil, List.getElem?_eq_getElem htl, hB_, h37, h40, Bool.true_and, Bool.and_true, Bool.false_and, Bool.and_false])), st34.bare⟩
    ·have h40 := decide_eq_true h40p
     refine wr (aL Tryz.results109 ((h39_.at 8).trans (congrArg Value.bool h40)) ?_)
     have hB_ := (bG h22)
     have htl : task.toNat < y.runs[i].tasks.length := by omega
     exact ⟨(fB (by unfold fR; rw [hix]; simp only [List.getElem?_eq_getElem hil, List.getElem?_eq_getElem htl, hB_, h37, h40, Bool.true_and, Bool.and_true, Bool.false_and, Bool.and_false])), st34.bare⟩
 ·have h14 := decide_eq_true h14p
  omega
theorem HoldsI (w : World) {y : Yard} {cs : List Value} {fp : List Nat} (hc : Shape.C w cs y fp) (id task try_ : Int) (hw : y.wt ≤ 1048576)  :
  Calls Tryz.prog 109 #[.agg cs.toArray, I id, I task, I try_] w fun e w' => e = .returned (.bool (fR y id task try_)) ∧ St w w' [] := by
 cases hix : dY y id with
 | none => exact HoldsI_n w hc id task try_ hw hix
 | some i => exact HoldsI_s w hc id task try_ hw hix
theorem HoldsS_n (w : World) {y : Yard} {cs : List Value} {fp : List Nat} (hc : Shape.C w cs y fp) (id task try_ : Int) (hw : y.wt ≤ 1048576) (hix : dY y id = none) :
  Calls Tryz.prog 184 #[.agg cs.toArray, I id, I task, I try_] w fun e w' => e = .returned (.bool (fR y id task try_)) ∧ St w w' [] := by
 refine nO Tryz.func184 rfl Tryz.ntmps184 aX (wp_seq (aA (sg (aJ (cs := cs) rfl (St.start w) ?_)))); intro b1 W2 hb3 st4
 refine sg (aC (v := .bool false) rfl (aB (wp_seq (aA (rc st4 4 Ag.nil.put.put.put.put.put.put [] [(9, I (-1))] [qw 0 rfl (Shape.len hc), qc Tryz.func90 rfl (fun W s b => yQ W (bA hc s.below) id hw hix)] aE fun f9 W10 h9_ st11 hb12 => (aB (wp_seq (aA ?_))))))))
 rcases nem (0 ≤ (-1)) with h14p | h14p
 ·have h14 := decide_eq_false h14p
  refine rn st11 42 h9_ [8] [(8, .bool false)] [qk h14] aE fun f15 h15_ => (aB (wr (aL Tryz.results184 (h15_.at 8) ?_)))
  exact ⟨(fB (by unfold fR; rw [hix])), st11.bare⟩
 ·have h14 := decide_eq_true h14p
  omega
theorem HoldsS_s (w : World) {y : Yard} {cs : List Value} {fp : List Nat} (hc : Shape.C w cs y fp) (id task try_ : Int) (hw : y.wt ≤ 1048576) {i : Nat} (hix : dY y id = some i) :
  Calls Tryz.prog 184 #[.agg cs.toArray, I id, I task, I try_] w fun e w' => e = .returned (.bool (fR y id task try_)) ∧ St w w' [] := by
 have hil := qG hix
 have hyk := jQ hil
 have hrw : y.runs[i].tasks.length ≤ y.runs[i].wt := by unfold Run.wt; omega
 refine nO Tryz.func184 rfl Tryz.ntmps184 aX (wp_seq (aA (sg (aJ (cs := cs) rfl (St.start w) ?_)))); intro b1 W2 hb3 st4
 refine sg (aC (v := .bool false) rfl (aB (wp_seq (aA (rc st4 4 Ag.nil.put.put.put.put.put.put [] [(9, I (i : Int))] [qw 0 rfl (Shape.len hc), qc Tryz.func90 rfl (fun W s b => rH W (bA hc s.below) id hw hix)] aE fun f9 W10 h9_ st11 hb12 => (aB (wp_seq (aA ?_))))))))
 rcases nem (0 ≤ (i : Int)) with h14p | h14p
 ·have h14 := decide_eq_false h14p
  omega
 ·have h14 := decide_eq_true h14p
  have hk15 := hc
  obtain ⟨v15_0, v15_1, g15_0, g15_1, rfl, hok15, h15_0, h15_1, rfl⟩ := hk15
  have hia2a90 : i < y.runs.length := aD
  have hq_ := idx h15_1 (i := i) hia2a90
  obtain ⟨b16, o16, cs16, f16, hp16, hr16, hc16, hm16⟩ := hq_
  have hk17 := hc16
  obtain ⟨v17_0, v17_1, g17_0, g17_1, rfl, hok17, h17_0, h17_1, rfl⟩ := hk17
  rcases bd (inB task 0 (((y.runs[i]'hia2a90).tasks.length : Int) - 1)) with h18 | h18
  ·have h18p := cJ h18
   refine rc st11 42 h9_ [8] [(8, .bool false)] [qk h14, qb 0 rfl 3, qx hp16, qr hr16 7, ql h17_1, qsb ((y.runs[i]'hia2a90).tasks.length : Int) 1, qcb (args := [I task, I 0, I (((y.runs[i]'hia2a90).tasks.length : Int) - 1)]) Tryz.func43 rfl h18 (fun W s b => cN W task 0 (((y.runs[i]'hia2a90).tasks.length : Int) - 1))] aE fun f19 W20 h19_ st21 hb22 => (aB (wr (aL Tryz.results184 (h19_.at 8) ?_)))
   exact ⟨(fB (by unfold fR; rw [hix]; simp only [List.getElem?_eq_getElem hil, h18, Bool.false_and])), st21.bare⟩
  ·have h18p := inB_iff'.1 h18
   have hi14f77 : (task).toNat < (y.runs[i]'hia2a90).tasks.length := aD
   have hq_ := idx h17_1 (i := (task).toNat) hi14f77
   obtain ⟨b23, o23, cs23, f23, hp23, hr23, hc23, hm23⟩ := hq_
   have hk24 := hc23
   obtain ⟨he24, rfl, hok24⟩ := hk24
   have he24 : _ = [I ((y.runs[i]'hia2a90).tasks[(task).toNat]'hi14f77).state, I ((y.runs[i]'hia2a90).tasks[(task).toNat]'hi14f77).need, I ((y.runs[i]'hia2a90).tasks[(task).toNat]'hi14f77).try_, I ((y.runs[i]'hia2a90).tasks[(task).toNat]'hi14f77).until_] := he24
   subst he24
   rcases nem (((y.runs[i]'hia2a90).tasks[(task).toNat]'hi14f77).state = 3) with h25p | h25p
   ·have h25 := decide_eq_false h25p
    refine rc st11 42 h9_ [8] [(8, .bool false)] [qk h14, qb 0 rfl 3, qx hp16, qr hr16 7, ql h17_1, qsb ((y.runs[i]'hia2a90).tasks.length : Int) 1, qcb (args := [I task, I 0, I (((y.runs[i]'hia2a90).tasks.length : Int) - 1)]) Tryz.func43 rfl h18 (fun W s b => cN W task 0 (((y.runs[i]'hia2a90).tasks.length : Int) - 1)), qb 0 rfl 3, qx hp16, qr hr16 7, qxe hp23 (e := task) aD, qr hr23 0, qk h25] aE fun f26 W27 h26_ st28 hb29 => (aB (wr (aL Tryz.results184 (h26_.at 8) ?_)))
    have hB_ := h18
    have htl : task.toNat < y.runs[i].tasks.length := by omega
    exact ⟨(fB (by unfold fR; rw [hix]; simp only [List.getElem?_eq_getElem hil, List.getElem?_eq_getElem htl, hB_, h25, Bool.true_and, Bool.and_true, Bool.false_and, Bool.and_false])), st28.bare⟩
   ·have h25 := decide_eq_true h25p
    refine rc st11 42 h9_ [8] [(8, .bool (decide (((y.runs[i]'hia2a90).tasks[(task).toNat]'hi14f77).try_ = try_)))] [qk h14, qb 0 rfl 3, qx hp16, qr hr16 7, ql h17_1, qsb ((y.runs[i]'hia2a90).tasks.length : Int) 1, qcb (args := [I task, I 0, I (((y.runs[i]'hia2a90).tasks.length : Int) - 1)]) Tryz.func43 rfl h18 (fun W s b => cN W task 0 (((y.runs[i]'hia2a90).tasks.length : Int) - 1)), qb 0 rfl 3, qx hp16, qr hr16 7, qxe hp23 (e := task) aD, qr hr23 0, qk h25, qb 0 rfl 3, qx hp16, qr hr16 7, qxe hp23 (e := task) aD, qr hr23 2, .o] aE fun f30 W31 h30_ st32 hb33 => (aB ?_)
    rcases nem (((y.runs[i]'hia2a90).tasks[(task).toNat]'hi14f77).try_ = try_) with h34p | h34p
    ·have h34 := decide_eq_false h34p
     refine wr (aL Tryz.results184 ((h30_.at 8).trans (congrArg Value.bool h34)) ?_)
     have hB_ := h18
     have htl : task.toNat < y.runs[i].tasks.length := by omega
     exact ⟨(fB (by unfold fR; rw [hix]; simp only [List.getElem?_eq_getElem hil, List.getElem?_eq_getElem htl, hB_, h25, h34, Bool.true_and, Bool.and_true, Bool.false_and, Bool.and_false])), st32.bare⟩
    ·have h34 := decide_eq_true h34p
     refine wr (aL Tryz.results184 ((h30_.at 8).trans (congrArg Value.bool h34)) ?_)
     have hB_ := h18
     have htl : task.toNat < y.runs[i].tasks.length := by omega
     exact ⟨(fB (by unfold fR; rw [hix]; simp only [List.getElem?_eq_getElem hil, List.getElem?_eq_getElem htl, hB_, h25, h34, Bool.true_and, Bool.and_true, Bool.false_and, Bool.and_false])), st32.bare⟩
theorem HoldsS (w : World) {y : Yard} {cs : List Value} {fp : List Nat} (hc : Shape.C w cs y fp) (id task try_ : Int) (hw : y.wt ≤ 1048576)  :
  Calls Tryz.prog 184 #[.agg cs.toArray, I id, I task, I try_] w fun e w' => e = .returned (.bool (fR y id task try_)) ∧ St w w' [] := by
 cases hix : dY y id with
 | none => exact HoldsS_n w hc id task try_ hw hix
 | some i => exact HoldsS_s w hc id task try_ hw hix
theorem RI.ok {y out : Yard} {n : Nat} (hy : YardIs y) (h : RI y out n) (hn : n ≤ 1000) : out.ok := by
 have h1 := h.now; have h2 := h.seq; have h3 := hy.now; have h4 := hy.seq
 exact ⟨by unfold I64; omega, by unfold I64; omega⟩
theorem yV {α : Type} (f : α → Nat) (m : Nat) : ∀ xs : List α, (∀ x ∈ xs, f x ≤ m) → (xs.map f).sum ≤ xs.length * m
 | [], _ => by simp
 | x :: xs, h => by
  have h1 := h x (by simp)
  have h2 := yV f m xs (fun z hz => h z (by simp [hz]))
  simp only [List.map_cons, List.sum_cons, List.length_cons, Nat.succ_mul]
  omega
theorem RunIs.wt {r : Run} (h : RunIs r) : r.wt ≤ 42 := by
 have := h.small
 unfold Run.wt Plan.wt
 omega
theorem RI.wt {y out : Yard} {n : Nat} (hy : YardIs y) (h : RI y out n) (hn : n ≤ 1000) : out.wt ≤ 100000 := by
 have h1 := h.shelf
 have h2 := hy.shelf
 have h3 := h.runs
 have h4 := hy.runs
 have hs := yV (fun z : List Entry => z.length) 20000 out.shelf (fun z hz => by
  obtain ⟨s, hs, rfl⟩ := List.getElem_of_mem hz
  have := h.each s aD
  rw [List.getD_eq_getElem?_getD, List.getElem?_eq_getElem hs] at this
  simp only [Option.getD_some] at this
  omega)
 have hr := yV (fun z : Run => z.wt) 42 out.runs (fun z hz => by
  obtain ⟨s, hs, rfl⟩ := List.getElem_of_mem hz
  obtain ⟨r2, e, hR, _⟩ := h.run s _ (List.getElem?_eq_getElem (show s < y.runs.length by omega))
  rw [List.getElem?_eq_getElem hs] at e
  rw [Option.some.inj e]
  exact hR.wt)
 rw [h1, h2] at hs
 have hr2 : out.runs.length * 42 ≤ 8 * 42 := Nat.mul_le_mul_right _ aD
 unfold Yard.wt wtL
 omega
theorem RI.chg {y out : Yard} {n : Nat} (hy : YardIs y) (h : RI y out n) (hn : n ≤ 1000) (id : Int) : 4 ≤ out.shelf.length ∧ (out.shelf.getD (bH id).toNat []).length ≤ 1000000 ∧ (0 ≤ out.seq ∧ out.seq ≤ 4000000000) := by
 have h1 := h.shelf; have h2 := hy.shelf; have h3 := iQ id; have h4 := h.each (bH id).toNat aD; have h5 := h.seq; have h6 := hy.seq
 refine ⟨by omega, by omega, by omega⟩

theorem TurnS {w W0 : World} {rs : List Res} {k : Nat} {y : Yard} {vs vr : Value} {fp fq fr : List Nat} {csr : List Value} {was r : Run} (hst : St w W0 (Res.own vs y.shelf fp :: Res.own vr y.runs fq :: Res.own (.agg csr.toArray) r fr :: rs)) (hk : y.runs[k]? = some was) (hss : 4 ≤ y.shelf.length) (hrl : r.tasks.length ≤ 1000) (hln : (y.shelf.getD (bH r.id).toNat []).length ≤ 1000000) (hsq : 0 ≤ y.seq ∧ y.seq ≤ 4000000000) :
  Calls Tryz.prog 104 #[.agg #[I y.now, I y.seq, vs, vr], I (k : Int), .agg csr.toArray] W0 fun e w' => ∃ (fp' fq' : List Nat), e = .returned (.agg #[I (dO y k was r).now, I (dO y k was r).seq, vs, vr]) ∧ St w w' (Res.own vs (dO y k was r).shelf fp' :: Res.own vr (dO y k was r).runs fq' :: rs) := by
 refine jX Tryz.func104 rfl Tryz.ntmps104 aX (wp_seq (aA (sg (aJ (cs := [I y.now, I y.seq, vs, vr]) rfl hst ?_)))); intro b1 W2 hb3 st4
 refine sg (aJ (cs := csr) rfl st4 ?_); intro b6 W7 hb8 st9
 refine sg (aR fA st9 ?_); intro b11 W12 hb13 st14
 refine aB (wp_seq (aA (rn st14 3 Ag.nil.put.put.put.put.put.put [] [(9, vr), (10, I (k : Int))] [qb 2 rfl 3] aE fun f17 h17_ => ?_)))
 have hq_ := St.lendx (α := Run) aX st14.f4 (x := was) hk
 obtain ⟨b19, e19, pre19, cs19, post19, fi19, fr19, hPA19, hC19, st20⟩ := hq_
 have st25 := st20.f1.uncs rfl
 refine sg (aN iY (h17_.at 9) hPA19 (h17_.at 10) rfl (sg (pY eC rfl rfl (st25.get 1 rfl) rfl (Shape.len (bO (st25.get 0 rfl) rfl)) (sg (aR jV st25 ?_))))); intro b28 W29 hb30 st31
 refine sgn (aO (cs := cs19) eC (bO (st31.get 1 rfl) rfl) rfl rfl st31 rfl ?_); intro W33 st34
 refine aB (wp_seq (aA (rn st34 5 h17_.put.put.put [] [(16, .agg csr.toArray), (17, .pointer (some ⟨b19, pre19.length, none⟩))] [qb 6 rfl 3, qw 5 rfl (Shape.len (bO (st34.get 8 rfl) rfl)), qx hPA19] aE fun f36 h36_ => (sgn (oQ (cs := csr) eC (bO (st34.f2.get 8 rfl) rfl) (h36_.at 17) (h36_.at 16) st34.f2 rfl (Shape.len (bO (st34.f2.get 2 rfl) rfl)) ?_))))); intro W38 st39
 refine aB (wp_seq (aA (rn st39 3 h36_ [] [(18, .agg #[I y.now, I y.seq, vs, vr]), (19, .agg cs19.toArray), (20, .agg csr.toArray)] [qb 6 rfl 0, qw 1 rfl (Shape.len (bO (st39.get 2 rfl) rfl)), qw 5 rfl (Shape.len (bO (st39.get 8 rfl) rfl))] aE fun f41 h41_ => (sg (hX Tryz.func168 rfl (h41_.at 18) (h41_.at 19) (h41_.at 20) ((LayS st39.f7 (vA hPA19) (fun W_ h_ => ⟨_, bO (h_.get 2 rfl) rfl⟩) (fun W_ h_ => ⟨_, bO (h_.get 7 rfl) rfl⟩) hss aD hln hsq).mono ?_)))))); rintro _ W42 ⟨fs44, rfl, st45⟩; refine ⟨_, rfl, ?_⟩
 refine sgn (aM (cs := [I y.now, I (y.seq + ((jA was r).length : Int)), vs, vr]) (C' := [I y.now, I (y.seq + ((jA was r).length : Int)), vs, vr]) aE (h41_.at 6) rfl (aG rfl (aG rfl (aG (Sl.one (aI (st45.f5.get 1 rfl))) (aG (vA hPA19) bK)))) st45.f5 bP rfl ?_); intro W47 st48
 refine aB (wr (eO bM rfl Tryz.results104 (h41_.at 6) (st48.get 0 rfl) rfl ?_))
 have st50 := st48.f8.cs rfl
 have hq_ := St.give (α := Run) st50.f6.f1.f4
 obtain ⟨fp54, st55⟩ := hq_
 exact ⟨_, _, rfl, st55.f2.d2.d2.d2.d2.d2⟩
theorem PA_eq {v : Value} {k i b o b' o' : Nat} (h : PA v k i b o) (h' : PA v k i b' o') : (Value.pointer (some ⟨b, o, none⟩)) = .pointer (some ⟨b', o', none⟩) := by
 obtain ⟨off, len, cap, rfl, _, rfl⟩ := h
 obtain ⟨off', len', cap', e, _, rfl⟩ := h'
 cases e; rfl
section
variable {P : Program} {n : Nat} {f : Nat → Value} {W w0 : World} {α β : Type} [Shape α] [Agg α] [Shape β] [Agg β]
theorem sJ {fn : Func} {s u : Tmp} {t t2 : TypeId} {R : Ending → World → Prop} {b b2 : Nat} {C C2 : List Value} {t' t2' : TypeId} (hT : TyOk P t α) (ha : Agg.agg α = true) (hT2 : TyOk P t2 β) (ha2 : Agg.agg β = true) (hr : fn.results = #[.cell s t, .cell u t2]) (hv : ev n f (.tmp s) = .pointer (some ⟨b, 0, none⟩)) (hB : (Res.bx b C t').holds W) (hl : C.length = Shape.size α) (hv2 : ev n f (.tmp u) = .pointer (some ⟨b2, 0, none⟩)) (hB2 : (Res.bx b2 C2 t2').holds W) (hl2 : C2.length = Shape.size β) (h : R (.returned (.tuple #[.agg C.toArray, .agg C2.toArray])) W) : bodyPost P fn R .ret (act n f) W := by
 refine ⟨rfl, .tuple #[.agg C.toArray, .agg C2.toArray], ?_, h⟩
 have h1 := hT.load (cF hB) hl
 have h2 := hT2.load (cF hB2) hl2
 simp only [val, ha, ha2, cond_true, Instr.loadAt, Instr.sureAddr, Sem.run_bind, Sem.run_pure, Result.andThen_ok] at h1 h2
 have e : (act n f).tmps.getD s undef = .pointer (some ⟨b, 0, none⟩) := by rw [iK]; exact hv
 have e2 : (act n f).tmps.getD u undef = .pointer (some ⟨b2, 0, none⟩) := by rw [iK]; exact hv2
 rw [Array.getD_eq_getD_getElem?] at e e2
 simp [results, hr, e, e2, asAddr, h1, h2]
end
end Go.Proofs.YtchnllpegfbleaaGreat
