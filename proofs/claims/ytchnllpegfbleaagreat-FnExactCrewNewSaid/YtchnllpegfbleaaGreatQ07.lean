/-
  Runs of which a task fails, yards that are turned, of the reference.
  Who holds a task, of both.
  Yards that are started again, of both.
  A made slice, all zeros, of elements of several cells.
  A new crew, of both.
  The laws' marks, walked.
  The law on CrewNew, walked.
-/
import Derived.Test.YtchnllpegfbleaaGreatQ01
import Derived.Test.YtchnllpegfbleaaGreatQ02
import Derived.Test.YtchnllpegfbleaaGreatQ04
import Derived.Test.YtchnllpegfbleaaGreatQ05
import Derived.Test.YtchnllpegfbleaaGreatQ06
namespace Go.Proofs.YtchnllpegfbleaaGreat
set_option linter.unusedSimpArgs false
set_option linter.unusedVariables false
set_option maxRecDepth 100000
open Go.RowKit


def gL (ts : List Task) (k : Nat) : List Task := ts.mapIdx (fun j t => if j < k then gD t else t)
theorem leaveSTo_zero (ts : List Task) : gL ts 0 = ts := by
  apply List.ext_getElem?; intro i
  simp [gL, List.getElem?_mapIdx]
theorem leaveSTo_len (ts : List Task) (k : Nat) : (gL ts k).length = ts.length := by simp [gL]
theorem jH {ts : List Task} {k : Nat} {t : Task} (h : ts[k]? = some t) : (gL ts k)[k]? = some t := by simp [gL, List.getElem?_mapIdx, h]
theorem lC {ts : List Task} {k : Nat} {t y : Task} (h : ts[k]? = some t) (hy : gD t = y) : (gL ts k).set k y = gL ts (k + 1) := by
  apply List.ext_getElem?; intro i
  obtain ⟨hl, rfl⟩ := List.getElem?_eq_some_iff.1 h
  simp only [gL, List.getElem?_set, List.getElem?_mapIdx, List.length_mapIdx]
  by_cases e : k = i
  · subst e; simp [hl, hy]
  · rw [if_neg e]
    cases hi : ts[i]? with
    | none => rfl
    | some u =>
      have : (i < k) ↔ (i < k + 1) := by omega
      simp [this]
theorem leaveSTo_all (ts : List Task) : gL ts ts.length = fP ts := by
  apply List.ext_getElem?; intro i
  simp only [gL, fP, List.getElem?_mapIdx, List.getElem?_map]
  cases hi : ts[i]? with
  | none => rfl
  | some u => have := (List.getElem?_eq_some_iff.1 hi).1; simp [this]
theorem leaveS1_t {t : Task} (h : ¬ t.state = 4) (h2 : ¬ t.state = 5) : gD t = iR t := by unfold gD; rw [if_neg (by simp [h, h2])]
theorem leaveS1_4 {t : Task} (h : t.state = 4) : gD t = t := by unfold gD; rw [if_pos (.inl h)]
theorem leaveS1_5 {t : Task} (h : t.state = 5) : gD t = t := by unfold gD; rw [if_pos (.inr h)]
noncomputable def nI (r : Run) (task : Int) : Bool := dY r && (inB task 0 ((r.tasks.length : Int) - 1) && (match r.tasks[task.toNat]? with | some t => decide (t.state = 3) | none => false))
theorem runsB_at {r : Run} {task : Int} (h : nI r task = true) : RunIs r ∧ ∃ t, 0 ≤ task ∧ r.tasks[task.toNat]? = some t ∧ t.state = 3 := by
  unfold nI at h
  simp only [Bool.and_eq_true] at h
  obtain ⟨h1, h2, h3⟩ := h
  refine ⟨runIs.1 h1, ?_⟩
  cases hq : r.tasks[task.toNat]? with
  | none => rw [hq] at h3; cases h3
  | some t => rw [hq] at h3; exact ⟨t, (inB_iff'.1 h2).1, rfl, by simpa using h3⟩
noncomputable def eX (r : Run) (task : Int) : Run := if nI r task then rL r task.toNat else r

set_option maxHeartbeats 2000000 in
theorem LeaveS {w W0 : World} {rs : List Res} {cs : List Value} {r : Run} {fp : List Nat} (hst : St w W0 (Res.own (.agg cs.toArray) r fp :: rs)) (st_ : Int) (hs64 : I64 st_) (hw : r.tasks.length ≤ 1048576) :
    Calls Tryz.prog 170 #[.agg cs.toArray, I st_] W0 fun e w' => ∃ (cs' : List Value) (fp' : List Nat), e = .returned (.agg cs'.toArray) ∧ St w w' (Res.own (.agg cs'.toArray) (⟨r.id, r.plan, st_, fP r.tasks⟩ : Run) fp' :: rs) := by
  refine cF Tryz.func170 rfl Tryz.ntmps170 (by decide) (wp_seq (aA (sg (aQ (cs := cs) rfl hst ?_)))); intro b1 W2 hb3 st4
  refine sg (bN jI st4 ?_); intro b6 W7 hb8 st9
  refine aE (wp_seq (wp_seq (aA (sg (aD (v := I 0) rfl (aE (wp_block ?_)))))))
  have st11 := st9.f2
  have hq_ := kN st11
  obtain ⟨v12_0, v12_1, g12_0, g12_1, he12, hok12, st13⟩ := hq_
  subst he12
  refine bH (fun (m : Nat) (f : Nat → Value) (W : World) => ∃ (k : Nat) (fo16 : List Nat), k ≤ r.tasks.length ∧ m = r.tasks.length - k ∧ f 1 = I st_ ∧ f 2 = .pointer (some ⟨b1, 0, none⟩) ∧ f 4 = .pointer (some ⟨b6, 0, none⟩) ∧ f 5 = I (k : Int) ∧ St w W (Res.own (α := List Edge) v12_0 r.plan.edges g12_0 :: Res.own (α := List Task) v12_1 (gL r.tasks k) fo16 :: Res.bx b6 [I 0, I 0, I 0, I 0, I 0, .slice none 0 0, I 0, .slice none 0 0] 123 :: Res.bx b1 [I r.id, I r.plan.prio, I r.plan.most, I r.plan.wait, I r.plan.tasks, v12_0, I r.state, v12_1] 123 :: rs)) (r.tasks.length - 0) ?_ ?_
  · exact ⟨0, g12_1, Nat.zero_le _, rfl, rfl, rfl, rfl, rfl, (by rw [leaveSTo_zero]; exact st13)⟩
  intro m17 f18 W19 hJ20
  obtain ⟨k, fo16, hcd22_0, rfl, hs22_1, hs22_2, hs22_4, hs22_5, st21⟩ := hJ20
  have hll := leaveSTo_len r.tasks k
  refine wp_seq (wp_seq (aA (sg (aB (v := I (k : Int)) hs22_5 (sg (aC bJ hs22_2 (sg (aF bM rfl rfl (st21.get 3 rfl) (i := 7) rfl rfl (sg (aV bD rfl (bC (st21.get 1 rfl)) (sg (aY rfl rfl (aE (aR rfl (fun h23 => ?_) (fun h23 => ?_)))))))))))))))
  · have h23p := of_decide_eq_true h23
    refine wp_skip (wp_seq (wp_block (wp_seq (aA (sg (aC bJ hs22_2 (sg (aF bM rfl rfl (st21.get 3 rfl) (i := 7) rfl rfl (sg (aB (v := I (k : Int)) hs22_5 ?_))))))))))
    have hq_ := fW (xs := r.tasks) (i := k) (by omega)
    obtain ⟨t, ht⟩ := hq_
    skip
    have hif61a2 : k < (gL r.tasks k).length := (List.getElem?_eq_some_iff.1 (jH ht)).1
    have hq_ := pQ (bC (st21.get 1 rfl)) (i := k) (jH ht)
    obtain ⟨b24, o24, cs24, f24, hp24, hr24, hc24, hm24⟩ := hq_
    refine sg (aG bD rfl hp24 rfl rfl (sg (bY fJ rfl rfl hr24 (Below.refl _ _) (Shape.len hc24) (sg (bN jO st21 ?_))))); intro b25 W26 hb27 st28
    refine sg (bU (cs := cs24) fJ hc24 rfl rfl st28 rfl ?_); intro W30 st31
    refine aE (wp_seq (wp_seq (aA (sg (aC bP rfl ?_)))))
    have hk32 := hc24
    obtain ⟨he32, rfl, hok32⟩ := hk32
    have he32 : _ = [I t.state, I t.need, I t.try_, I t.until_] := he32
    subst he32
    refine sg (aF aJ rfl rfl (st31.get 0 rfl) (i := 0) rfl rfl (sg (bL rfl rfl (sg (aB (v := .bool (!decide (t.state = 4))) rfl ?_)))))
    rcases bd (!decide (t.state = 4)) with h33 | h33
    · have h33p := of_decide_eq_true (aX h33)
      iterate 3 refine sgf 22 rfl (by decide) (bF rfl h33) ?_
      refine sg (aO (v := .bool false) ((rfl : _ = (.bool (!decide (t.state = 4)) : Value)).trans (congrArg Value.bool h33)) rfl (aE (gX rfl rfl (wp_skip (aA (sg (aC bJ hs22_2 (sg (aF bM rfl rfl (st31.get 4 rfl) (i := 7) rfl rfl (sg (aB (v := I (k : Int)) hs22_5 (sg (aU (cs := [I t.state, I t.need, I t.try_, I t.until_]) fJ rfl rfl (st31.get 0 rfl) rfl rfl ?_)))))))))))))
      have st34 := st31.f2
      have hq_ := St.lendx (α := Task) (by decide) st34 (x := t) (jH ht)
      obtain ⟨b35, e35, pre35, cs35, post35, fi35, fr35, hPA35, hC35, st36⟩ := hq_
      have st40 := st36.d1
      obtain ⟨he35, hf35, hok35⟩ := hC35; have he35 : _ = [I t.state, I t.need, I t.try_, I t.until_] := he35; subst he35
      skip
      refine sg (aG bD rfl hPA35 rfl rfl (sg (jC (i := 0) (cs := [I t.state, I t.need, I t.try_, I t.until_]) (C' := [I t.state, I t.need, I t.try_, I t.until_]) (by kernel_rfl) rfl rfl (aM rfl (aM rfl (aM rfl (aM rfl dW)))) st40 rfl (Nat.le_of_ble_eq_true rfl) rfl ?_))); intro W41 st42
      refine aE (aA (sg (aB (v := I (k : Int)) hs22_5 (sg (aP rfl rfl (by (simp only [I64] at *; omega)) (sg (aD (v := I ((k : Int) + 1)) rfl (aE ?_))))))))
      have st43 := st42.cs0 (cs := [I t.state, I t.need, I t.try_, I t.until_]) (x := (⟨t.state, t.need, t.try_, t.until_⟩ : Task)) ⟨rfl, rfl, (by first | exact True.intro | (simp only [Edge.ok, Plan.ok, Entry.ok, Task.ok, Run.ok, Yard.ok, Reply.ok, Deed.ok, Note.ok, Wait.ok, File.ok, Disk.ok, Engine.ok, WorldD.ok, ActD.ok, Hand.ok, Span.ok, Crew.ok, View.ok, I64] at *; omega))⟩
      have st45 := st43.f2
      have st46 := st45.f1
      have st47 := st46.f2
      have hq_ := St.give (α := Task) st47
      obtain ⟨fp48, st49⟩ := hq_
      have st50 := st49.f4
      have st51 := st50.f4
      have st52 := st51.f2
      have st53 := st52.f4
      have st54 := st53.d4
      exact ⟨_, r.tasks.length - (k + 1), (by omega), rfl, k + 1, fp48, (by omega), rfl, hs22_1, hs22_2, hs22_4, rfl, (by rw [← lC ht (leaveS1_4 h33p)]; exact st54)⟩
    · have h33p := of_decide_eq_false (aS h33)
      refine sgo 22 rfl (by decide) (aL rfl h33) (aC bP rfl (sgo 22 rfl (by decide) (aL rfl h33) (aF aJ rfl rfl (st31.get 0 rfl) (i := 0) rfl rfl (sgo 22 rfl (by decide) (aL rfl h33) (bL rfl rfl (sg (aN (v := .bool (!decide (t.state = 5))) ((rfl : _ = (.bool (!decide (t.state = 4)) : Value)).trans (congrArg Value.bool h33)) rfl (aE (aR rfl (fun h55 => ?_) (fun h55 => ?_))))))))))
      · have h55p := of_decide_eq_false (aS h55)
        refine wp_seq (aA (sg (aC bP rfl (sg (bK (v := I 6) (C' := [I 6, I t.need, I t.try_, I t.until_]) (by kernel_rfl) rfl rfl rfl rfl st31 (Nat.le_of_ble_eq_true rfl) rfl ?_))))); intro W56 st57
        refine aE (aA (sg (aC eT rfl (sg (bK (v := I 0) (C' := [I 6, I t.need, I t.try_, I 0]) (by kernel_rfl) rfl rfl rfl rfl st57 (Nat.le_of_ble_eq_true rfl) rfl ?_))))); intro W58 st59
        refine aE (aA (sg (aC bJ hs22_2 (sg (aF bM rfl rfl (st59.get 4 rfl) (i := 7) rfl rfl (sg (aB (v := I (k : Int)) hs22_5 (sg (aU (cs := [I 6, I t.need, I t.try_, I 0]) fJ rfl rfl (st59.get 0 rfl) rfl rfl ?_)))))))))
        have st60 := st59.f2
        have hq_ := St.lendx (α := Task) (by decide) st60 (x := t) (jH ht)
        obtain ⟨b61, e61, pre61, cs61, post61, fi61, fr61, hPA61, hC61, st62⟩ := hq_
        have st66 := st62.d1
        obtain ⟨he61, hf61, hok61⟩ := hC61; have he61 : _ = [I t.state, I t.need, I t.try_, I t.until_] := he61; subst he61
        skip
        refine sg (aG bD rfl hPA61 rfl rfl (sg (jC (i := 0) (cs := [I 6, I t.need, I t.try_, I 0]) (C' := [I 6, I t.need, I t.try_, I 0]) (by kernel_rfl) rfl rfl (aM rfl (aM rfl (aM rfl (aM rfl dW)))) st66 rfl (Nat.le_of_ble_eq_true rfl) rfl ?_))); intro W67 st68
        refine aE (aA (sg (aB (v := I (k : Int)) hs22_5 (sg (aP rfl rfl (by (simp only [I64] at *; omega)) (sg (aD (v := I ((k : Int) + 1)) rfl (aE ?_))))))))
        have st69 := st68.cs0 (cs := [I 6, I t.need, I t.try_, I 0]) (x := (⟨6, t.need, t.try_, 0⟩ : Task)) ⟨rfl, rfl, (by first | exact True.intro | (simp only [Edge.ok, Plan.ok, Entry.ok, Task.ok, Run.ok, Yard.ok, Reply.ok, Deed.ok, Note.ok, Wait.ok, File.ok, Disk.ok, Engine.ok, WorldD.ok, ActD.ok, Hand.ok, Span.ok, Crew.ok, View.ok, I64] at *; omega))⟩
        have st71 := st69.f2
        have st72 := st71.f1
        have st73 := st72.f2
        have hq_ := St.give (α := Task) st73
        obtain ⟨fp74, st75⟩ := hq_
        have st76 := st75.f4
        have st77 := st76.f4
        have st78 := st77.f2
        have st79 := st78.f4
        have st80 := st79.d4
        exact ⟨_, r.tasks.length - (k + 1), (by omega), rfl, k + 1, fp74, (by omega), rfl, hs22_1, hs22_2, hs22_4, rfl, (by rw [← lC ht (leaveS1_t h33p h55p)]; exact st80)⟩
      · have h55p := of_decide_eq_true (aX h55)
        refine wp_skip (aA (sg (aC bJ hs22_2 (sg (aF bM rfl rfl (st31.get 4 rfl) (i := 7) rfl rfl (sg (aB (v := I (k : Int)) hs22_5 (sg (aU (cs := [I t.state, I t.need, I t.try_, I t.until_]) fJ rfl rfl (st31.get 0 rfl) rfl rfl ?_)))))))))
        have st81 := st31.f2
        have hq_ := St.lendx (α := Task) (by decide) st81 (x := t) (jH ht)
        obtain ⟨b82, e82, pre82, cs82, post82, fi82, fr82, hPA82, hC82, st83⟩ := hq_
        have st87 := st83.d1
        obtain ⟨he82, hf82, hok82⟩ := hC82; have he82 : _ = [I t.state, I t.need, I t.try_, I t.until_] := he82; subst he82
        skip
        refine sg (aG bD rfl hPA82 rfl rfl (sg (jC (i := 0) (cs := [I t.state, I t.need, I t.try_, I t.until_]) (C' := [I t.state, I t.need, I t.try_, I t.until_]) (by kernel_rfl) rfl rfl (aM rfl (aM rfl (aM rfl (aM rfl dW)))) st87 rfl (Nat.le_of_ble_eq_true rfl) rfl ?_))); intro W88 st89
        refine aE (aA (sg (aB (v := I (k : Int)) hs22_5 (sg (aP rfl rfl (by (simp only [I64] at *; omega)) (sg (aD (v := I ((k : Int) + 1)) rfl (aE ?_))))))))
        have st90 := st89.cs0 (cs := [I t.state, I t.need, I t.try_, I t.until_]) (x := (⟨t.state, t.need, t.try_, t.until_⟩ : Task)) ⟨rfl, rfl, (by first | exact True.intro | (simp only [Edge.ok, Plan.ok, Entry.ok, Task.ok, Run.ok, Yard.ok, Reply.ok, Deed.ok, Note.ok, Wait.ok, File.ok, Disk.ok, Engine.ok, WorldD.ok, ActD.ok, Hand.ok, Span.ok, Crew.ok, View.ok, I64] at *; omega))⟩
        have st92 := st90.f2
        have st93 := st92.f1
        have st94 := st93.f2
        have hq_ := St.give (α := Task) st94
        obtain ⟨fp95, st96⟩ := hq_
        have st97 := st96.f4
        have st98 := st97.f4
        have st99 := st98.f2
        have st100 := st99.f4
        have st101 := st100.d4
        exact ⟨_, r.tasks.length - (k + 1), (by omega), rfl, k + 1, fp95, (by omega), rfl, hs22_1, hs22_2, hs22_4, rfl, (by rw [← lC ht (leaveS1_5 h55p)]; exact st101)⟩
  · have h23p := of_decide_eq_false h23
    refine wp_exit (wp_seq (aA (sg (aB (v := I st_) hs22_1 (sg (aC eO hs22_2 ?_))))))
    have st102 := st21.f3
    refine sg (bK (v := I st_) (C' := [I r.id, I r.plan.prio, I r.plan.most, I r.plan.wait, I r.plan.tasks, v12_0, I st_, v12_1]) (by kernel_rfl) rfl rfl rfl rfl st102 (Nat.le_of_ble_eq_true rfl) rfl ?_); intro W103 st104
    refine aE (wp_seq (aA (sg (aU (cs := [I r.id, I r.plan.prio, I r.plan.most, I r.plan.wait, I r.plan.tasks, v12_0, I st_, v12_1]) cY rfl hs22_2 (st104.get 0 rfl) rfl rfl ?_))))
    have st105 := st104.f3
    refine sg (bT (cs := [I r.id, I r.plan.prio, I r.plan.most, I r.plan.wait, I r.plan.tasks, v12_0, I st_, v12_1]) (C' := [I r.id, I r.plan.prio, I r.plan.most, I r.plan.wait, I r.plan.tasks, v12_0, I st_, v12_1]) (by kernel_rfl) hs22_4 rfl (aM rfl (aM rfl (aM rfl (aM rfl (aM rfl (aM (Sl.one (bC (st105.get 2 rfl))) (aM rfl (aM (Sl.one (bC (st105.get 3 rfl))) dW)))))))) st105 (Nat.le_of_ble_eq_true rfl) rfl ?_); intro W106 st107
    refine aE (wp_ret ?_); repeat first|refine aH ?_|refine aI ?_
    refine iE cY rfl Tryz.results170 hs22_4 (st107.get 0 rfl) rfl ?_
    have hke : k = r.tasks.length := by omega
    rw [hke, leaveSTo_all] at st107
    have st108 := st107.f3
    have st109 := st108.f3
    have st110 := hL (x := (⟨r.id, r.plan, st_, fP r.tasks⟩ : Run)) st109 (show Run.ok _ from by simp only [Run.ok, Plan.ok, I64] at *; omega)
    try dsimp only at st110
    have st112 := st110.d1
    have st113 := st112.d1
    exact ⟨_, _, rfl, st113⟩
set_option maxHeartbeats 2000000 in
theorem RunsS (w : World) {r : Run} {cs : List Value} {fp : List Nat} (hc : Shape.C w cs r fp) (task : Int) (hw : r.wt ≤ 1048576) :
    Calls Tryz.prog 169 #[.agg cs.toArray, I task] w fun e w' => e = .returned (.bool (nI r task)) ∧ St w w' [] := by
  have hrw : r.tasks.length ≤ r.wt := by unfold Run.wt; omega
  refine cF Tryz.func169 rfl Tryz.ntmps169 (by decide) (wp_seq (aA (sg (aQ (cs := cs) rfl (St.start w) ?_)))); intro b1 W2 hb3 st4
  refine sg (aD (v := .bool false) rfl (aE (wp_seq (aA (sg (bE cY rfl rfl (st4.get 0 rfl) (Shape.len hc) (sg (bI Tryz.func89 rfl rfl ((vH W2 (cA hc st4.below)).mono ?_))))))))); rintro _ W6 ⟨rfl, hk7⟩; refine ⟨_, rfl, ?_⟩
  have st8 := St.call st4 hk7
  refine sg (aB (v := .bool (dY r)) rfl ?_)
  rcases bd (dY r) with h10 | h10
  · iterate 6 refine sgf 7 rfl (by decide) (bF rfl h10) ?_
    refine sg (aO (v := .bool false) ((rfl : _ = (.bool (dY r) : Value)).trans (congrArg Value.bool h10)) rfl (sg (aB (v := .bool false) rfl ?_)))
    iterate 7 refine sgf 15 rfl (by decide) (bF rfl rfl) ?_
    refine sg (aO (v := .bool false) rfl rfl (sg (aD (v := .bool false) rfl (aE (wp_ret ?_))))); repeat first|refine aH ?_|refine aI ?_
    refine aW Tryz.results169 rfl ?_
    exact ⟨(congrArg (fun z => Ending.returned (.bool z)) (by unfold nI; rw [h10]; rfl)), st8.bare⟩
  · refine sgo 7 rfl (by decide) (aL rfl h10) (aB (v := I task) rfl (sgo 7 rfl (by decide) (aL rfl h10) (aC bJ rfl ?_)))
    have hk11 := hc
    obtain ⟨v11_0, v11_1, g11_0, g11_1, rfl, hok11, h11_0, h11_1, rfl⟩ := hk11
    refine sgo 7 rfl (by decide) (aL rfl h10) (aF bM rfl rfl (st8.get 0 rfl) (i := 7) rfl rfl (sgo 7 rfl (by decide) (aL rfl h10) (aV bD rfl h11_1 (sgo 7 rfl (by decide) (aL rfl h10) (fI rfl rfl (by (simp only [I64] at *; omega)) (sgo 7 rfl (by decide) (aL rfl h10) (bS Tryz.func43 rfl rfl rfl rfl ((fK W6 task 0 ((r.tasks.length : Int) - 1)).mono ?_)))))))); rintro _ W12 ⟨rfl, hk13⟩; refine ⟨_, rfl, ?_⟩
    have st14 := St.call st8 hk13
    refine sg (aN (v := .bool (inB task 0 ((r.tasks.length : Int) - 1))) ((rfl : _ = (.bool (dY r) : Value)).trans (congrArg Value.bool h10)) rfl (sg (aB (v := .bool (inB task 0 ((r.tasks.length : Int) - 1))) rfl ?_)))
    rcases bd (inB task 0 ((r.tasks.length : Int) - 1)) with h16 | h16
    · have h16p := dN h16
      iterate 7 refine sgf 15 rfl (by decide) (bF rfl h16) ?_
      refine sg (aO (v := .bool false) ((rfl : _ = (.bool (inB task 0 ((r.tasks.length : Int) - 1)) : Value)).trans (congrArg Value.bool h16)) rfl (sg (aD (v := .bool false) rfl (aE (wp_ret ?_))))); repeat first|refine aH ?_|refine aI ?_
      refine aW Tryz.results169 rfl ?_
      exact ⟨(congrArg (fun z => Ending.returned (.bool z)) (by unfold nI; rw [h10, h16]; rfl)), st14.bare⟩
    · have h16p := inB_iff'.1 h16
      refine sgo 15 rfl (by decide) (aL rfl h16) (aC bJ rfl (sgo 15 rfl (by decide) (aL rfl h16) (aF bM rfl rfl (st14.get 0 rfl) (i := 7) rfl rfl (sgo 15 rfl (by decide) (aL rfl h16) (aB (v := I task) rfl ?_)))))
      have hi653cf : (task).toNat < r.tasks.length := (by omega)
      have hq_ := idx h11_1 (i := (task).toNat) hi653cf
      obtain ⟨b17, o17, cs17, f17, hp17, hr17, hc17, hm17⟩ := hq_
      refine sgo 15 rfl (by decide) (aL rfl h16) (aG bD rfl hp17 rfl (by omega) (sgo 15 rfl (by decide) (aL rfl h16) (aC bP rfl ?_)))
      have hk18 := hc17
      obtain ⟨he18, rfl, hok18⟩ := hk18
      have he18 : _ = [I (r.tasks[(task).toNat]'hi653cf).state, I (r.tasks[(task).toNat]'hi653cf).need, I (r.tasks[(task).toNat]'hi653cf).try_, I (r.tasks[(task).toNat]'hi653cf).until_] := he18
      subst he18
      refine sgo 15 rfl (by decide) (aL rfl h16) (aK aJ rfl rfl hr17 st14.below (i := 0) rfl rfl (sgo 15 rfl (by decide) (aL rfl h16) (bA rfl rfl (sg (aN (v := .bool (decide ((r.tasks[(task).toNat]'hi653cf).state = 3))) ((rfl : _ = (.bool (inB task 0 ((r.tasks.length : Int) - 1)) : Value)).trans (congrArg Value.bool h16)) rfl (sg (aD (v := .bool (decide ((r.tasks[(task).toNat]'hi653cf).state = 3))) rfl (aE ?_))))))))
      rcases bd (decide ((r.tasks[(task).toNat]'hi653cf).state = 3)) with h19 | h19
      · have h19p := of_decide_eq_false h19
        refine wp_ret ?_; repeat first|refine aH ?_|refine aI ?_
        refine aW Tryz.results169 ((rfl : _ = (.bool (decide ((r.tasks[(task).toNat]'hi653cf).state = 3)) : Value)).trans (congrArg Value.bool h19)) ?_
        have hB_ := h16
        have htl : task.toNat < r.tasks.length := by have := inB_iff'.1 hB_; omega
        exact ⟨(congrArg (fun z => Ending.returned (.bool z)) (by unfold nI; rw [h10, hB_]; simp only [List.getElem?_eq_getElem htl, h19, Bool.true_and])), st14.bare⟩
      · have h19p := of_decide_eq_true h19
        refine wp_ret ?_; repeat first|refine aH ?_|refine aI ?_
        refine aW Tryz.results169 ((rfl : _ = (.bool (decide ((r.tasks[(task).toNat]'hi653cf).state = 3)) : Value)).trans (congrArg Value.bool h19)) ?_
        have hB_ := h16
        have htl : task.toNat < r.tasks.length := by have := inB_iff'.1 hB_; omega
        exact ⟨(congrArg (fun z => Ending.returned (.bool z)) (by unfold nI; rw [h10, hB_]; simp only [List.getElem?_eq_getElem htl, h19, Bool.true_and])), st14.bare⟩
set_option maxHeartbeats 2000000 in
theorem RunFailsS (w : World) {r : Run} {cs : List Value} {fp : List Nat} (hc : Shape.C w cs r fp) (task : Int) (hw : r.wt ≤ 1048576) :
    Calls Tryz.prog 105 #[.agg cs.toArray, I task] w fun e w' => ∃ (cs' : List Value) (fp' : List Nat), e = .returned (.agg cs'.toArray) ∧ St w w' [Res.own (.agg cs'.toArray) (eX r task) fp'] := by
  have hrw : r.tasks.length ≤ r.wt := by unfold Run.wt; omega
  refine cF Tryz.func105 rfl Tryz.ntmps105 (by decide) (wp_seq (aA (sg (aQ (cs := cs) rfl (St.start w) ?_)))); intro b1 W2 hb3 st4
  refine sg (bN jI st4 ?_); intro b6 W7 hb8 st9
  refine aE (wp_seq (aA (sg (bE cY rfl rfl (st9.get 1 rfl) (Shape.len hc) (sg (bI Tryz.func136 rfl rfl ((vD W7 (cA hc st9.below) (by omega)).mono ?_))))))); rintro _ W13 ⟨cs11, fp11, rfl, hk14⟩; refine ⟨_, rfl, ?_⟩
  have st15 := St.call st9 hk14
  refine sg (bN jI st15 ?_); intro b17 W18 hb19 st20
  refine sg (bU (cs := cs11) cY (dR (st20.get 1 rfl) rfl) rfl rfl st20 rfl ?_); intro W22 st23
  refine aE (wp_seq (wp_seq (aA (sg (bE cY rfl rfl (st23.get 3 rfl) (Shape.len hc) (sg (aB (v := I task) rfl (sg (aZ Tryz.func169 rfl rfl rfl ((RunsS W22 (cA hc st23.below) task (by omega)).mono ?_)))))))))); rintro _ W24 ⟨rfl, hk25⟩; refine ⟨_, rfl, ?_⟩
  have st26 := St.call st23 hk25
  refine sg (bO rfl (aE (aR rfl (fun h28 => ?_) (fun h28 => ?_))))
  · refine wp_seq (aA (sg (bE cY rfl rfl (st26.get 0 rfl) (Shape.len (dR (st26.get 1 rfl) rfl)) ?_)))
    have st29 := st26.f2
    refine sg (bU (cs := cs11) cY (dR (st29.get 2 rfl) rfl) rfl rfl st29 rfl ?_); intro W30 st31
    refine aE (wp_ret ?_); repeat first|refine aH ?_|refine aI ?_
    refine iE cY rfl Tryz.results105 rfl (st31.get 0 rfl) (Shape.len (dR (st31.get 2 rfl) rfl)) ?_
    have st32 := st31.f2
    have st33 := st32.d1
    have st34 := st33.d1
    have st35 := st34.d1
    have hfe : eX r task = r := by unfold eX; rw [(aS h28)]; rfl
    rw [hfe]
    exact ⟨_, _, rfl, st35.only 0 rfl⟩
  · refine wp_skip (wp_seq (aA (sg (aC bJ rfl ?_))))
    have st36 := st26.f1
    have hq_ := kN st36
    obtain ⟨v37_0, v37_1, g37_0, g37_1, he37, hok37, st38⟩ := hq_
    subst he37
    refine sg (aF bM rfl rfl (st38.get 2 rfl) (i := 7) rfl rfl (sg (aB (v := I task) rfl ?_)))
    have hq_ := runsB_at (aX h28)
    obtain ⟨hRI, t, h0_, ht, h3⟩ := hq_
    have hil := (List.getElem?_eq_some_iff.1 ht).1
    have st41 := st38.f1
    have hq_ := St.lendx (α := Task) (by decide) st41 (x := t) ht
    obtain ⟨b42, e42, pre42, cs42, post42, fi42, fr42, hPA42, hC42, st43⟩ := hq_
    have st47 := st43.d1
    obtain ⟨he42, hf42, hok42⟩ := hC42; have he42 : _ = [I t.state, I t.need, I t.try_, I t.until_] := he42; subst he42
    skip
    refine sg (aG bD rfl hPA42 rfl (by omega) (sg (aC eT rfl (sg (bX (i := 3) (v := I 0) (C' := [I t.state, I t.need, I t.try_, I 0]) (by kernel_rfl) rfl rfl rfl rfl st47 rfl (Nat.le_of_ble_eq_true rfl) rfl ?_))))); intro W48 st49
    refine aE (wp_seq (aA (sg (aC bJ rfl (sg (aF bM rfl rfl (st49.get 3 rfl) (i := 7) rfl rfl (sg (aB (v := I task) rfl (sg (aG bD rfl hPA42 rfl (by omega) (sg (aC bP rfl (sg (bX (i := 0) (v := I 2) (C' := [I 2, I t.need, I t.try_, I 0]) (by kernel_rfl) rfl rfl rfl rfl st49 rfl (Nat.le_of_ble_eq_true rfl) rfl ?_)))))))))))))); intro W50 st51
    refine aE (wp_seq (wp_seq ?_))
    have hk52 := hc
    obtain ⟨v52_0, v52_1, g52_0, g52_1, rfl, hok52, h52_0, h52_1, rfl⟩ := hk52
    refine dI [Pl.is (.pointer (some ⟨b17, 0 + 7, none⟩)), Pl.is (v37_1) (PA_yl hPA42), Pl.is (I task), Pl.is (.pointer (some ⟨b42, pre42.length, none⟩)), Pl.is (.pointer (some ⟨b42, pre42.length + 2, none⟩)), Pl.is (I t.try_), Pl.is (.pointer (some ⟨b1, 0 + 1, none⟩)), Pl.is (.pointer (some ⟨b1, 0 + 1 + 1, none⟩)), Pl.is (I r.plan.most), Pl.bool (decide (t.try_ < r.plan.most))] mix (by rfl) st51 ⟨(fun f W hst hbl hd hf => aC bJ ((hf 5 rfl).trans (show _ = (.pointer (some ⟨b17, 0, none⟩) : Value) from rfl)) brq), (fun f W hst hbl hd hf => aF bM rfl (hd 0 23 rfl rfl) (hst.get 3 rfl) (i := 7) rfl rfl brq), (fun f W hst hbl hd hf => aB (v := I task) ((hf 1 rfl).trans (show _ = I task from rfl)) brq), (fun f W hst hbl hd hf => aG bD (hd 1 24 rfl rfl) hPA42 (hd 2 25 rfl rfl) (by omega) brq), (fun f W hst hbl hd hf => aC eD (hd 3 26 rfl rfl) brq), (fun f W hst hbl hd hf => fS aJ rfl (hd 4 27 rfl rfl) (hst.get 0 rfl) (i := 2) rfl rfl brq), (fun f W hst hbl hd hf => aC cQ ((hf 2 rfl).trans (show _ = (.pointer (some ⟨b1, 0, none⟩) : Value) from rfl)) brq), (fun f W hst hbl hd hf => aC fG (hd 6 29 rfl rfl) brq), (fun f W hst hbl hd hf => aF aJ rfl (hd 7 30 rfl rfl) (hst.get 5 rfl) (i := 2) rfl rfl brq), (fun f W hst hbl hd hf => aY (hd 5 28 rfl rfl) (hd 8 31 rfl rfl) brq), trivial⟩ ?_
    intro f53 W54 st55 hb56 hv57 hf58
    refine aR (hv57 9 32 (by decide) rfl) (fun h59 => ?_) (fun h59 => ?_)
    · have h59p := of_decide_eq_true h59
      refine wp_seq (aA ?_)
      have st60 := st55.cs0 (cs := [I 2, I t.need, I t.try_, I 0]) (x := (⟨2, t.need, t.try_, 0⟩ : Task)) ⟨rfl, rfl, (by first | exact True.intro | (simp only [Edge.ok, Plan.ok, Entry.ok, Task.ok, Run.ok, Yard.ok, Reply.ok, Deed.ok, Note.ok, Wait.ok, File.ok, Disk.ok, Engine.ok, WorldD.ok, ActD.ok, Hand.ok, Span.ok, Crew.ok, View.ok, I64] at *; omega))⟩
      have st62 := st60.f2
      have st63 := st62.f1
      have st64 := st63.f2
      have hq_ := St.give (α := Task) st64
      obtain ⟨fp65, st66⟩ := hq_
      skip
      refine sg (aU (cs := [I r.id, I r.plan.prio, I r.plan.most, I r.plan.wait, I r.plan.tasks, v37_0, I r.state, v37_1]) cY rfl ((hf58 5 rfl).trans (show _ = (.pointer (some ⟨b17, 0, none⟩) : Value) from rfl)) (st66.get 2 rfl) rfl rfl ?_)
      have st67 := st66.f3
      refine sg (bT (cs := [I r.id, I r.plan.prio, I r.plan.most, I r.plan.wait, I r.plan.tasks, v37_0, I r.state, v37_1]) (C' := [I r.id, I r.plan.prio, I r.plan.most, I r.plan.wait, I r.plan.tasks, v37_0, I r.state, v37_1]) (by kernel_rfl) ((hf58 4 rfl).trans (show _ = (.pointer (some ⟨b6, 0, none⟩) : Value) from rfl)) rfl (aM rfl (aM rfl (aM rfl (aM rfl (aM rfl (aM (Sl.one (bC (st67.get 2 rfl))) (aM rfl (aM (Sl.one (bC (st67.get 1 rfl))) dW)))))))) st67 (Nat.le_of_ble_eq_true rfl) rfl ?_); intro W68 st69
      refine aE (wp_ret ?_); repeat first|refine aH ?_|refine aI ?_
      refine iE cY rfl Tryz.results105 ((hf58 4 rfl).trans (show _ = (.pointer (some ⟨b6, 0, none⟩) : Value) from rfl)) (st69.get 0 rfl) rfl ?_
      have hfe : eX r task = (⟨r.id, r.plan, r.state, r.tasks.set task.toNat ⟨2, t.need, t.try_, 0⟩⟩ : Run) := by unfold eX rL; rw [(aX h28), if_pos rfl, ht]; simp only; rw [if_pos h59p]
      have st70 := st69.f1
      have st71 := st70.f2
      have st72 := hL (x := (⟨r.id, r.plan, r.state, r.tasks.set task.toNat ⟨2, t.need, t.try_, 0⟩⟩ : Run)) st71 (show Run.ok _ from by simp only [Run.ok, Plan.ok, I64] at *; omega)
      try dsimp only at st72
      have st74 := st72.d1
      have st75 := st74.d1
      have st76 := st75.d1
      rw [hfe]
      exact ⟨_, _, rfl, st76.only 0 rfl⟩
    · have h59p := of_decide_eq_false h59
      refine wp_skip (wp_seq (aA (sg (aC bJ ((hf58 5 rfl).trans (show _ = (.pointer (some ⟨b17, 0, none⟩) : Value) from rfl)) (sg (aF bM rfl rfl (st55.get 3 rfl) (i := 7) rfl rfl (sg (aB (v := I task) ((hf58 1 rfl).trans (show _ = I task from rfl)) (sg (aG bD rfl hPA42 rfl (by omega) (sg (aC bP rfl (sg (bX (i := 0) (v := I 5) (C' := [I 5, I t.need, I t.try_, I 0]) (by kernel_rfl) rfl rfl rfl rfl st55 rfl (Nat.le_of_ble_eq_true rfl) rfl ?_)))))))))))))); intro W77 st78
      refine aE (wp_seq (aA ?_))
      have st79 := st78.cs0 (cs := [I 5, I t.need, I t.try_, I 0]) (x := (⟨5, t.need, t.try_, 0⟩ : Task)) ⟨rfl, rfl, (by first | exact True.intro | (simp only [Edge.ok, Plan.ok, Entry.ok, Task.ok, Run.ok, Yard.ok, Reply.ok, Deed.ok, Note.ok, Wait.ok, File.ok, Disk.ok, Engine.ok, WorldD.ok, ActD.ok, Hand.ok, Span.ok, Crew.ok, View.ok, I64] at *; omega))⟩
      have st81 := st79.f2
      have st82 := st81.f1
      have st83 := st82.f2
      have hq_ := St.give (α := Task) st83
      obtain ⟨fp84, st85⟩ := hq_
      skip
      refine sg (aU (cs := [I r.id, I r.plan.prio, I r.plan.most, I r.plan.wait, I r.plan.tasks, v37_0, I r.state, v37_1]) cY rfl ((hf58 5 rfl).trans (show _ = (.pointer (some ⟨b17, 0, none⟩) : Value) from rfl)) (st85.get 2 rfl) rfl rfl ?_)
      have st87 := st85.f1
      have st88 := hL (x := (⟨r.id, ⟨r.plan.prio, r.plan.most, r.plan.wait, r.plan.tasks, r.plan.edges⟩, r.state, (r.tasks).set (task).toNat (⟨5, t.need, t.try_, 0⟩ : Task)⟩ : Run)) st87 (by simp only [Run.ok, Plan.ok, I64] at *; omega)
      try dsimp only at st88
      refine sg (aZ Tryz.func170 rfl rfl rfl ((LeaveS st88 3 (by simp only [I64]; omega) (by simp only [List.length_set]; omega)).mono ?_)); rintro _ W86 ⟨cs90, fp90, rfl, st91⟩; refine ⟨_, rfl, ?_⟩
      have st93 := st91.f2
      refine sg (bU (cs := cs90) cY (dR (st93.get 1 rfl) rfl) ((hf58 4 rfl).trans (show _ = (.pointer (some ⟨b6, 0, none⟩) : Value) from rfl)) rfl st93 rfl ?_); intro W94 st95
      refine aE (wp_ret ?_); repeat first|refine aH ?_|refine aI ?_
      refine iE cY rfl Tryz.results105 ((hf58 4 rfl).trans (show _ = (.pointer (some ⟨b6, 0, none⟩) : Value) from rfl)) (st95.get 0 rfl) (Shape.len (dR (st95.get 1 rfl) rfl)) ?_
      have hfe : eX r task = (⟨r.id, r.plan, 3, fP (r.tasks.set task.toNat ⟨5, t.need, t.try_, 0⟩)⟩ : Run) := by unfold eX rL; rw [(aX h28), if_pos rfl, ht]; simp only; rw [if_neg h59p]
      have st96 := st95.f1
      have st97 := st96.d1
      have st98 := st97.d1
      have st99 := st98.d1
      rw [hfe]
      exact ⟨_, _, rfl, st99.only 0 rfl⟩

def bQ (r r' : Run) (k : Nat) : List Int := (gZ r'.tasks 2 k).filter (fun t => !decide (t ∈ aT r.tasks 2))
theorem freshTo_zero (r r' : Run) : bQ r r' 0 = [] := rfl
theorem freshTo_len (r r' : Run) (k : Nat) : (bQ r r' k).length ≤ k := Nat.le_trans (List.length_filter_le _ _) (jZ _ _ _)
theorem tin_mem {ts : List Task} {s : Int} {k : Nat} : (k : Int) ∈ aT ts s ↔ ∃ h : k < ts.length, ts[k].state = s := by
  unfold aT gZ
  rw [List.mem_filterMap]
  constructor
  · rintro ⟨a, ha, h⟩
    rw [List.mem_range] at ha
    split at h
    · next e =>
      simp only [Option.some.injEq] at h
      have : a = k := by omega
      subst this
      rw [List.getElem?_eq_getElem ha] at e
      exact ⟨ha, by simpa using e⟩
    · cases h
  · rintro ⟨h, e⟩
    exact ⟨k, by simpa using h, by rw [if_pos (by rw [List.getElem?_eq_getElem h]; simpa using e)]⟩
theorem rJ {r r' : Run} {k : Nat} (h : k < r'.tasks.length) (hs : ¬ r'.tasks[k].state = 2) : bQ r r' (k + 1) = bQ r r' k := by unfold bQ; rw [pE h hs]
theorem freshTo_f2 {r r' : Run} {k : Nat} (h : k < r'.tasks.length) (h2 : k < r.tasks.length) (hs : r.tasks[k].state = 2) : bQ r r' (k + 1) = bQ r r' k := by
  by_cases hq : r'.tasks[k].state = 2
  · unfold bQ
    rw [mS h hq, List.filter_append]
    have : (k : Int) ∈ aT r.tasks 2 := tin_mem.2 ⟨h2, hs⟩
    simp [this]
  · exact rJ h hq
theorem sY {r r' : Run} {k : Nat} (h : k < r'.tasks.length) (hs : r'.tasks[k].state = 2) (hn : r.tasks.length ≤ k ∨ ∃ h2 : k < r.tasks.length, ¬ r.tasks[k].state = 2) : bQ r r' (k + 1) = bQ r r' k ++ [(k : Int)] := by
  unfold bQ
  rw [mS h hs, List.filter_append]
  have : ¬ (k : Int) ∈ aT r.tasks 2 := fun hm => by
    obtain ⟨h2, e⟩ := tin_mem.1 hm
    rcases hn with hn | ⟨_, hn⟩
    · omega
    · exact hn e
  simp [this]
theorem tX {w W0 : World} {rs : List Res} {cs : List Value} {r : Run} (h0 : St w W0 rs) (h : ∀ W', St w W' rs → ∃ f, Shape.C W' cs r f) : ∃ v1 v2, cs = [I r.id, I r.plan.prio, I r.plan.most, I r.plan.wait, I r.plan.tasks, v1, I r.state, v2] ∧ r.ok ∧ (∀ W', St w W' rs → ∃ f, Sl W' v1 r.plan.edges f) ∧ (∀ W', St w W' rs → ∃ f, Sl W' v2 r.tasks f) := by
  obtain ⟨f, hc⟩ := h W0 h0
  obtain ⟨v1, v2, f1, f2, rfl, hok, h1, h2, _⟩ := hc
  refine ⟨v1, v2, rfl, hok, fun W' st => ?_, fun W' st => ?_⟩
  · obtain ⟨f, hc⟩ := h W' st
    obtain ⟨a1, a2, g1, g2, e, _, q1, q2, _⟩ := hc
    have e1 : v1 = a1 := by have := congrArg (fun l => l.getD 5 undef) e; exact this
    rw [e1]; exact ⟨_, q1⟩
  · obtain ⟨f, hc⟩ := h W' st
    obtain ⟨a1, a2, g1, g2, e, _, q1, q2, _⟩ := hc
    have e1 : v2 = a2 := by have := congrArg (fun l => l.getD 7 undef) e; exact this
    rw [e1]; exact ⟨_, q2⟩

set_option maxHeartbeats 2000000 in
theorem LayS {w W0 : World} {rs : List Res} {now seq : Int} {vs vr : Value} {xss : List (List Entry)} {fp : List Nat} {csw csr : List Value} {was r : Run} (hst : St w W0 (Res.own vs xss fp :: rs)) (hvr : vr.oneCell' = true) (hwas : ∀ W', St w W' rs → ∃ f, Shape.C W' csw was f) (hr : ∀ W', St w W' rs → ∃ f, Shape.C W' csr r f) (hss : 4 ≤ xss.length) (hrl : r.tasks.length ≤ 1000) (hln : (xss.getD (bG r.id).toNat []).length ≤ 1000000) (hsq : 0 ≤ seq ∧ seq ≤ 4000000000) :
    Calls Tryz.prog 168 #[.agg #[I now, I seq, vs, vr], .agg csw.toArray, .agg csr.toArray] W0 fun e w' => ∃ (fp' : List Nat), e = .returned (.agg #[I now, I (seq + ((iS was r).length : Int)), vs, vr]) ∧ St w w' (Res.own vs (cU (bG r.id).toNat r.plan.prio r.id (iS was r) xss seq) fp' :: rs) := by
  have hsr := jD r.id
  have hq_ := tX (St.dropn 1 hst) hwas
  obtain ⟨v1, v2, rfl, hwok, hv1, hv2⟩ := hq_
  have hq_ := tX (St.dropn 1 hst) hr
  obtain ⟨u1, u2, rfl, hrok, hu1, hu2⟩ := hq_
  have hwl := (tW hv2 (St.dropn 1 hst)).len_le
  refine nV Tryz.func168 rfl Tryz.ntmps168 (by decide) (wp_seq (aA (sg (aQ (cs := [I now, I seq, vs, vr]) rfl hst ?_)))); intro b1 W2 hb3 st4
  refine sg (aQ (cs := [I was.id, I was.plan.prio, I was.plan.most, I was.plan.wait, I was.plan.tasks, v1, I was.state, v2]) rfl st4 ?_); intro b6 W7 hb8 st9
  refine sg (aQ (cs := [I r.id, I r.plan.prio, I r.plan.most, I r.plan.wait, I r.plan.tasks, u1, I r.state, u2]) rfl st9 ?_); intro b11 W12 hb13 st14
  refine sg (bN hZ st14 ?_); intro b16 W17 hb18 st19
  refine aE (wp_seq (aA (sg (aC eU rfl (sg (aF aJ rfl rfl (st19.get 1 rfl) (i := 0) rfl rfl (sg (bI Tryz.func219 rfl rfl ((ShelfOfS W17 r.id).mono ?_))))))))); rintro _ W21 ⟨rfl, hk22⟩; refine ⟨_, rfl, ?_⟩
  have st23 := St.call st19 hk22
  refine sg (aD (v := I (bG r.id)) rfl (aE (wp_seq (wp_seq (aA (sg (aD (v := I 0) rfl (aE (wp_block (bH (fun (m : Nat) (f : Nat → Value) (W : World) => ∃ (k : Nat) (fo25 : List Nat), k ≤ r.tasks.length ∧ m = r.tasks.length - k ∧ f 3 = .pointer (some ⟨b1, 0, none⟩) ∧ f 4 = .pointer (some ⟨b6, 0, none⟩) ∧ f 5 = .pointer (some ⟨b11, 0, none⟩) ∧ f 6 = .pointer (some ⟨b16, 0, none⟩) ∧ f 7 = I (bG r.id) ∧ f 8 = I (k : Int) ∧ St w W (Res.bx b16 [I 0, I 0, .slice none 0 0, .slice none 0 0] 34 :: Res.bx b11 [I r.id, I r.plan.prio, I r.plan.most, I r.plan.wait, I r.plan.tasks, u1, I r.state, u2] 123 :: Res.bx b6 [I was.id, I was.plan.prio, I was.plan.most, I was.plan.wait, I was.plan.tasks, v1, I was.state, v2] 123 :: Res.bx b1 [I now, I (seq + ((bQ was r k).length : Int)), vs, vr] 34 :: Res.own (α := List (List Entry)) vs (cU (bG r.id).toNat r.plan.prio r.id (bQ was r k) xss seq) fo25 :: rs)) (r.tasks.length - 0) ?_ ?_))))))))))
  · exact ⟨0, fp, Nat.zero_le _, rfl, rfl, rfl, rfl, rfl, rfl, rfl, (by simpa [freshTo_zero, cU] using st23)⟩
  intro m26 f27 W28 hJ29
  obtain ⟨k, fo25, hcd31_0, rfl, hs31_3, hs31_4, hs31_5, hs31_6, hs31_7, hs31_8, st30⟩ := hJ29
  have hzl := kX (bG r.id).toNat r.plan.prio r.id (bQ was r k) xss seq
  have hzg := kY (bG r.id).toNat r.plan.prio r.id (bQ was r k) xss seq (by omega)
  have hfk := freshTo_len was r k
  refine wp_seq (wp_seq (aA (sg (aB (v := I (k : Int)) hs31_8 (sg (aC bJ hs31_5 (sg (aF bM rfl rfl (st30.get 1 rfl) (i := 7) rfl rfl (sg (aV bD rfl (tW hu2 (St.dropn 5 st30)) (sg (aY rfl rfl (aE (aR rfl (fun h32 => ?_) (fun h32 => ?_)))))))))))))))
  · have h32p := of_decide_eq_true h32
    refine wp_skip (wp_seq (wp_block (wp_seq (wp_seq (aA (sg (aC bJ hs31_5 ?_)))))))
    have hkr : k < r.tasks.length := by omega
    refine sg (aF bM rfl rfl (st30.get 1 rfl) (i := 7) rfl rfl (sg (aB (v := I (k : Int)) hs31_8 ?_)))
    have hif4d94 : k < r.tasks.length := (by omega)
    have hq_ := idx (tW hu2 (St.dropn 5 st30)) (i := k) hif4d94
    obtain ⟨b33, o33, cs33, f33, hp33, hr33, hc33, hm33⟩ := hq_
    refine sg (aG bD rfl hp33 rfl rfl (sg (aC bP rfl ?_)))
    have hk34 := hc33
    obtain ⟨he34, rfl, hok34⟩ := hk34
    have he34 : _ = [I (r.tasks[k]'hif4d94).state, I (r.tasks[k]'hif4d94).need, I (r.tasks[k]'hif4d94).try_, I (r.tasks[k]'hif4d94).until_] := he34
    subst he34
    refine sg (aK aJ rfl rfl hr33 (Below.refl _ _) (i := 0) rfl rfl (sg (bL rfl rfl (sg (aB (v := .bool (!decide ((r.tasks[k]'hif4d94).state = 2))) rfl ?_)))))
    rcases bd (!decide ((r.tasks[k]'hif4d94).state = 2)) with h35 | h35
    · have h35p := of_decide_eq_true (aX h35)
      refine sgo 26 rfl (by decide) (aL rfl h35) (aB (v := I (k : Int)) hs31_8 (sgo 26 rfl (by decide) (aL rfl h35) (aC bJ hs31_4 (sgo 26 rfl (by decide) (aL rfl h35) (aF bM rfl rfl (st30.get 2 rfl) (i := 7) rfl rfl (sgo 26 rfl (by decide) (aL rfl h35) (aV bD rfl (tW hv2 (St.dropn 5 st30)) (sgo 26 rfl (by decide) (aL rfl h35) (aY rfl rfl (sgo 26 rfl (by decide) (aL rfl h35) (aB (v := .bool (decide ((k : Int) < (was.tasks.length : Int)))) rfl ?_)))))))))))
      rcases bd (decide ((k : Int) < (was.tasks.length : Int))) with h36 | h36
      · have h36p := of_decide_eq_false h36
        iterate 7 refine sgf 32 rfl (by decide) (bF rfl h36) ?_
        refine sgo 26 rfl (by decide) (aL rfl h35) (aO (v := .bool false) ((rfl : _ = (.bool (decide ((k : Int) < (was.tasks.length : Int))) : Value)).trans (congrArg Value.bool h36)) rfl (sg (aO (v := .bool false) ((rfl : _ = (.bool (!decide ((r.tasks[k]'hif4d94).state = 2)) : Value)).trans (congrArg Value.bool h35)) rfl (aE (gX rfl rfl (wp_skip (wp_seq ?_)))))))
        have hid5573 : (bG r.id).toNat < (cU (bG r.id).toNat r.plan.prio r.id (bQ was r k) xss seq).length := (List.getElem?_eq_some_iff.1 (getD_some (xss := cU (bG r.id).toNat r.plan.prio r.id (bQ was r k) xss seq) (k := (bG r.id).toNat) (by omega))).1
        have hq_ := pQ (bC (st30.get 4 rfl)) (i := (bG r.id).toNat) (getD_some (xss := cU (bG r.id).toNat r.plan.prio r.id (bQ was r k) xss seq) (k := (bG r.id).toNat) (by omega))
        obtain ⟨b37, o37, cs37, f37, hp37, hr37, hc37, hm37⟩ := hq_
        have hk37 := hc37
        obtain ⟨v38, rfl, h39⟩ := hk37
        refine iH 18 [17] [[], [17]] [[(0, 1)]] (w1 := W28) (rs := Res.bx b16 [I 0, I 0, .slice none 0 0, .slice none 0 0] 34 :: Res.bx b11 [I r.id, I r.plan.prio, I r.plan.most, I r.plan.wait, I r.plan.tasks, u1, I r.state, u2] 123 :: Res.bx b6 [I was.id, I was.plan.prio, I was.plan.most, I was.plan.wait, I was.plan.tasks, v1, I was.state, v2] 123 :: Res.bx b1 [I now, I (seq + ((bQ was r k).length : Int)), vs, vr] 34 :: Res.own (α := List (List Entry)) vs (cU (bG r.id).toNat r.plan.prio r.id (bQ was r k) xss seq) fo25 :: rs) (fun q => match q with | 0 => Cp.of (ι := Unit) (fun _ => []) (fun _ => Res.bx b16 [I 0, I 0, .slice none 0 0, .slice none 0 0] 34 :: Res.bx b11 [I r.id, I r.plan.prio, I r.plan.most, I r.plan.wait, I r.plan.tasks, u1, I r.state, u2] 123 :: Res.bx b6 [I was.id, I was.plan.prio, I was.plan.most, I was.plan.wait, I was.plan.tasks, v1, I was.state, v2] 123 :: Res.bx b1 [I now, I (seq + ((bQ was r k).length : Int)), vs, vr] 34 :: Res.own (α := List (List Entry)) vs (cU (bG r.id).toNat r.plan.prio r.id (bQ was r k) xss seq) fo25 :: rs) (fun _ _ h => h.dropn 0) | _ => Cp.of (ι := Value × List Nat) (fun ⟨v41, fp41⟩ => [v41]) (fun ⟨v41, fp41⟩ => Res.own (α := List Entry) v41 (lU ((cU (bG r.id).toNat r.plan.prio r.id (bQ was r k) xss seq).getD (bG r.id).toNat []) (⟨r.plan.prio, seq + ((bQ was r k).length : Int), r.id, (k : Int)⟩ : Entry)) fp41 :: Res.bx b16 [I 0, I 0, .slice none 0 0, .slice none 0 0] 34 :: Res.bx b11 [I r.id, I r.plan.prio, I r.plan.most, I r.plan.wait, I r.plan.tasks, u1, I r.state, u2] 123 :: Res.bx b6 [I was.id, I was.plan.prio, I was.plan.most, I was.plan.wait, I was.plan.tasks, v1, I was.state, v2] 123 :: Res.bx b1 [I now, I (seq + ((bQ was r k).length : Int)), vs, vr] 34 :: Res.own (α := List (List Entry)) vs (cU (bG r.id).toNat r.plan.prio r.id (bQ was r k) xss seq) fo25 :: rs) (fun _ _ h => h.dropn 1)) [Pq.is (.pointer (some ⟨b1, 0 + 2, none⟩)), Pq.is (vs) (Sl.yl (bC (st30.get 4 rfl))), Pq.is (I (bG r.id)), Pq.is (.pointer (some ⟨b1, 0 + 2, none⟩)), Pq.is (vs) (Sl.yl (bC (st30.get 4 rfl))), Pq.is (I (bG r.id)), Pq.is (.pointer (some ⟨b37, o37, none⟩)), Pq.is (v38) (Sl.yl h39), Pq.is (.pointer (some ⟨b11, 0 + 1, none⟩)), Pq.is (.pointer (some ⟨b11, 0 + 1 + 0, none⟩)), Pq.is (I r.plan.prio), Pq.is (.pointer (some ⟨b1, 0 + 1, none⟩)), Pq.is (I (seq + ((bQ was r k).length : Int))), Pq.is (.pointer (some ⟨b11, 0 + 0, none⟩)), Pq.is (I r.id), Pq.is (I (k : Int)), Pq.is (.agg #[I r.plan.prio, I (seq + ((bQ was r k).length : Int)), I r.id, I (k : Int)]), Pq.none] mix (by rfl) (by rfl) (by rfl) ⟨(), rfl, st30, (Below.refl _ _)⟩ (by rfl) ⟨(fun f W hst hbl hd hf => aC dG ((hf 3 rfl).trans hs31_3) brq), (fun f W hst hbl hd hf => aF dE rfl (hd 0 42 rfl rfl) (hst.get 3 rfl) (i := 2) rfl rfl brq), (fun f W hst hbl hd hf => aB (v := I (bG r.id)) ((hf 7 rfl).trans hs31_7) brq), (fun f W hst hbl hd hf => aC dG ((hf 3 rfl).trans hs31_3) brq), (fun f W hst hbl hd hf => aF dE rfl (hd 3 45 rfl rfl) (hst.get 3 rfl) (i := 2) rfl rfl brq), (fun f W hst hbl hd hf => aB (v := I (bG r.id)) ((hf 7 rfl).trans hs31_7) brq), (fun f W hst hbl hd hf => aG cM (hd 4 46 rfl rfl) hp37 (hd 5 47 rfl rfl) (by omega) brq), (fun f W hst hbl hd hf => aK fD rfl (hd 6 48 rfl rfl) hr37 hbl (i := 0) rfl rfl brq), (fun f W hst hbl hd hf => aC cQ ((hf 5 rfl).trans hs31_5) brq), (fun f W hst hbl hd hf => aC gB (hd 8 50 rfl rfl) brq), (fun f W hst hbl hd hf => aF aJ rfl (hd 9 51 rfl rfl) (hst.get 1 rfl) (i := 1) rfl rfl brq), (fun f W hst hbl hd hf => aC eN ((hf 3 rfl).trans hs31_3) brq), (fun f W hst hbl hd hf => aF aJ rfl (hd 11 53 rfl rfl) (hst.get 3 rfl) (i := 1) rfl rfl brq), (fun f W hst hbl hd hf => aC eU ((hf 5 rfl).trans hs31_5) brq), (fun f W hst hbl hd hf => aF aJ rfl (hd 13 55 rfl rfl) (hst.get 1 rfl) (i := 0) rfl rfl brq), (fun f W hst hbl hd hf => aB (v := I (k : Int)) ((hf 8 rfl).trans hs31_8) brq), (fun f W hst hbl hd hf => gJ (vs := [(0, I r.plan.prio), (1, I (seq + ((bQ was r k).length : Int))), (2, I r.id), (3, I (k : Int))]) (cs := [I r.plan.prio, I (seq + ((bQ was r k).length : Int)), I r.id, I (k : Int)]) (eG (v := I r.plan.prio) (hd 10 52 rfl rfl) (eG (v := I (seq + ((bQ was r k).length : Int))) (hd 12 54 rfl rfl) (eG (v := I r.id) (hd 14 56 rfl rfl) (eG (v := I (k : Int)) (hd 15 57 rfl rfl) gK)))) (by kernel_rfl) brq), ⟨rfl, ?_, True.intro⟩, trivial⟩ ?_
        · intro f W hC hd hf
          have hC_ := hC
          obtain ⟨_, hu, hst, hbl⟩ := hC_
          have st40 : St w W (Res.bx b16 [I 0, I 0, .slice none 0 0, .slice none 0 0] 34 :: Res.bx b11 [I r.id, I r.plan.prio, I r.plan.most, I r.plan.wait, I r.plan.tasks, u1, I r.state, u2] 123 :: Res.bx b6 [I was.id, I was.plan.prio, I was.plan.most, I was.plan.wait, I was.plan.tasks, v1, I was.state, v2] 123 :: Res.bx b1 [I now, I (seq + ((bQ was r k).length : Int)), vs, vr] 34 :: Res.own (α := List (List Entry)) vs (cU (bG r.id).toNat r.plan.prio r.id (bQ was r k) xss seq) fo25 :: rs) := hst
          refine (aZ Tryz.func187 rfl (hd 7 49 rfl rfl) (hd 16 58 rfl rfl) ((tJ W (h39.below hbl) (show Shape.C _ [I r.plan.prio, I (seq + ((bQ was r k).length : Int)), I r.id, I (k : Int)] (⟨r.plan.prio, seq + ((bQ was r k).length : Int), r.id, (k : Int)⟩ : Entry) [] from ⟨rfl, rfl, (by first | exact True.intro | (simp only [Edge.ok, Plan.ok, Entry.ok, Task.ok, Run.ok, Yard.ok, Reply.ok, Deed.ok, Note.ok, Wait.ok, File.ok, Disk.ok, Engine.ok, WorldD.ok, ActD.ok, Hand.ok, Span.ok, Crew.ok, View.ok, I64] at *; omega))⟩) (by omega)).mono ?_)); rintro _ W43 ⟨v41, fp41, rfl, hk44⟩; refine ⟨_, rfl, ?_⟩
          have st45 := St.call st40 hk44
          exact ⟨⟨(v41, fp41), (ce rfl rfl), st45, (hbl.trans (Below.mono hk44.below hbl.size))⟩, Sl.yl (bC (st45.get 0 rfl))⟩
        intro f47 W48 hC hv49 hf50
        have hC_ := hC
        obtain ⟨⟨v41, fp41⟩, hu, hst, hbl52⟩ := hC_
        have st51 : St w W48 (Res.own (α := List Entry) v41 (lU ((cU (bG r.id).toNat r.plan.prio r.id (bQ was r k) xss seq).getD (bG r.id).toNat []) (⟨r.plan.prio, seq + ((bQ was r k).length : Int), r.id, (k : Int)⟩ : Entry)) fp41 :: Res.bx b16 [I 0, I 0, .slice none 0 0, .slice none 0 0] 34 :: Res.bx b11 [I r.id, I r.plan.prio, I r.plan.most, I r.plan.wait, I r.plan.tasks, u1, I r.state, u2] 123 :: Res.bx b6 [I was.id, I was.plan.prio, I was.plan.most, I was.plan.wait, I was.plan.tasks, v1, I was.state, v2] 123 :: Res.bx b1 [I now, I (seq + ((bQ was r k).length : Int)), vs, vr] 34 :: Res.own (α := List (List Entry)) vs (cU (bG r.id).toNat r.plan.prio r.id (bQ was r k) xss seq) fo25 :: rs) := hst
        have hu53 : f47 59 = v41 := congrArg (fun l => l.getD 0 undef) hu
        have st54 := st51.f5
        have hq_ := St.lendx (α := List Entry) (by decide) st54 (x := (cU (bG r.id).toNat r.plan.prio r.id (bQ was r k) xss seq).getD (bG r.id).toNat []) (getD_some (by omega))
        obtain ⟨b55, e55, pre55, cs55, post55, fi55, fr55, hPA55, hC55, st56⟩ := hq_
        have st60 := st56.f1
        have hq_ := st60.uncs1
        obtain ⟨v55, he55, st61⟩ := hq_; subst he55
        skip
        refine sg (aG cM (hv49 1 43 (by decide) rfl) hPA55 (hv49 2 44 (by decide) rfl) (by omega) ?_)
        have st62 := st61.f1
        refine sg (bX (i := 0) (v := v41) (C' := [v41]) (by kernel_rfl) rfl hu53 (Sl.cells (bC (st62.get 3 rfl))) (Sl.one (bC (st62.get 3 rfl))) st62 rfl (Nat.le_of_ble_eq_true rfl) rfl ?_); intro W63 st64
        refine aE (aA (sg (aC eN ((hf50 3 rfl).trans hs31_3) (sg (aF aJ rfl rfl (st64.get 7 rfl) (i := 1) rfl rfl (sg (aP rfl rfl (by (simp only [I64] at *; omega)) (sg (aC eN ((hf50 3 rfl).trans hs31_3) ?_)))))))))
        have st65 := st64.f7
        refine sg (bK (v := I ((seq + ((bQ was r k).length : Int)) + 1)) (C' := [I now, I ((seq + ((bQ was r k).length : Int)) + 1), vs, vr]) (by kernel_rfl) rfl rfl rfl rfl st65 (Nat.le_of_ble_eq_true rfl) rfl ?_); intro W66 st67
        refine aE (aA (sg (aB (v := I (k : Int)) ((hf50 8 rfl).trans hs31_8) (sg (aP rfl rfl (by (simp only [I64] at *; omega)) (sg (aD (v := I ((k : Int) + 1)) rfl (aE ?_))))))))
        have st68 := st67.f4
        have st69 := st68.cs1
        have st70 := st69.f4
        have st71 := st70.f1
        have st72 := st71.f3
        have hq_ := St.give (α := List Entry) st72
        obtain ⟨fp73, st74⟩ := hq_
        have st75 := st74.f1
        have st76 := st75.f5
        have st77 := st76.f5
        have st78 := st77.f5
        have st79 := st78.d5
        exact ⟨_, r.tasks.length - (k + 1), (by omega), rfl, k + 1, fp73, (by omega), rfl, ((hf50 3 rfl).trans hs31_3), ((hf50 4 rfl).trans hs31_4), ((hf50 5 rfl).trans hs31_5), ((hf50 6 rfl).trans hs31_6), ((hf50 7 rfl).trans hs31_7), rfl, (by rw [sY (by omega) h35p (.inl (by omega)), kB, List.length_append, List.length_singleton, show seq + (((bQ was r k).length + 1 : Nat) : Int) = seq + ((bQ was r k).length : Int) + 1 by omega]; exact st79)⟩
      · have h36p := of_decide_eq_true h36
        refine sgo 32 rfl (by decide) (aL rfl h36) (aC bJ hs31_4 (sgo 32 rfl (by decide) (aL rfl h36) (aF bM rfl rfl (st30.get 2 rfl) (i := 7) rfl rfl (sgo 32 rfl (by decide) (aL rfl h36) (aB (v := I (k : Int)) hs31_8 ?_)))))
        have hie3f05 : k < was.tasks.length := (by omega)
        have hq_ := idx (tW hv2 (St.dropn 5 st30)) (i := k) hie3f05
        obtain ⟨b80, o80, cs80, f80, hp80, hr80, hc80, hm80⟩ := hq_
        refine sgo 32 rfl (by decide) (aL rfl h36) (aG bD rfl hp80 rfl rfl (sgo 32 rfl (by decide) (aL rfl h36) (aC bP rfl ?_)))
        have hk81 := hc80
        obtain ⟨he81, rfl, hok81⟩ := hk81
        have he81 : _ = [I (was.tasks[k]'hie3f05).state, I (was.tasks[k]'hie3f05).need, I (was.tasks[k]'hie3f05).try_, I (was.tasks[k]'hie3f05).until_] := he81
        subst he81
        refine sgo 32 rfl (by decide) (aL rfl h36) (aK aJ rfl rfl hr80 (Below.refl _ _) (i := 0) rfl rfl (sgo 32 rfl (by decide) (aL rfl h36) (bA rfl rfl (sgo 26 rfl (by decide) (aL rfl h35) (aN (v := .bool (decide ((was.tasks[k]'hie3f05).state = 2))) ((rfl : _ = (.bool (decide ((k : Int) < (was.tasks.length : Int))) : Value)).trans (congrArg Value.bool h36)) rfl (sg (aO (v := .bool (decide ((was.tasks[k]'hie3f05).state = 2))) ((rfl : _ = (.bool (!decide ((r.tasks[k]'hif4d94).state = 2)) : Value)).trans (congrArg Value.bool h35)) rfl (aE (aR rfl (fun h82 => ?_) (fun h82 => ?_))))))))))
        · have h82p := of_decide_eq_true h82
          refine wp_exit (aA (sg (aB (v := I (k : Int)) hs31_8 (sg (aP rfl rfl (by (simp only [I64] at *; omega)) (sg (aD (v := I ((k : Int) + 1)) rfl (aE ?_))))))))
          exact ⟨_, r.tasks.length - (k + 1), (by omega), rfl, k + 1, fo25, (by omega), rfl, hs31_3, hs31_4, hs31_5, hs31_6, hs31_7, rfl, (by rw [freshTo_f2 (by omega) (by omega) h82p]; exact st30)⟩
        · have h82p := of_decide_eq_false h82
          refine wp_skip (wp_seq ?_)
          have hid5573 : (bG r.id).toNat < (cU (bG r.id).toNat r.plan.prio r.id (bQ was r k) xss seq).length := (List.getElem?_eq_some_iff.1 (getD_some (xss := cU (bG r.id).toNat r.plan.prio r.id (bQ was r k) xss seq) (k := (bG r.id).toNat) (by omega))).1
          have hq_ := pQ (bC (st30.get 4 rfl)) (i := (bG r.id).toNat) (getD_some (xss := cU (bG r.id).toNat r.plan.prio r.id (bQ was r k) xss seq) (k := (bG r.id).toNat) (by omega))
          obtain ⟨b83, o83, cs83, f83, hp83, hr83, hc83, hm83⟩ := hq_
          have hk83 := hc83
          obtain ⟨v84, rfl, h85⟩ := hk83
          refine iH 18 [17] [[], [17]] [[(0, 1)]] (w1 := W28) (rs := Res.bx b16 [I 0, I 0, .slice none 0 0, .slice none 0 0] 34 :: Res.bx b11 [I r.id, I r.plan.prio, I r.plan.most, I r.plan.wait, I r.plan.tasks, u1, I r.state, u2] 123 :: Res.bx b6 [I was.id, I was.plan.prio, I was.plan.most, I was.plan.wait, I was.plan.tasks, v1, I was.state, v2] 123 :: Res.bx b1 [I now, I (seq + ((bQ was r k).length : Int)), vs, vr] 34 :: Res.own (α := List (List Entry)) vs (cU (bG r.id).toNat r.plan.prio r.id (bQ was r k) xss seq) fo25 :: rs) (fun q => match q with | 0 => Cp.of (ι := Unit) (fun _ => []) (fun _ => Res.bx b16 [I 0, I 0, .slice none 0 0, .slice none 0 0] 34 :: Res.bx b11 [I r.id, I r.plan.prio, I r.plan.most, I r.plan.wait, I r.plan.tasks, u1, I r.state, u2] 123 :: Res.bx b6 [I was.id, I was.plan.prio, I was.plan.most, I was.plan.wait, I was.plan.tasks, v1, I was.state, v2] 123 :: Res.bx b1 [I now, I (seq + ((bQ was r k).length : Int)), vs, vr] 34 :: Res.own (α := List (List Entry)) vs (cU (bG r.id).toNat r.plan.prio r.id (bQ was r k) xss seq) fo25 :: rs) (fun _ _ h => h.dropn 0) | _ => Cp.of (ι := Value × List Nat) (fun ⟨v87, fp87⟩ => [v87]) (fun ⟨v87, fp87⟩ => Res.own (α := List Entry) v87 (lU ((cU (bG r.id).toNat r.plan.prio r.id (bQ was r k) xss seq).getD (bG r.id).toNat []) (⟨r.plan.prio, seq + ((bQ was r k).length : Int), r.id, (k : Int)⟩ : Entry)) fp87 :: Res.bx b16 [I 0, I 0, .slice none 0 0, .slice none 0 0] 34 :: Res.bx b11 [I r.id, I r.plan.prio, I r.plan.most, I r.plan.wait, I r.plan.tasks, u1, I r.state, u2] 123 :: Res.bx b6 [I was.id, I was.plan.prio, I was.plan.most, I was.plan.wait, I was.plan.tasks, v1, I was.state, v2] 123 :: Res.bx b1 [I now, I (seq + ((bQ was r k).length : Int)), vs, vr] 34 :: Res.own (α := List (List Entry)) vs (cU (bG r.id).toNat r.plan.prio r.id (bQ was r k) xss seq) fo25 :: rs) (fun _ _ h => h.dropn 1)) [Pq.is (.pointer (some ⟨b1, 0 + 2, none⟩)), Pq.is (vs) (Sl.yl (bC (st30.get 4 rfl))), Pq.is (I (bG r.id)), Pq.is (.pointer (some ⟨b1, 0 + 2, none⟩)), Pq.is (vs) (Sl.yl (bC (st30.get 4 rfl))), Pq.is (I (bG r.id)), Pq.is (.pointer (some ⟨b83, o83, none⟩)), Pq.is (v84) (Sl.yl h85), Pq.is (.pointer (some ⟨b11, 0 + 1, none⟩)), Pq.is (.pointer (some ⟨b11, 0 + 1 + 0, none⟩)), Pq.is (I r.plan.prio), Pq.is (.pointer (some ⟨b1, 0 + 1, none⟩)), Pq.is (I (seq + ((bQ was r k).length : Int))), Pq.is (.pointer (some ⟨b11, 0 + 0, none⟩)), Pq.is (I r.id), Pq.is (I (k : Int)), Pq.is (.agg #[I r.plan.prio, I (seq + ((bQ was r k).length : Int)), I r.id, I (k : Int)]), Pq.none] mix (by rfl) (by rfl) (by rfl) ⟨(), rfl, st30, (Below.refl _ _)⟩ (by rfl) ⟨(fun f W hst hbl hd hf => aC dG ((hf 3 rfl).trans hs31_3) brq), (fun f W hst hbl hd hf => aF dE rfl (hd 0 42 rfl rfl) (hst.get 3 rfl) (i := 2) rfl rfl brq), (fun f W hst hbl hd hf => aB (v := I (bG r.id)) ((hf 7 rfl).trans hs31_7) brq), (fun f W hst hbl hd hf => aC dG ((hf 3 rfl).trans hs31_3) brq), (fun f W hst hbl hd hf => aF dE rfl (hd 3 45 rfl rfl) (hst.get 3 rfl) (i := 2) rfl rfl brq), (fun f W hst hbl hd hf => aB (v := I (bG r.id)) ((hf 7 rfl).trans hs31_7) brq), (fun f W hst hbl hd hf => aG cM (hd 4 46 rfl rfl) hp83 (hd 5 47 rfl rfl) (by omega) brq), (fun f W hst hbl hd hf => aK fD rfl (hd 6 48 rfl rfl) hr83 hbl (i := 0) rfl rfl brq), (fun f W hst hbl hd hf => aC cQ ((hf 5 rfl).trans hs31_5) brq), (fun f W hst hbl hd hf => aC gB (hd 8 50 rfl rfl) brq), (fun f W hst hbl hd hf => aF aJ rfl (hd 9 51 rfl rfl) (hst.get 1 rfl) (i := 1) rfl rfl brq), (fun f W hst hbl hd hf => aC eN ((hf 3 rfl).trans hs31_3) brq), (fun f W hst hbl hd hf => aF aJ rfl (hd 11 53 rfl rfl) (hst.get 3 rfl) (i := 1) rfl rfl brq), (fun f W hst hbl hd hf => aC eU ((hf 5 rfl).trans hs31_5) brq), (fun f W hst hbl hd hf => aF aJ rfl (hd 13 55 rfl rfl) (hst.get 1 rfl) (i := 0) rfl rfl brq), (fun f W hst hbl hd hf => aB (v := I (k : Int)) ((hf 8 rfl).trans hs31_8) brq), (fun f W hst hbl hd hf => gJ (vs := [(0, I r.plan.prio), (1, I (seq + ((bQ was r k).length : Int))), (2, I r.id), (3, I (k : Int))]) (cs := [I r.plan.prio, I (seq + ((bQ was r k).length : Int)), I r.id, I (k : Int)]) (eG (v := I r.plan.prio) (hd 10 52 rfl rfl) (eG (v := I (seq + ((bQ was r k).length : Int))) (hd 12 54 rfl rfl) (eG (v := I r.id) (hd 14 56 rfl rfl) (eG (v := I (k : Int)) (hd 15 57 rfl rfl) gK)))) (by kernel_rfl) brq), ⟨rfl, ?_, True.intro⟩, trivial⟩ ?_
          · intro f W hC hd hf
            have hC_ := hC
            obtain ⟨_, hu, hst, hbl⟩ := hC_
            have st86 : St w W (Res.bx b16 [I 0, I 0, .slice none 0 0, .slice none 0 0] 34 :: Res.bx b11 [I r.id, I r.plan.prio, I r.plan.most, I r.plan.wait, I r.plan.tasks, u1, I r.state, u2] 123 :: Res.bx b6 [I was.id, I was.plan.prio, I was.plan.most, I was.plan.wait, I was.plan.tasks, v1, I was.state, v2] 123 :: Res.bx b1 [I now, I (seq + ((bQ was r k).length : Int)), vs, vr] 34 :: Res.own (α := List (List Entry)) vs (cU (bG r.id).toNat r.plan.prio r.id (bQ was r k) xss seq) fo25 :: rs) := hst
            refine (aZ Tryz.func187 rfl (hd 7 49 rfl rfl) (hd 16 58 rfl rfl) ((tJ W (h85.below hbl) (show Shape.C _ [I r.plan.prio, I (seq + ((bQ was r k).length : Int)), I r.id, I (k : Int)] (⟨r.plan.prio, seq + ((bQ was r k).length : Int), r.id, (k : Int)⟩ : Entry) [] from ⟨rfl, rfl, (by first | exact True.intro | (simp only [Edge.ok, Plan.ok, Entry.ok, Task.ok, Run.ok, Yard.ok, Reply.ok, Deed.ok, Note.ok, Wait.ok, File.ok, Disk.ok, Engine.ok, WorldD.ok, ActD.ok, Hand.ok, Span.ok, Crew.ok, View.ok, I64] at *; omega))⟩) (by omega)).mono ?_)); rintro _ W89 ⟨v87, fp87, rfl, hk90⟩; refine ⟨_, rfl, ?_⟩
            have st91 := St.call st86 hk90
            exact ⟨⟨(v87, fp87), (ce rfl rfl), st91, (hbl.trans (Below.mono hk90.below hbl.size))⟩, Sl.yl (bC (st91.get 0 rfl))⟩
          intro f93 W94 hC hv95 hf96
          have hC_ := hC
          obtain ⟨⟨v87, fp87⟩, hu, hst, hbl98⟩ := hC_
          have st97 : St w W94 (Res.own (α := List Entry) v87 (lU ((cU (bG r.id).toNat r.plan.prio r.id (bQ was r k) xss seq).getD (bG r.id).toNat []) (⟨r.plan.prio, seq + ((bQ was r k).length : Int), r.id, (k : Int)⟩ : Entry)) fp87 :: Res.bx b16 [I 0, I 0, .slice none 0 0, .slice none 0 0] 34 :: Res.bx b11 [I r.id, I r.plan.prio, I r.plan.most, I r.plan.wait, I r.plan.tasks, u1, I r.state, u2] 123 :: Res.bx b6 [I was.id, I was.plan.prio, I was.plan.most, I was.plan.wait, I was.plan.tasks, v1, I was.state, v2] 123 :: Res.bx b1 [I now, I (seq + ((bQ was r k).length : Int)), vs, vr] 34 :: Res.own (α := List (List Entry)) vs (cU (bG r.id).toNat r.plan.prio r.id (bQ was r k) xss seq) fo25 :: rs) := hst
          have hu99 : f93 59 = v87 := congrArg (fun l => l.getD 0 undef) hu
          have st100 := st97.f5
          have hq_ := St.lendx (α := List Entry) (by decide) st100 (x := (cU (bG r.id).toNat r.plan.prio r.id (bQ was r k) xss seq).getD (bG r.id).toNat []) (getD_some (by omega))
          obtain ⟨b101, e101, pre101, cs101, post101, fi101, fr101, hPA101, hC101, st102⟩ := hq_
          have st106 := st102.f1
          have hq_ := st106.uncs1
          obtain ⟨v101, he101, st107⟩ := hq_; subst he101
          skip
          refine sg (aG cM (hv95 1 43 (by decide) rfl) hPA101 (hv95 2 44 (by decide) rfl) (by omega) ?_)
          have st108 := st107.f1
          refine sg (bX (i := 0) (v := v87) (C' := [v87]) (by kernel_rfl) rfl hu99 (Sl.cells (bC (st108.get 3 rfl))) (Sl.one (bC (st108.get 3 rfl))) st108 rfl (Nat.le_of_ble_eq_true rfl) rfl ?_); intro W109 st110
          refine aE (aA (sg (aC eN ((hf96 3 rfl).trans hs31_3) (sg (aF aJ rfl rfl (st110.get 7 rfl) (i := 1) rfl rfl (sg (aP rfl rfl (by (simp only [I64] at *; omega)) (sg (aC eN ((hf96 3 rfl).trans hs31_3) ?_)))))))))
          have st111 := st110.f7
          refine sg (bK (v := I ((seq + ((bQ was r k).length : Int)) + 1)) (C' := [I now, I ((seq + ((bQ was r k).length : Int)) + 1), vs, vr]) (by kernel_rfl) rfl rfl rfl rfl st111 (Nat.le_of_ble_eq_true rfl) rfl ?_); intro W112 st113
          refine aE (aA (sg (aB (v := I (k : Int)) ((hf96 8 rfl).trans hs31_8) (sg (aP rfl rfl (by (simp only [I64] at *; omega)) (sg (aD (v := I ((k : Int) + 1)) rfl (aE ?_))))))))
          have st114 := st113.f4
          have st115 := st114.cs1
          have st116 := st115.f4
          have st117 := st116.f1
          have st118 := st117.f3
          have hq_ := St.give (α := List Entry) st118
          obtain ⟨fp119, st120⟩ := hq_
          have st121 := st120.f1
          have st122 := st121.f5
          have st123 := st122.f5
          have st124 := st123.f5
          have st125 := st124.d5
          exact ⟨_, r.tasks.length - (k + 1), (by omega), rfl, k + 1, fp119, (by omega), rfl, ((hf96 3 rfl).trans hs31_3), ((hf96 4 rfl).trans hs31_4), ((hf96 5 rfl).trans hs31_5), ((hf96 6 rfl).trans hs31_6), ((hf96 7 rfl).trans hs31_7), rfl, (by rw [sY (by omega) h35p (.inr ⟨by omega, h82p⟩), kB, List.length_append, List.length_singleton, show seq + (((bQ was r k).length + 1 : Nat) : Int) = seq + ((bQ was r k).length : Int) + 1 by omega]; exact st125)⟩
    · have h35p := of_decide_eq_false (aS h35)
      iterate 6 refine sgf 26 rfl (by decide) (bF rfl h35) ?_
      iterate 7 refine nL rfl rfl (by decide) (pD rfl) ?_
      refine sgf 26 rfl (by decide) (bF rfl h35) (sg (aN (v := .bool true) ((rfl : _ = (.bool (!decide ((r.tasks[k]'hif4d94).state = 2)) : Value)).trans (congrArg Value.bool h35)) rfl (aE (gV rfl rfl (wp_exit (aA (sg (aB (v := I (k : Int)) hs31_8 (sg (aP rfl rfl (by (simp only [I64] at *; omega)) (sg (aD (v := I ((k : Int) + 1)) rfl (aE ?_)))))))))))))
      exact ⟨_, r.tasks.length - (k + 1), (by omega), rfl, k + 1, fo25, (by omega), rfl, hs31_3, hs31_4, hs31_5, hs31_6, hs31_7, rfl, (by rw [rJ (by omega) h35p]; exact st30)⟩
  · have h32p := of_decide_eq_false h32
    refine wp_exit (wp_seq (aA (sg (aU (cs := [I now, I (seq + ((bQ was r k).length : Int)), vs, vr]) cC rfl hs31_3 (st30.get 3 rfl) rfl rfl (sg (bT (cs := [I now, I (seq + ((bQ was r k).length : Int)), vs, vr]) (C' := [I now, I (seq + ((bQ was r k).length : Int)), vs, vr]) (by kernel_rfl) hs31_6 rfl (aM rfl (aM rfl (aM (Sl.one (bC (st30.get 4 rfl))) (aM hvr dW)))) st30 (Nat.le_of_ble_eq_true rfl) rfl ?_)))))); intro W126 st127
    refine aE (wp_ret ?_); repeat first|refine aH ?_|refine aI ?_
    refine iE cC rfl Tryz.results168 hs31_6 (st127.get 0 rfl) rfl ?_
    have hke : k = r.tasks.length := by omega
    have hfe : bQ was r k = iS was r := by rw [hke]; rfl
    rw [hfe] at st127
    have st128 := st127.f4
    have st129 := st128.d1
    have st130 := st129.d1
    have st131 := st130.d1
    have st132 := st131.d1
    exact ⟨_, by rw [← hfe], st132⟩
end Go.Proofs.YtchnllpegfbleaaGreat
namespace Go.Proofs.YtchnllpegfbleaaGreat
set_option linter.unusedSimpArgs false
set_option linter.unusedVariables false
set_option maxRecDepth 100000
open Go.RowKit

set_option maxHeartbeats 2000000 in
theorem HoldsI_n (w : World) {y : Yard} {cs : List Value} {fp : List Nat} (hc : Shape.C w cs y fp) (id task try_ : Int) (hw : y.wt ≤ 1048576) (hix : gC y id = none) :
    Calls Tryz.prog 109 #[.agg cs.toArray, I id, I task, I try_] w fun e w' => e = .returned (.bool (kI y id task try_)) ∧ St w w' [] := by
  refine wJ Tryz.func109 rfl Tryz.ntmps109 (by decide) (wp_seq (aA (sg (aQ (cs := cs) rfl (St.start w) ?_)))); intro b1 W2 hb3 st4
  refine sg (aD (v := .bool false) rfl (aE (wp_seq (aA (sg (bE cC rfl rfl (st4.get 0 rfl) (Shape.len hc) (sg (aB (v := I id) rfl (sg (aZ Tryz.func98 rfl rfl rfl ((uW W2 (cA hc st4.below) id hw hix).mono ?_))))))))))); rintro _ W6 ⟨rfl, hk7⟩; refine ⟨_, rfl, ?_⟩
  have st8 := St.call st4 hk7
  refine sg (aD (v := I (-1)) rfl (aE (wp_seq (wp_seq (aA (sg (aB (v := I (-1)) rfl (sg (aY rfl rfl (sg (aB (v := .bool (decide ((-1) < 0))) rfl ?_)))))))))))
  rcases bd (decide ((-1) < 0)) with h10 | h10
  · have h10p := of_decide_eq_false h10
    omega
  · have h10p := of_decide_eq_true h10
    iterate 11 refine sgf 16 rfl (by decide) (bF rfl h10) ?_
    refine sg (aN (v := .bool true) ((rfl : _ = (.bool (decide ((-1) < 0)) : Value)).trans (congrArg Value.bool h10)) rfl (aE (gV rfl rfl (wp_seq (aA (sg (aD (v := .bool false) rfl (aE (wp_ret ?_))))))))); repeat first|refine aH ?_|refine aI ?_
    refine aW Tryz.results109 rfl ?_
    exact ⟨(congrArg (fun z => Ending.returned (.bool z)) (by unfold kI; rw [hix])), st8.bare⟩
set_option maxHeartbeats 2000000 in
theorem HoldsI_s (w : World) {y : Yard} {cs : List Value} {fp : List Nat} (hc : Shape.C w cs y fp) (id task try_ : Int) (hw : y.wt ≤ 1048576) {i : Nat} (hix : gC y id = some i) :
    Calls Tryz.prog 109 #[.agg cs.toArray, I id, I task, I try_] w fun e w' => e = .returned (.bool (kI y id task try_)) ∧ St w w' [] := by
  have hil := qO hix
  have hyk := jU hil
  have hrw : y.runs[i].tasks.length ≤ y.runs[i].wt := by unfold Run.wt; omega
  refine wJ Tryz.func109 rfl Tryz.ntmps109 (by decide) (wp_seq (aA (sg (aQ (cs := cs) rfl (St.start w) ?_)))); intro b1 W2 hb3 st4
  refine sg (aD (v := .bool false) rfl (aE (wp_seq (aA (sg (bE cC rfl rfl (st4.get 0 rfl) (Shape.len hc) (sg (aB (v := I id) rfl (sg (aZ Tryz.func98 rfl rfl rfl ((uV W2 (cA hc st4.below) id hw hix).mono ?_))))))))))); rintro _ W6 ⟨rfl, hk7⟩; refine ⟨_, rfl, ?_⟩
  have st8 := St.call st4 hk7
  refine sg (aD (v := I (i : Int)) rfl (aE (wp_seq (wp_seq (aA (sg (aB (v := I (i : Int)) rfl (sg (aY rfl rfl (sg (aB (v := .bool (decide ((i : Int) < 0))) rfl ?_)))))))))))
  rcases bd (decide ((i : Int) < 0)) with h10 | h10
  · have h10p := of_decide_eq_false h10
    refine sgo 16 rfl (by decide) (aL rfl h10) (aB (v := I task) rfl (sgo 16 rfl (by decide) (aL rfl h10) (aC bW rfl ?_)))
    have hk11 := hc
    obtain ⟨v11_0, v11_1, g11_0, g11_1, rfl, hok11, h11_0, h11_1, rfl⟩ := hk11
    refine sgo 16 rfl (by decide) (aL rfl h10) (aF cV rfl rfl (st8.get 0 rfl) (i := 3) rfl rfl (sgo 16 rfl (by decide) (aL rfl h10) (aB (v := I (i : Int)) rfl ?_)))
    have hia2a90 : i < y.runs.length := (by omega)
    have hq_ := idx h11_1 (i := i) hia2a90
    obtain ⟨b12, o12, cs12, f12, hp12, hr12, hc12, hm12⟩ := hq_
    refine sgo 16 rfl (by decide) (aL rfl h10) (aG bV rfl hp12 rfl rfl (sgo 16 rfl (by decide) (aL rfl h10) (aC bJ rfl ?_)))
    have hk13 := hc12
    obtain ⟨v13_0, v13_1, g13_0, g13_1, rfl, hok13, h13_0, h13_1, rfl⟩ := hk13
    refine sgo 16 rfl (by decide) (aL rfl h10) (aK bM rfl rfl hr12 st8.below (i := 7) rfl rfl (sgo 16 rfl (by decide) (aL rfl h10) (aV bD rfl h13_1 (sgo 16 rfl (by decide) (aL rfl h10) (fI rfl rfl (by (simp only [I64] at *; omega)) (sgo 16 rfl (by decide) (aL rfl h10) (bS Tryz.func47 rfl rfl rfl rfl ((eL W6 task 0 (((y.runs[i]'hia2a90).tasks.length : Int) - 1)).mono ?_)))))))); rintro _ W14 ⟨rfl, hk15⟩; refine ⟨_, rfl, ?_⟩
    have st16 := St.call st8 hk15
    refine sgo 16 rfl (by decide) (aL rfl h10) (bO rfl (sg (aO (v := .bool (!(inB task 0 (((y.runs[i]'hia2a90).tasks.length : Int) - 1)))) ((rfl : _ = (.bool (decide ((i : Int) < 0)) : Value)).trans (congrArg Value.bool h10)) rfl (aE (aR rfl (fun h18 => ?_) (fun h18 => ?_))))))
    · have h18p := dN (aS h18)
      refine wp_seq (aA (sg (aD (v := .bool false) rfl (aE (wp_ret ?_))))); repeat first|refine aH ?_|refine aI ?_
      refine aW Tryz.results109 rfl ?_
      exact ⟨(congrArg (fun z => Ending.returned (.bool z)) (by unfold kI; rw [hix]; simp only [List.getElem?_eq_getElem hil, (aS h18), Bool.false_and])), st16.bare⟩
    · have h18p := inB_iff'.1 (aX h18)
      refine wp_skip (wp_seq (aA (sg (aC bW rfl (sg (aF cV rfl rfl (st16.get 0 rfl) (i := 3) rfl rfl (sg (aB (v := I (i : Int)) rfl (sg (aG bV rfl hp12 rfl rfl (sg (aC bJ rfl (sg (aK bM rfl rfl hr12 st16.below (i := 7) rfl rfl (sg (aB (v := I task) rfl ?_))))))))))))))))
      have hi14f77 : (task).toNat < (y.runs[i]'hia2a90).tasks.length := (by omega)
      have hq_ := idx h13_1 (i := (task).toNat) hi14f77
      obtain ⟨b19, o19, cs19, f19, hp19, hr19, hc19, hm19⟩ := hq_
      refine sg (aG bD rfl hp19 rfl (by omega) (sg (bY fJ rfl rfl hr19 st16.below (Shape.len hc19) (sg (bN jO st16 ?_))))); intro b20 W21 hb22 st23
      refine sg (bU (cs := cs19) fJ hc19 rfl rfl st23 rfl ?_); intro W25 st26
      refine aE (wp_seq (aA (sg (aC bP rfl ?_))))
      have hk27 := hc19
      obtain ⟨he27, rfl, hok27⟩ := hk27
      have he27 : _ = [I ((y.runs[i]'hia2a90).tasks[(task).toNat]'hi14f77).state, I ((y.runs[i]'hia2a90).tasks[(task).toNat]'hi14f77).need, I ((y.runs[i]'hia2a90).tasks[(task).toNat]'hi14f77).try_, I ((y.runs[i]'hia2a90).tasks[(task).toNat]'hi14f77).until_] := he27
      subst he27
      refine sg (aF aJ rfl rfl (st26.get 0 rfl) (i := 0) rfl rfl (sg (bA rfl rfl (sg (aB (v := .bool (decide (((y.runs[i]'hia2a90).tasks[(task).toNat]'hi14f77).state = 3))) rfl ?_)))))
      rcases bd (decide (((y.runs[i]'hia2a90).tasks[(task).toNat]'hi14f77).state = 3)) with h28 | h28
      · have h28p := of_decide_eq_false h28
        iterate 4 refine sgf 41 rfl (by decide) (bF rfl h28) ?_
        refine sg (aO (v := .bool false) ((rfl : _ = (.bool (decide (((y.runs[i]'hia2a90).tasks[(task).toNat]'hi14f77).state = 3)) : Value)).trans (congrArg Value.bool h28)) rfl (sg (aD (v := .bool false) rfl (aE (wp_ret ?_))))); repeat first|refine aH ?_|refine aI ?_
        refine aW Tryz.results109 rfl ?_
        have hB_ := (aX h18)
        have htl : task.toNat < y.runs[i].tasks.length := by omega
        exact ⟨(congrArg (fun z => Ending.returned (.bool z)) (by unfold kI; rw [hix]; simp only [List.getElem?_eq_getElem hil, List.getElem?_eq_getElem htl, hB_, h28, Bool.true_and, Bool.and_true, Bool.false_and, Bool.and_false])), st26.bare⟩
      · have h28p := of_decide_eq_true h28
        refine sgo 41 rfl (by decide) (aL rfl h28) (aC eD rfl (sgo 41 rfl (by decide) (aL rfl h28) (aF aJ rfl rfl (st26.get 0 rfl) (i := 2) rfl rfl (sgo 41 rfl (by decide) (aL rfl h28) (aB (v := I try_) rfl (sgo 41 rfl (by decide) (aL rfl h28) (bA rfl rfl (sg (aN (v := .bool (decide (((y.runs[i]'hia2a90).tasks[(task).toNat]'hi14f77).try_ = try_))) ((rfl : _ = (.bool (decide (((y.runs[i]'hia2a90).tasks[(task).toNat]'hi14f77).state = 3)) : Value)).trans (congrArg Value.bool h28)) rfl (sg (aD (v := .bool (decide (((y.runs[i]'hia2a90).tasks[(task).toNat]'hi14f77).try_ = try_))) rfl (aE ?_))))))))))))
        rcases bd (decide (((y.runs[i]'hia2a90).tasks[(task).toNat]'hi14f77).try_ = try_)) with h29 | h29
        · have h29p := of_decide_eq_false h29
          refine wp_ret ?_; repeat first|refine aH ?_|refine aI ?_
          refine aW Tryz.results109 ((rfl : _ = (.bool (decide (((y.runs[i]'hia2a90).tasks[(task).toNat]'hi14f77).try_ = try_)) : Value)).trans (congrArg Value.bool h29)) ?_
          have hB_ := (aX h18)
          have htl : task.toNat < y.runs[i].tasks.length := by omega
          exact ⟨(congrArg (fun z => Ending.returned (.bool z)) (by unfold kI; rw [hix]; simp only [List.getElem?_eq_getElem hil, List.getElem?_eq_getElem htl, hB_, h28, h29, Bool.true_and, Bool.and_true, Bool.false_and, Bool.and_false])), st26.bare⟩
        · have h29p := of_decide_eq_true h29
          refine wp_ret ?_; repeat first|refine aH ?_|refine aI ?_
          refine aW Tryz.results109 ((rfl : _ = (.bool (decide (((y.runs[i]'hia2a90).tasks[(task).toNat]'hi14f77).try_ = try_)) : Value)).trans (congrArg Value.bool h29)) ?_
          have hB_ := (aX h18)
          have htl : task.toNat < y.runs[i].tasks.length := by omega
          exact ⟨(congrArg (fun z => Ending.returned (.bool z)) (by unfold kI; rw [hix]; simp only [List.getElem?_eq_getElem hil, List.getElem?_eq_getElem htl, hB_, h28, h29, Bool.true_and, Bool.and_true, Bool.false_and, Bool.and_false])), st26.bare⟩
  · have h10p := of_decide_eq_true h10
    omega
theorem HoldsI (w : World) {y : Yard} {cs : List Value} {fp : List Nat} (hc : Shape.C w cs y fp) (id task try_ : Int) (hw : y.wt ≤ 1048576)  :
    Calls Tryz.prog 109 #[.agg cs.toArray, I id, I task, I try_] w fun e w' => e = .returned (.bool (kI y id task try_)) ∧ St w w' [] := by
  cases hix : gC y id with
  | none => exact HoldsI_n w hc id task try_ hw hix
  | some i => exact HoldsI_s w hc id task try_ hw hix
end Go.Proofs.YtchnllpegfbleaaGreat
namespace Go.Proofs.YtchnllpegfbleaaGreat
set_option linter.unusedSimpArgs false
set_option linter.unusedVariables false
set_option maxRecDepth 100000
open Go.RowKit


theorem zz_int : gY Tryz.prog 3 [I 0] := by unfold gY; kernel_rfl
theorem runFails_at {r : Run} (h : RunIs r) {i : Nat} {t : Task} (ht : r.tasks[i]? = some t) (h3 : t.state = 3) : eX r (i : Int) = eW r i := by
  have hl := (List.getElem?_eq_some_iff.1 ht).1
  have hb : nI r (i : Int) = true := by
    unfold nI
    rw [runIs.2 h, inB_iff'.2 (show 0 ≤ (i : Int) ∧ (i : Int) ≤ (r.tasks.length : Int) - 1 by omega), Int.toNat_natCast, ht]
    simp [h3]
  unfold eX
  rw [if_pos hb, Int.toNat_natCast, failsS_eq h ht h3]
theorem uH {y : Yard} {k i : Nat} {r : Run} (hr : y.runs[k]? = some r) (hi : i = r.tasks.length) : dM (cN y k) k i = cN y (k + 1) := by
  show _ = dM (cN y k) k (pG y k)
  rw [pF hr, hi]
theorem RI.ok {y out : Yard} {n : Nat} (hy : YardIs y) (h : RI y out n) (hn : n ≤ 1000) : out.ok := by
  have h1 := h.now; have h2 := h.seq; have h3 := hy.now; have h4 := hy.seq
  exact ⟨by unfold I64; omega, by unfold I64; omega⟩
theorem vE {α : Type} (f : α → Nat) (m : Nat) : ∀ xs : List α, (∀ x ∈ xs, f x ≤ m) → (xs.map f).sum ≤ xs.length * m
  | [], _ => by simp
  | x :: xs, h => by
    have h1 := h x (by simp)
    have h2 := vE f m xs (fun z hz => h z (by simp [hz]))
    simp only [List.map_cons, List.sum_cons, List.length_cons, Nat.succ_mul]
    omega
theorem RunIs.wt {r : Run} (h : RunIs r) : r.wt ≤ 42 := by
  have := h.small
  unfold Run.wt Plan.wt
  omega
theorem RI.wt {y out : Yard} {n : Nat} (hy : YardIs y) (h : RI y out n) (hn : n ≤ 1000) : out.wt ≤ 100000 := by
  have h1 := h.shelf
  have h2 := hy.shelf
  have h3 := h.runs
  have h4 := hy.runs
  have hs := vE (fun z : List Entry => z.length) 20000 out.shelf (fun z hz => by
    obtain ⟨s, hs, rfl⟩ := List.getElem_of_mem hz
    have := h.each s (by omega)
    rw [List.getD_eq_getElem?_getD, List.getElem?_eq_getElem hs] at this
    simp only [Option.getD_some] at this
    omega)
  have hr := vE (fun z : Run => z.wt) 42 out.runs (fun z hz => by
    obtain ⟨s, hs, rfl⟩ := List.getElem_of_mem hz
    obtain ⟨r2, e, hR, _⟩ := h.run s _ (List.getElem?_eq_getElem (show s < y.runs.length by omega))
    rw [List.getElem?_eq_getElem hs] at e
    rw [Option.some.inj e]
    exact hR.wt)
  rw [h1, h2] at hs
  have hr2 : out.runs.length * 42 ≤ 8 * 42 := Nat.mul_le_mul_right _ (by omega)
  unfold Yard.wt wtL
  omega
theorem RI.chg {y out : Yard} {n : Nat} (hy : YardIs y) (h : RI y out n) (hn : n ≤ 1000) (id : Int) : 4 ≤ out.shelf.length ∧ (out.shelf.getD (bG id).toNat []).length ≤ 1000000 ∧ (0 ≤ out.seq ∧ out.seq ≤ 4000000000) := by
  have h1 := h.shelf; have h2 := hy.shelf; have h3 := jD id; have h4 := h.each (bG id).toNat (by omega); have h5 := h.seq; have h6 := hy.seq
  refine ⟨by omega, by omega, by omega⟩

set_option maxHeartbeats 2000000 in
theorem TurnS {w W0 : World} {rs : List Res} {k : Nat} {y : Yard} {vs vr : Value} {fp fq fr : List Nat} {csr : List Value} {was r : Run} (hst : St w W0 (Res.own vs y.shelf fp :: Res.own vr y.runs fq :: Res.own (.agg csr.toArray) r fr :: rs)) (hk : y.runs[k]? = some was) (hss : 4 ≤ y.shelf.length) (hrl : r.tasks.length ≤ 1000) (hln : (y.shelf.getD (bG r.id).toNat []).length ≤ 1000000) (hsq : 0 ≤ y.seq ∧ y.seq ≤ 4000000000) :
    Calls Tryz.prog 104 #[.agg #[I y.now, I y.seq, vs, vr], I (k : Int), .agg csr.toArray] W0 fun e w' => ∃ (fp' fq' : List Nat), e = .returned (.agg #[I (gE y k was r).now, I (gE y k was r).seq, vs, vr]) ∧ St w w' (Res.own vs (gE y k was r).shelf fp' :: Res.own vr (gE y k was r).runs fq' :: rs) := by
  refine nV Tryz.func104 rfl Tryz.ntmps104 (by decide) (wp_seq (aA (sg (aQ (cs := [I y.now, I y.seq, vs, vr]) rfl hst ?_)))); intro b1 W2 hb3 st4
  refine sg (aQ (cs := csr) rfl st4 ?_); intro b6 W7 hb8 st9
  refine sg (bN hZ st9 ?_); intro b11 W12 hb13 st14
  refine aE (wp_seq (aA (sg (aC bW rfl (sg (aF cV rfl rfl (st14.get 2 rfl) (i := 3) rfl rfl (sg (aB (v := I (k : Int)) rfl ?_))))))))
  have st16 := st14.f4
  have hq_ := St.lendx (α := Run) (by decide) st16 (x := was) hk
  obtain ⟨b17, e17, pre17, cs17, post17, fi17, fr17, hPA17, hC17, st18⟩ := hq_
  have st22 := st18.f1
  have st23 := st22.uncs rfl
  skip
  refine sg (aG bV rfl hPA17 rfl rfl (sg (stp_load_bpa cY rfl rfl (st23.get 1 rfl) rfl (Shape.len (dR (st23.get 0 rfl) rfl)) (sg (bN jI st23 ?_))))); intro b24 W25 hb26 st27
  refine sg (bU (cs := cs17) cY (dR (st27.get 1 rfl) rfl) rfl rfl st27 rfl ?_); intro W29 st30
  refine aE (wp_seq (aA (sg (aC bW rfl (sg (aF cV rfl rfl (st30.get 6 rfl) (i := 3) rfl rfl (sg (aB (v := I (k : Int)) rfl (sg (bE cY rfl rfl (st30.get 5 rfl) (Shape.len (dR (st30.get 8 rfl) rfl)) (sg (aG bV rfl hPA17 rfl rfl ?_))))))))))))
  have st31 := st30.f2
  refine sg (stp_store_bpa (cs := csr) cY (dR (st31.get 8 rfl) rfl) rfl rfl st31 rfl (Shape.len (dR (st31.get 2 rfl) rfl)) ?_); intro W32 st33
  refine aE (wp_seq (aA (sg (aU (cs := [I y.now, I y.seq, vs, vr]) cC rfl rfl (st33.get 6 rfl) rfl rfl (sg (bE cY rfl rfl (st33.get 1 rfl) (Shape.len (dR (st33.get 2 rfl) rfl)) (sg (bE cY rfl rfl (st33.get 5 rfl) (Shape.len (dR (st33.get 8 rfl) rfl)) ?_))))))))
  have st35 := st33.f7
  refine sg (bS Tryz.func168 rfl rfl rfl rfl ((LayS st35 (wP hPA17) (fun W_ h_ => ⟨_, dR (h_.get 2 rfl) rfl⟩) (fun W_ h_ => ⟨_, dR (h_.get 7 rfl) rfl⟩) hss (by omega) hln hsq).mono ?_)); rintro _ W34 ⟨fs36, rfl, st37⟩; refine ⟨_, rfl, ?_⟩
  have st38 := st37.f5
  refine sg (bT (cs := [I y.now, I (y.seq + ((iS was r).length : Int)), vs, vr]) (C' := [I y.now, I (y.seq + ((iS was r).length : Int)), vs, vr]) (by kernel_rfl) rfl rfl (aM rfl (aM rfl (aM (Sl.one (bC (st38.get 1 rfl))) (aM (wP hPA17) dW)))) st38 (Nat.le_of_ble_eq_true rfl) rfl ?_); intro W39 st40
  refine aE (wp_ret ?_); repeat first|refine aH ?_|refine aI ?_
  refine iE cC rfl Tryz.results104 rfl (st40.get 0 rfl) rfl ?_
  have st41 := st40.f8
  have st42 := st41.cs rfl
  have st43 := st42.f6
  have st44 := st43.f1
  have st45 := st44.f4
  have hq_ := St.give (α := Run) st45
  obtain ⟨fp46, st47⟩ := hq_
  have st48 := st47.f2
  have st49 := st48.d2
  have st50 := st49.d2
  have st51 := st50.d2
  have st52 := st51.d2
  have st53 := st52.d2
  exact ⟨_, _, rfl, st53⟩
set_option maxHeartbeats 2000000 in
theorem RestartC {w W0 : World} {ty : TypeId} {rs : List Res} {b : Nat} {pre cs post : List Value} {r : Run} {fp : List Nat} (hst : St w W0 (Res.bx b (pre ++ cs ++ post) ty :: Res.own (.agg cs.toArray) r fp :: rs)) {bt : Nat} {tt : TypeId} (i : Nat) {t : Task} (hB : ∀ W', St w W' rs → (Res.bx bt [I (i : Int)] tt).holds W') (hti : r.tasks[i]? = some t) (hw : r.tasks.length ≤ 1048576) :
    Calls Tryz.prog 111 #[.pointer (some ⟨b, pre.length, none⟩), .pointer (some ⟨bt, 0, none⟩)] W0 fun e w' => ∃ (cs' : List Value) (fp' : List Nat), e = .returned (.tuple #[]) ∧ St w w' (Res.bx b (pre ++ cs' ++ post) ty :: Res.own (.agg cs'.toArray) (eW r i) fp' :: rs) := by
  refine cF Tryz.func111 rfl Tryz.ntmps111 (by decide) (aA (sg (aB (v := .pointer (some ⟨b, pre.length, none⟩)) rfl (sg (aK aJ rfl rfl (cD (hB _ (St.dropn 2 hst))) (Below.refl _ _) (i := 0) rfl rfl ?_)))))
  have st2 := hst.f1
  have st3 := st2.f1
  refine sg (aZ Tryz.func112 rfl rfl rfl ((FailsI st3 i hti hw).mono ?_)); rintro _ W1 ⟨cs4, fp4, rfl, st5⟩; refine ⟨_, rfl, ?_⟩
  refine aE ?_
  repeat (first | refine kK ?_ | refine mP ?_ | refine kQ rfl ?_)
  refine wK Tryz.results111 ?_
  have st7 := st5.f1
  have st8 := st7.f1
  exact ⟨_, _, rfl, st8⟩
set_option maxHeartbeats 2000000 in
theorem uY (w : World) {y : Yard} {cs : List Value} {fp : List Nat} (hc : Shape.C w cs y fp) (hw : y.wt ≤ 1048576) :
    Calls Tryz.prog 54 #[.agg cs.toArray] w fun e w' => ∃ (cs' : List Value) (fp' : List Nat), e = .returned (.agg cs'.toArray) ∧ St w w' [Res.own (.agg cs'.toArray) (cI y) fp'] := by
  refine dU Tryz.func54 rfl Tryz.ntmps54 (by decide) (wp_seq (aA (sg (aQ (cs := cs) rfl (St.start w) ?_)))); intro b1 W2 hb3 st4
  refine sg (bN hZ st4 ?_); intro b6 W7 hb8 st9
  refine aE (wp_seq (aA (sg (bE cC rfl rfl (st9.get 1 rfl) (Shape.len hc) (sg (bI Tryz.func108 rfl rfl ((CopyYardI W7 (cA hc st9.below) (by omega)).mono ?_))))))); rintro _ W13 ⟨cs11, fp11, rfl, hk14⟩; refine ⟨_, rfl, ?_⟩
  have st15 := St.call st9 hk14
  refine sg (bN hZ st15 ?_); intro b17 W18 hb19 st20
  refine sg (bU (cs := cs11) cC (dR (st20.get 1 rfl) rfl) rfl rfl st20 rfl ?_); intro W22 st23
  refine aE (wp_seq (wp_seq (aA (sg (bE cC rfl rfl (st23.get 3 rfl) (Shape.len hc) (sg (bI Tryz.func46 rfl rfl ((wC W22 (cA hc st23.below) (by omega)).mono ?_)))))))); rintro _ W24 ⟨rfl, hk25⟩; refine ⟨_, rfl, ?_⟩
  have st26 := St.call st23 hk25
  refine sg (bO rfl (aE (aR rfl (fun h28 => ?_) (fun h28 => ?_))))
  · refine wp_seq (aA (sg (bE cC rfl rfl (st26.get 0 rfl) (Shape.len (dR (st26.get 1 rfl) rfl)) ?_)))
    have st29 := st26.f2
    refine sg (bU (cs := cs11) cC (dR (st29.get 2 rfl) rfl) rfl rfl st29 rfl ?_); intro W30 st31
    refine aE (wp_ret ?_); repeat first|refine aH ?_|refine aI ?_
    refine iE cC rfl Tryz.results54 rfl (st31.get 0 rfl) (Shape.len (dR (st31.get 2 rfl) rfl)) ?_
    have st32 := st31.f2
    have st33 := st32.d1
    have st34 := st33.d1
    have st35 := st34.d1
    have hfe : cI y = y := by unfold cI; rw [(aS h28)]; rfl
    rw [hfe]
    exact ⟨_, _, rfl, st35⟩
  · refine wp_skip (wp_seq (wp_seq ?_))
    have hY := tK (aX h28)
    have hrl8 := hY.runs
    refine aA (sg (aC bW rfl ?_))
    have hk36 := hc
    obtain ⟨v36_0, v36_1, g36_0, g36_1, rfl, hok36, h36_0, h36_1, rfl⟩ := hk36
    refine sg (aF cV rfl rfl (st26.get 3 rfl) (i := 3) rfl rfl (sg (aV bV rfl h36_1 (sg (aB (v := I 0) rfl (aE (wp_block ?_)))))))
    have st37 := st26.f1
    have hq_ := jT st37
    obtain ⟨v38_0, v38_1, g38_0, g38_1, he38, hok38, st39⟩ := hq_
    subst he38
    refine bH (fun (m : Nat) (f : Nat → Value) (W : World) => ∃ (k : Nat) (fo42 : List Nat) (fo43 : List Nat), k ≤ y.runs.length ∧ m = y.runs.length - k ∧ f 2 = .pointer (some ⟨b6, 0, none⟩) ∧ f 3 = .pointer (some ⟨b17, 0, none⟩) ∧ f 15 = v36_1 ∧ f 16 = I (y.runs.length : Int) ∧ f 17 = I (k : Int) ∧ St w W ([Res.own (α := List (List Entry)) v38_0 (cN y k).shelf fo42, Res.own (α := List Run) v38_1 (cN y k).runs fo43, Res.bx b17 [I (cN y k).now, I (cN y k).seq, v38_0, v38_1] 34, Res.bx b6 [I 0, I 0, .slice none 0 0, .slice none 0 0] 34, Res.bx b1 [I y.now, I y.seq, v36_0, v36_1] 34])) (y.runs.length - 0) ?_ ?_
    · exact ⟨0, g38_0, g38_1, Nat.zero_le _, rfl, rfl, rfl, rfl, rfl, rfl, st39⟩
    intro m44 f45 W46 hJ47
    obtain ⟨k, fo42, fo43, hkl, rfl, hs49_2, hs49_3, hs49_15, hs49_16, hs49_17, st48⟩ := hJ47
    refine wp_seq (aA (sg (aY hs49_17 hs49_16 (aE (wp_seq (aR rfl (fun h50 => ?_) (fun h50 => ?_)))))))
    · have h50p := of_decide_eq_true h50
      refine wp_skip (wp_seq (wp_block (wp_seq (aA (sg (aB (v := I (k : Int)) hs49_17 ?_))))))
      have hq_ := fW (xs := y.runs) (i := k) (by omega)
      obtain ⟨r1, hr1⟩ := hq_
      skip
      have hi24e2d : k < y.runs.length := (List.getElem?_eq_some_iff.1 hr1).1
      have hq_ := pQ h36_1 (i := k) hr1
      obtain ⟨b51, o51, cs51, f51, hp51, hr51, hc51, hm51⟩ := hq_
      refine sg (aG bV hs49_15 hp51 hs49_17 rfl (sg (bY cY rfl rfl hr51 st48.below (Shape.len hc51) (sg (bN jI st48 ?_))))); intro b52 W53 hb54 st55
      refine sg (aD (v := I (k : Int)) rfl (sg (bU (cs := cs51) cY hc51 rfl rfl st55 rfl ?_))); intro W57 st58
      refine aE (wp_seq (aA (sg (aC bJ rfl ?_))))
      have hk59 := hc51
      obtain ⟨v59_0, v59_1, g59_0, g59_1, rfl, hok59, h59_0, h59_1, rfl⟩ := hk59
      refine sg (aF bM rfl rfl (st58.get 0 rfl) (i := 7) rfl rfl (sg (aV bD rfl h59_1 (sg (aB (v := I 0) rfl (aE (wp_block (bH (fun (m : Nat) (f : Nat → Value) (W : World) => ∃ (i : Nat) (fo60 : List Nat) (fo61 : List Nat), i ≤ r1.tasks.length ∧ m = r1.tasks.length - i ∧ f 2 = .pointer (some ⟨b6, 0, none⟩) ∧ f 3 = .pointer (some ⟨b17, 0, none⟩) ∧ f 4 = I (k : Int) ∧ f 5 = .pointer (some ⟨b52, 0, none⟩) ∧ f 15 = v36_1 ∧ f 16 = I (y.runs.length : Int) ∧ f 17 = I (k : Int) ∧ f 23 = v59_1 ∧ f 24 = I (r1.tasks.length : Int) ∧ f 25 = I (i : Int) ∧ St w W ([Res.bx b52 [I r1.id, I r1.plan.prio, I r1.plan.most, I r1.plan.wait, I r1.plan.tasks, v59_0, I r1.state, v59_1] 123, Res.own (α := List (List Entry)) v38_0 (dM (cN y k) k i).shelf fo60, Res.own (α := List Run) v38_1 (dM (cN y k) k i).runs fo61, Res.bx b17 [I (dM (cN y k) k i).now, I (dM (cN y k) k i).seq, v38_0, v38_1] 34, Res.bx b6 [I 0, I 0, .slice none 0 0, .slice none 0 0] 34, Res.bx b1 [I y.now, I y.seq, v36_0, v36_1] 34])) (r1.tasks.length - 0) ?_ ?_))))))))
      · exact ⟨0, fo42, fo43, Nat.zero_le _, rfl, hs49_2, hs49_3, rfl, rfl, hs49_15, hs49_16, hs49_17, rfl, rfl, rfl, st58⟩
      intro m62 f63 W64 hJ65
      obtain ⟨i, fo60, fo61, hil, rfl, hs67_2, hs67_3, hs67_4, hs67_5, hs67_15, hs67_16, hs67_17, hs67_23, hs67_24, hs67_25, st66⟩ := hJ65
      refine wp_seq (aA (sg (aY hs67_25 hs67_24 (aE (wp_seq (aR rfl (fun h68 => ?_) (fun h68 => ?_)))))))
      · have h68p := of_decide_eq_true h68
        refine wp_skip (wp_seq (wp_block (wp_seq (aA (sg (aB (v := I (i : Int)) hs67_25 ?_))))))
        have hq_ := fW (xs := r1.tasks) (i := i) (by omega)
        obtain ⟨t1, ht1⟩ := hq_
        have hsm1 := (hY.run k r1 hr1).1.small
        have hn12 : 12 * k + i ≤ 1000 := by omega
        have hRIk := RI.at hY (k := k) (i := i) (by omega)
        have hq_ := hRIk.holds hY hr1 ht1
        obtain ⟨r2, t2, hr2, hRI2, ht2, hhb⟩ := hq_
        skip
        have hi2eae1 : i < r1.tasks.length := (List.getElem?_eq_some_iff.1 ht1).1
        have hq_ := pQ h59_1 (i := i) ht1
        obtain ⟨b69, o69, cs69, f69, hp69, hr69, hc69, hm69⟩ := hq_
        refine sg (aG bD hs67_23 hp69 hs67_25 rfl (sg (bY fJ rfl rfl hr69 st66.below (Shape.len hc69) (sg (bN zz_int st66 ?_))))); intro b70 W71 hb72 st73
        refine sg (bN jO st73 ?_); intro b75 W76 hb77 st78
        have st80 := st78.f1
        refine sg (bK (v := I (i : Int)) (C' := [I (i : Int)]) (by kernel_rfl) rfl rfl rfl rfl st80 (Nat.le_of_ble_eq_true rfl) rfl ?_); intro W81 st82
        have st83 := st82.f1
        refine sg (bU (cs := cs69) fJ hc69 rfl rfl st83 rfl ?_); intro W84 st85
        refine aE (wp_seq (aA (sg (aU (cs := [I (dM (cN y k) k i).now, I (dM (cN y k) k i).seq, v38_0, v38_1]) cC rfl hs67_3 (st85.get 5 rfl) rfl rfl (sg (aC eU hs67_5 (sg (aF aJ rfl rfl (st85.get 2 rfl) (i := 0) rfl rfl (sg (aF aJ rfl rfl (st85.get 1 rfl) (i := 0) rfl rfl (sg (aC eD rfl ?_))))))))))))
        have hk86 := hc69
        obtain ⟨he86, rfl, hok86⟩ := hk86
        have he86 : _ = [I t1.state, I t1.need, I t1.try_, I t1.until_] := he86
        subst he86
        refine sg (aF aJ rfl rfl (st85.get 0 rfl) (i := 2) rfl rfl ?_)
        have hwO : (dM (cN y k) k i).wt ≤ 1048576 := Nat.le_trans (hRIk.wt hY hn12) (by omega)
        skip
        refine sg (stp_call4 Tryz.func109 rfl rfl rfl rfl rfl ((HoldsI W84 (show Shape.C _ [I (dM (cN y k) k i).now, I (dM (cN y k) k i).seq, v38_0, v38_1] (dM (cN y k) k i) _ from ⟨_, _, _, _, rfl, (hRIk.ok hY hn12), (bC (st85.get 3 rfl)), (bC (st85.get 4 rfl)), rfl⟩) r1.id (i : Int) t1.try_ (by omega)).mono ?_)); rintro _ W87 ⟨rfl, hk88⟩; refine ⟨_, rfl, ?_⟩
        have st89 := St.call st85 hk88
        refine aE (aR rfl (fun h91 => ?_) (fun h91 => ?_))
        · refine aA (sg (aB (v := I (k : Int)) hs67_4 (sg (kV tO (sM (v := .pointer (some ⟨b70, 0, none⟩)) rfl tO) ?_))))
          have HH := h91
          skip
          have st93 := st89.f4
          have st94 := st93.f4
          have st95 := st94.f5
          have h3 : t2.state = 3 := by simpa using hhb.symm.trans HH
          have ch_q0 := hRIk.chg hY hn12 (eW r2 i).id
          obtain ⟨ch_s, ch_n, ch_q⟩ := ch_q0
          have ch_r := hr2
          have ch_R := hRI2.fails ht2 h3
          have ch_l : r2.tasks.length ≤ 1000 := by have := hRI2.small; omega
          have ch_l2 : (eW r2 i).tasks.length ≤ 1000 := by have := ch_R.small; omega
          have ch_ok := ch_R.small.1
          refine sg (bS Tryz.func110 rfl hs67_3 rfl rfl ((ChangeI (y := (dM (cN y k) k i)) (k := k) (r := r2) (r' := (eW r2 i)) (capt := [.pointer (some ⟨b70, 0, none⟩)]) st95 ch_r ch_l ch_l2 ch_ok ch_s ch_n ch_q Tryz.func111 rfl (fun W1_ rs1_ b1_ pre1_ cs1_ post1_ fp1_ ty1_ hh_ hs_ => RestartC hs_ i (fun W_ h_ => (hh_ W_ h_).get 1 rfl) ht2 (by omega))).mono ?_)); rintro _ W92 ⟨fs96, fq96, rfl, st97⟩; refine ⟨_, rfl, ?_⟩
          have st98 : St w W92 ([Res.bx b17 [I (gE (dM (cN y k) k i) k r2 (eW r2 i)).now, I (gE (dM (cN y k) k i) k r2 (eW r2 i)).seq, v38_0, v38_1] 34, Res.own (α := List (List Entry)) v38_0 (gE (dM (cN y k) k i) k r2 (eW r2 i)).shelf fs96, Res.own (α := List Run) v38_1 (gE (dM (cN y k) k i) k r2 (eW r2 i)).runs fq96, Res.bx b75 [I t1.state, I t1.need, I t1.try_, I t1.until_] 140, Res.bx b70 [I (i : Int)] 3, Res.bx b52 [I r1.id, I r1.plan.prio, I r1.plan.most, I r1.plan.wait, I r1.plan.tasks, v59_0, I r1.state, v59_1] 123, Res.bx b6 [I 0, I 0, .slice none 0 0, .slice none 0 0] 34, Res.bx b1 [I y.now, I y.seq, v36_0, v36_1] 34]) := st97
          refine aE (aA (sg (aP hs67_25 rfl (by (simp only [I64] at *; omega)) (sg (aB (v := I ((i : Int) + 1)) rfl (aE ?_))))))
          have st99 := st98.f7
          have st100 := st99.f7
          have st101 := st100.f2
          have st102 := st101.f4
          have st103 := st102.f4
          have st104 := st103.f7
          have st105 := st104.d6
          have st106 := st105.d6
          exact ⟨_, r1.tasks.length - (i + 1), (by omega), rfl, i + 1, fs96, fq96, (by omega), rfl, hs67_2, hs67_3, hs67_4, hs67_5, hs67_15, hs67_16, hs67_17, hs67_23, hs67_24, rfl, (by rw [show dM (cN y k) k (i + 1) = gE (dM (cN y k) k i) k r2 (eW r2 i) from vK hr2 ht2 h3]; exact st106)⟩
        · refine wp_skip (aA (sg (aP hs67_25 rfl (by (simp only [I64] at *; omega)) (sg (aB (v := I ((i : Int) + 1)) rfl (aE ?_))))))
          have st107 := st89.f7
          have st108 := st107.f7
          have st109 := st108.f7
          have st110 := st109.f7
          have st111 := st110.f7
          have st112 := st111.f7
          have st113 := st112.d6
          have st114 := st113.d6
          exact ⟨_, r1.tasks.length - (i + 1), (by omega), rfl, i + 1, fo60, fo61, (by omega), rfl, hs67_2, hs67_3, hs67_4, hs67_5, hs67_15, hs67_16, hs67_17, hs67_23, hs67_24, rfl, (by rw [show dM (cN y k) k (i + 1) = (dM (cN y k) k i) from vL hr2 ht2 (by simpa using hhb.symm.trans h91)]; exact st114)⟩
      · have h68p := of_decide_eq_false h68
        refine wp_exit (aA (sg (aP hs67_17 rfl (by (simp only [I64] at *; omega)) (sg (aB (v := I ((k : Int) + 1)) rfl (aE ?_))))))
        have st115 := st66.f5
        have st116 := st115.f5
        have st117 := st116.f5
        have st118 := st117.f5
        have st119 := st118.f5
        have st120 := st119.d5
        exact ⟨_, y.runs.length - (k + 1), (by omega), rfl, k + 1, fo60, fo61, (by omega), rfl, hs67_2, hs67_3, hs67_15, hs67_16, rfl, (by rw [← uH hr1 (show i = r1.tasks.length by omega)]; exact st120)⟩
    · have h50p := of_decide_eq_false h50
      refine wp_exit (wp_seq (aA (sg (aU (cs := [I (cN y k).now, I (cN y k).seq, v38_0, v38_1]) cC rfl hs49_3 (st48.get 2 rfl) rfl rfl ?_))))
      have st121 := st48.f3
      refine sg (bT (cs := [I (cN y k).now, I (cN y k).seq, v38_0, v38_1]) (C' := [I (cN y k).now, I (cN y k).seq, v38_0, v38_1]) (by kernel_rfl) hs49_2 rfl (aM rfl (aM rfl (aM (Sl.one (bC (st121.get 1 rfl))) (aM (Sl.one (bC (st121.get 2 rfl))) dW)))) st121 (Nat.le_of_ble_eq_true rfl) rfl ?_); intro W122 st123
      refine aE (wp_ret ?_); repeat first|refine aH ?_|refine aI ?_
      refine iE cC rfl Tryz.results54 hs49_2 (st123.get 0 rfl) rfl ?_
      have hke : k = y.runs.length := by omega
      have hfe : cN y k = cI y := by unfold cI; rw [(aX h28), hke]; rfl
      have hok_ := (RI.outer hY k hkl).ok hY (by have := hY.runs; omega)
      rw [hfe] at st123 hok_
      have st124 := st123.f2
      have st125 := st124.f2
      have st126 := iU (x := (cI y)) st125 hok_
      have st128 := st126.d1
      have st129 := st128.d1
      have st130 := st129.d1
      rw [hfe]
      exact ⟨_, _, rfl, st130⟩
set_option maxHeartbeats 2000000 in
theorem uX (w : World) {y : Yard} {cs : List Value} {fp : List Nat} (hc : Shape.C w cs y fp) (hw : y.wt ≤ 1048576) :
    Calls Tryz.prog 51 #[.agg cs.toArray] w fun e w' => ∃ (cs' : List Value) (fp' : List Nat), e = .returned (.agg cs'.toArray) ∧ St w w' [Res.own (.agg cs'.toArray) (cI y) fp'] := by
  refine dU Tryz.func51 rfl Tryz.ntmps51 (by decide) (wp_seq (aA (sg (aQ (cs := cs) rfl (St.start w) ?_)))); intro b1 W2 hb3 st4
  refine sg (bN hZ st4 ?_); intro b6 W7 hb8 st9
  refine aE (wp_seq (aA (sg (bE cC rfl rfl (st9.get 1 rfl) (Shape.len hc) (sg (bI Tryz.func71 rfl rfl ((CopyYardS W7 (cA hc st9.below) (by omega)).mono ?_))))))); rintro _ W13 ⟨cs11, fp11, rfl, hk14⟩; refine ⟨_, rfl, ?_⟩
  have st15 := St.call st9 hk14
  refine sg (bN hZ st15 ?_); intro b17 W18 hb19 st20
  refine sg (bU (cs := cs11) cC (dR (st20.get 1 rfl) rfl) rfl rfl st20 rfl ?_); intro W22 st23
  refine aE (wp_seq (wp_seq (aA (sg (bE cC rfl rfl (st23.get 3 rfl) (Shape.len hc) (sg (bI Tryz.func42 rfl rfl ((wB W22 (cA hc st23.below) (by omega)).mono ?_)))))))); rintro _ W24 ⟨rfl, hk25⟩; refine ⟨_, rfl, ?_⟩
  have st26 := St.call st23 hk25
  refine sg (bO rfl (aE (aR rfl (fun h28 => ?_) (fun h28 => ?_))))
  · refine wp_seq (aA (sg (bE cC rfl rfl (st26.get 0 rfl) (Shape.len (dR (st26.get 1 rfl) rfl)) ?_)))
    have st29 := st26.f2
    refine sg (bU (cs := cs11) cC (dR (st29.get 2 rfl) rfl) rfl rfl st29 rfl ?_); intro W30 st31
    refine aE (wp_ret ?_); repeat first|refine aH ?_|refine aI ?_
    refine iE cC rfl Tryz.results51 rfl (st31.get 0 rfl) (Shape.len (dR (st31.get 2 rfl) rfl)) ?_
    have st32 := st31.f2
    have st33 := st32.d1
    have st34 := st33.d1
    have st35 := st34.d1
    have hfe : cI y = y := by unfold cI; rw [(aS h28)]; rfl
    rw [hfe]
    exact ⟨_, _, rfl, st35⟩
  · refine wp_skip (wp_seq (wp_seq ?_))
    have hY := tK (aX h28)
    have hrl8 := hY.runs
    refine aA (sg (aD (v := I 0) rfl (aE (wp_block ?_))))
    have st36 := st26.f1
    have hq_ := jT st36
    obtain ⟨v37_0, v37_1, g37_0, g37_1, he37, hok37, st38⟩ := hq_
    subst he37
    refine bH (fun (m : Nat) (f : Nat → Value) (W : World) => ∃ (k : Nat) (fo41 : List Nat) (fo42 : List Nat), k ≤ y.runs.length ∧ m = y.runs.length - k ∧ f 2 = .pointer (some ⟨b6, 0, none⟩) ∧ f 3 = .pointer (some ⟨b17, 0, none⟩) ∧ f 4 = I (k : Int) ∧ St w W ([Res.own (α := List (List Entry)) v37_0 (cN y k).shelf fo41, Res.own (α := List Run) v37_1 (cN y k).runs fo42, Res.bx b17 [I (cN y k).now, I (cN y k).seq, v37_0, v37_1] 34, Res.bx b6 [I 0, I 0, .slice none 0 0, .slice none 0 0] 34, Res.bx b1 cs 34])) (y.runs.length - 0) ?_ ?_
    · exact ⟨0, g37_0, g37_1, Nat.zero_le _, rfl, rfl, rfl, rfl, st38⟩
    intro m43 f44 W45 hJ46
    obtain ⟨k, fo41, fo42, hkl, rfl, hs48_2, hs48_3, hs48_4, st47⟩ := hJ46
    have hRO := (RI.outer hY k hkl).runs
    refine wp_seq (wp_seq (aA (sg (aB (v := I (k : Int)) hs48_4 (sg (aC bW hs48_3 (sg (aF cV rfl rfl (st47.get 2 rfl) (i := 3) rfl rfl (sg (aV bV rfl (bC (st47.get 1 rfl)) (sg (aY rfl rfl (aE (aR rfl (fun h49 => ?_) (fun h49 => ?_)))))))))))))))
    · have h49p := of_decide_eq_true h49
      refine wp_skip (wp_seq (wp_block (wp_seq ?_)))
      have hq_ := fW (xs := y.runs) (i := k) (by omega)
      obtain ⟨r1, hr1⟩ := hq_
      have hsm1 := (hY.run k r1 hr1).1.small
      refine aA (sg (aD (v := I 0) rfl (aE (wp_block (bH (fun (m : Nat) (f : Nat → Value) (W : World) => ∃ (i : Nat) (fo50 : List Nat) (fo51 : List Nat), i ≤ r1.tasks.length ∧ m = r1.tasks.length - i ∧ f 2 = .pointer (some ⟨b6, 0, none⟩) ∧ f 3 = .pointer (some ⟨b17, 0, none⟩) ∧ f 4 = I (k : Int) ∧ f 5 = I (i : Int) ∧ St w W ([Res.own (α := List (List Entry)) v37_0 (dM (cN y k) k i).shelf fo50, Res.own (α := List Run) v37_1 (dM (cN y k) k i).runs fo51, Res.bx b17 [I (dM (cN y k) k i).now, I (dM (cN y k) k i).seq, v37_0, v37_1] 34, Res.bx b6 [I 0, I 0, .slice none 0 0, .slice none 0 0] 34, Res.bx b1 cs 34])) (r1.tasks.length - 0) ?_ ?_)))))
      · exact ⟨0, fo41, fo42, Nat.zero_le _, rfl, hs48_2, hs48_3, hs48_4, rfl, st47⟩
      intro m52 f53 W54 hJ55
      obtain ⟨i, fo50, fo51, hil, rfl, hs57_2, hs57_3, hs57_4, hs57_5, st56⟩ := hJ55
      have hn12 : 12 * k + i ≤ 1000 := by omega
      have hRIk := RI.at hY (k := k) (i := i) (by omega)
      have hq_ := hRIk.run k r1 hr1
      obtain ⟨r2, hr2, hRI2, hid2, hlen2, htk2⟩ := hq_
      have hw2 : r2.wt ≤ 1048576 := by have := hRI2.wt; omega
      have hwO : (dM (cN y k) k i).wt ≤ 1048576 := Nat.le_trans (hRIk.wt hY hn12) (by omega)
      have hROk := hRIk.runs
      have hr2l := (List.getElem?_eq_some_iff.1 hr2).1
      refine wp_seq (wp_seq (aA (sg (aB (v := I (i : Int)) hs57_5 (sg (aC bW hs57_3 (sg (aF cV rfl rfl (st56.get 2 rfl) (i := 3) rfl rfl (sg (aB (v := I (k : Int)) hs57_4 ?_))))))))))
      have hi59b0e : k < (dM (cN y k) k i).runs.length := (List.getElem?_eq_some_iff.1 hr2).1
      have hq_ := pQ (bC (st56.get 1 rfl)) (i := k) hr2
      obtain ⟨b58, o58, cs58, f58, hp58, hr58, hc58, hm58⟩ := hq_
      refine sg (aG bV rfl hp58 rfl rfl (sg (aC bJ rfl ?_)))
      have hk59 := hc58
      obtain ⟨v59_0, v59_1, g59_0, g59_1, rfl, hok59, h59_0, h59_1, rfl⟩ := hk59
      refine sg (aK bM rfl rfl hr58 (Below.refl _ _) (i := 7) rfl rfl (sg (aV bD rfl h59_1 (sg (aY rfl rfl (aE (aR rfl (fun h60 => ?_) (fun h60 => ?_))))))))
      · have h60p := of_decide_eq_true h60
        refine wp_skip (wp_seq (wp_block (wp_seq (aA (sg (aC bW hs57_3 (sg (aF cV rfl rfl (st56.get 2 rfl) (i := 3) rfl rfl (sg (aB (v := I (k : Int)) hs57_4 (sg (aG bV rfl hp58 rfl rfl (sg (aC bJ rfl (sg (aK bM rfl rfl hr58 (Below.refl _ _) (i := 7) rfl rfl (sg (aB (v := I (i : Int)) hs57_5 ?_))))))))))))))))))
        have hq_ := fW (xs := r2.tasks) (i := i) (by omega)
        obtain ⟨t2, ht2⟩ := hq_
        skip
        have hi435dd : i < r2.tasks.length := (List.getElem?_eq_some_iff.1 ht2).1
        have hq_ := pQ h59_1 (i := i) ht2
        obtain ⟨b61, o61, cs61, f61, hp61, hr61, hc61, hm61⟩ := hq_
        refine sg (aG bD rfl hp61 rfl rfl (sg (aC bP rfl ?_)))
        have hk62 := hc61
        obtain ⟨he62, rfl, hok62⟩ := hk62
        have he62 : _ = [I t2.state, I t2.need, I t2.try_, I t2.until_] := he62
        subst he62
        refine sg (aK aJ rfl rfl hr61 (Below.refl _ _) (i := 0) rfl rfl (sg (bA rfl rfl (aE (aR rfl (fun h63 => ?_) (fun h63 => ?_))))))
        · have h63p := of_decide_eq_true h63
          have HH := h63p
          skip
          refine iH 9 [8] [[], [8]] [[(0, 1)]] (w1 := W54) (rs := [Res.own (α := List (List Entry)) v37_0 (dM (cN y k) k i).shelf fo50, Res.own (α := List Run) v37_1 (dM (cN y k) k i).runs fo51, Res.bx b17 [I (dM (cN y k) k i).now, I (dM (cN y k) k i).seq, v37_0, v37_1] 34, Res.bx b6 [I 0, I 0, .slice none 0 0, .slice none 0 0] 34, Res.bx b1 cs 34]) (fun q => match q with | 0 => Cp.of (ι := Unit) (fun _ => []) (fun _ => [Res.own (α := List (List Entry)) v37_0 (dM (cN y k) k i).shelf fo50, Res.own (α := List Run) v37_1 (dM (cN y k) k i).runs fo51, Res.bx b17 [I (dM (cN y k) k i).now, I (dM (cN y k) k i).seq, v37_0, v37_1] 34, Res.bx b6 [I 0, I 0, .slice none 0 0, .slice none 0 0] 34, Res.bx b1 cs 34]) (fun _ _ h => h.dropn 0) | _ => Cp.of (ι := List Value × List Nat) (fun ⟨cs65, fp65⟩ => [.agg cs65.toArray]) (fun ⟨cs65, fp65⟩ => [Res.own (α := Run) (.agg cs65.toArray) (eX r2 (i : Int)) fp65, Res.own (α := List (List Entry)) v37_0 (dM (cN y k) k i).shelf fo50, Res.own (α := List Run) v37_1 (dM (cN y k) k i).runs fo51, Res.bx b17 [I (dM (cN y k) k i).now, I (dM (cN y k) k i).seq, v37_0, v37_1] 34, Res.bx b6 [I 0, I 0, .slice none 0 0, .slice none 0 0] 34, Res.bx b1 cs 34]) (fun _ _ h => h.dropn 1)) [Pq.is (.agg #[I (dM (cN y k) k i).now, I (dM (cN y k) k i).seq, v37_0, v37_1]), Pq.is (I (k : Int)), Pq.is (.pointer (some ⟨b17, 0 + 3, none⟩)), Pq.is (v37_1) (Sl.yl (bC (st56.get 1 rfl))), Pq.is (I (k : Int)), Pq.is (.pointer (some ⟨b58, o58, none⟩)), Pq.is (.agg #[I r2.id, I r2.plan.prio, I r2.plan.most, I r2.plan.wait, I r2.plan.tasks, v59_0, I r2.state, v59_1]), Pq.is (I (i : Int)), Pq.none] mix (by rfl) (by rfl) (by rfl) ⟨(), rfl, st56, (Below.refl _ _)⟩ (by rfl) ⟨(fun f W hst hbl hd hf => aU (cs := [I (dM (cN y k) k i).now, I (dM (cN y k) k i).seq, v37_0, v37_1]) cC rfl ((hf 3 rfl).trans hs57_3) (hst.get 2 rfl) rfl rfl brq), (fun f W hst hbl hd hf => aB (v := I (k : Int)) ((hf 4 rfl).trans hs57_4) brq), (fun f W hst hbl hd hf => aC bW ((hf 3 rfl).trans hs57_3) brq), (fun f W hst hbl hd hf => aF cV rfl (hd 2 43 rfl rfl) (hst.get 2 rfl) (i := 3) rfl rfl brq), (fun f W hst hbl hd hf => aB (v := I (k : Int)) ((hf 4 rfl).trans hs57_4) brq), (fun f W hst hbl hd hf => aG bV (hd 3 44 rfl rfl) hp58 (hd 4 45 rfl rfl) rfl brq), (fun f W hst hbl hd hf => cS (cs := [I r2.id, I r2.plan.prio, I r2.plan.most, I r2.plan.wait, I r2.plan.tasks, v59_0, I r2.state, v59_1]) cY rfl (hd 5 46 rfl rfl) hr58 hbl (i := 0) rfl rfl rfl brq), (fun f W hst hbl hd hf => aB (v := I (i : Int)) ((hf 5 rfl).trans hs57_5) brq), ⟨rfl, ?_, True.intro⟩, trivial⟩ ?_
          · intro f W hC hd hf
            have hC_ := hC
            obtain ⟨_, hu, hst, hbl⟩ := hC_
            have st64 : St w W ([Res.own (α := List (List Entry)) v37_0 (dM (cN y k) k i).shelf fo50, Res.own (α := List Run) v37_1 (dM (cN y k) k i).runs fo51, Res.bx b17 [I (dM (cN y k) k i).now, I (dM (cN y k) k i).seq, v37_0, v37_1] 34, Res.bx b6 [I 0, I 0, .slice none 0 0, .slice none 0 0] 34, Res.bx b1 cs 34]) := hst
            refine (aZ Tryz.func105 rfl (hd 6 47 rfl rfl) (hd 7 48 rfl rfl) ((RunFailsS W (cA hc58 hbl) (i : Int) (by omega)).mono ?_)); rintro _ W67 ⟨cs65, fp65, rfl, hk68⟩; refine ⟨_, rfl, ?_⟩
            have st69 := St.call st64 hk68
            exact ⟨⟨(cs65, fp65), (ce rfl rfl), st69, (hbl.trans (Below.mono hk68.below hbl.size))⟩, rfl⟩
          intro f71 W72 hC hv73 hf74
          have hC_ := hC
          obtain ⟨⟨cs65, fp65⟩, hu, hst, hbl76⟩ := hC_
          have st75 : St w W72 ([Res.own (α := Run) (.agg cs65.toArray) (eX r2 (i : Int)) fp65, Res.own (α := List (List Entry)) v37_0 (dM (cN y k) k i).shelf fo50, Res.own (α := List Run) v37_1 (dM (cN y k) k i).runs fo51, Res.bx b17 [I (dM (cN y k) k i).now, I (dM (cN y k) k i).seq, v37_0, v37_1] 34, Res.bx b6 [I 0, I 0, .slice none 0 0, .slice none 0 0] 34, Res.bx b1 cs 34]) := hst
          have hu77 : f71 49 = .agg cs65.toArray := congrArg (fun l => l.getD 0 undef) hu
          have st79 := st75.f2
          have st80 := st79.f2
          have ch_e := runFails_at hRI2 ht2 HH
          have ch_q0 := hRIk.chg hY hn12 (eX r2 (i : Int)).id
          obtain ⟨ch_s, ch_n, ch_q⟩ := ch_q0
          have ch_r := hr2
          have ch_R := hRI2.fails ht2 HH
          have ch_l2 : (eX r2 (i : Int)).tasks.length ≤ 1000 := by rw [ch_e]; have := ch_R.small; omega
          refine sg (bS Tryz.func104 rfl (hv73 0 41 (by decide) rfl) (hv73 1 42 (by decide) rfl) hu77 ((TurnS (y := (dM (cN y k) k i)) (k := k) (was := r2) (r := eX r2 (i : Int)) st80 ch_r ch_s ch_l2 ch_n ch_q).mono ?_)); rintro _ W78 ⟨fs81, fq81, rfl, st82⟩; refine ⟨_, rfl, ?_⟩
          have st83 := st82.f2
          refine sg (bT (cs := [I (gE (dM (cN y k) k i) k r2 (eX r2 (i : Int))).now, I (gE (dM (cN y k) k i) k r2 (eX r2 (i : Int))).seq, v37_0, v37_1]) (C' := [I (gE (dM (cN y k) k i) k r2 (eX r2 (i : Int))).now, I (gE (dM (cN y k) k i) k r2 (eX r2 (i : Int))).seq, v37_0, v37_1]) (by kernel_rfl) ((hf74 3 rfl).trans hs57_3) rfl (aM rfl (aM rfl (aM (Sl.one (bC (st83.get 1 rfl))) (aM (Sl.one (bC (st83.get 2 rfl))) dW)))) st83 (Nat.le_of_ble_eq_true rfl) rfl ?_); intro W84 st85
          refine aE (aA (sg (aB (v := I (i : Int)) ((hf74 5 rfl).trans hs57_5) (sg (aP rfl rfl (by (simp only [I64] at *; omega)) (sg (aD (v := I ((i : Int) + 1)) rfl (aE ?_))))))))
          have st86 := st85.f4
          have st87 := st86.f4
          have st88 := st87.f2
          have st89 := st88.f4
          have st90 := st89.f4
          exact ⟨_, r1.tasks.length - (i + 1), (by omega), rfl, i + 1, fs81, fq81, (by omega), rfl, ((hf74 2 rfl).trans hs57_2), ((hf74 3 rfl).trans hs57_3), ((hf74 4 rfl).trans hs57_4), rfl, (by rw [show dM (cN y k) k (i + 1) = gE (dM (cN y k) k i) k r2 (eX r2 (i : Int)) from by rw [ch_e]; exact vK hr2 ht2 HH]; exact st90)⟩
        · have h63p := of_decide_eq_false h63
          refine wp_skip (aA (sg (aB (v := I (i : Int)) hs57_5 (sg (aP rfl rfl (by (simp only [I64] at *; omega)) (sg (aD (v := I ((i : Int) + 1)) rfl (aE ?_))))))))
          exact ⟨_, r1.tasks.length - (i + 1), (by omega), rfl, i + 1, fo50, fo51, (by omega), rfl, hs57_2, hs57_3, hs57_4, rfl, (by rw [show dM (cN y k) k (i + 1) = (dM (cN y k) k i) from vL hr2 ht2 h63p]; exact st56)⟩
      · have h60p := of_decide_eq_false h60
        refine wp_exit (aA (sg (aB (v := I (k : Int)) hs57_4 (sg (aP rfl rfl (by (simp only [I64] at *; omega)) (sg (aD (v := I ((k : Int) + 1)) rfl (aE ?_))))))))
        exact ⟨_, y.runs.length - (k + 1), (by omega), rfl, k + 1, fo50, fo51, (by omega), rfl, hs57_2, hs57_3, rfl, (by rw [← uH hr1 (show i = r1.tasks.length by omega)]; exact st56)⟩
    · have h49p := of_decide_eq_false h49
      refine wp_exit (wp_seq (aA (sg (aU (cs := [I (cN y k).now, I (cN y k).seq, v37_0, v37_1]) cC rfl hs48_3 (st47.get 2 rfl) rfl rfl ?_))))
      have st91 := st47.f3
      refine sg (bT (cs := [I (cN y k).now, I (cN y k).seq, v37_0, v37_1]) (C' := [I (cN y k).now, I (cN y k).seq, v37_0, v37_1]) (by kernel_rfl) hs48_2 rfl (aM rfl (aM rfl (aM (Sl.one (bC (st91.get 1 rfl))) (aM (Sl.one (bC (st91.get 2 rfl))) dW)))) st91 (Nat.le_of_ble_eq_true rfl) rfl ?_); intro W92 st93
      refine aE (wp_ret ?_); repeat first|refine aH ?_|refine aI ?_
      refine iE cC rfl Tryz.results51 hs48_2 (st93.get 0 rfl) rfl ?_
      have hke : k = y.runs.length := by omega
      have hfe : cN y k = cI y := by unfold cI; rw [(aX h28), hke]; rfl
      have hok_ := (RI.outer hY k hkl).ok hY (by have := hY.runs; omega)
      rw [hfe] at st93 hok_
      have st94 := st93.f2
      have st95 := st94.f2
      have st96 := iU (x := (cI y)) st95 hok_
      have st98 := st96.d1
      have st99 := st98.d1
      have st100 := st99.d1
      rw [hfe]
      exact ⟨_, _, rfl, st100⟩
end Go.Proofs.YtchnllpegfbleaaGreat
namespace Go.Proofs.YtchnllpegfbleaaGreat
set_option linter.unusedSimpArgs false
set_option linter.unusedVariables false
set_option maxRecDepth 100000
open Go.RowKit
section
variable {P : Program} {n : Nat} {f : Nat → Value} {W w0 : World} {rs : List Res} {Q : Exit → Act → World → Prop} {K : Value → World → Prop}
  {d : Option Tmp} {ty : TypeId} {pos : String} {af : Array Go.Edge} {g : Option (Nat × Bool)} {α : Type} [Shape α]
theorem Elems.reps {W : World} {zs : List Value} {z : α} (h : Shape.C W zs z []) : ∀ m, Elems W ((List.range (m * zs.length)).map (fun j => zs.toArray[j % zs.toArray.size]!)) (List.replicate m z) []
  | 0 => by rw [Nat.zero_mul]; exact ⟨rfl, rfl⟩
  | m + 1 => by
    have ih := Elems.reps h m
    have e : (List.range ((m + 1) * zs.length)).map (fun j => zs.toArray[j % zs.toArray.size]!) = (List.range (m * zs.length)).map (fun j => zs.toArray[j % zs.toArray.size]!) ++ zs := by
      rw [Nat.succ_mul, List.range_add, List.map_append, List.map_map]
      congr 1
      apply List.ext_getElem
      · simp
      · intro j h1 h2
        simp only [List.getElem_map, List.getElem_range, Function.comp, List.size_toArray]
        rw [Nat.mul_comm, Nat.mul_add_mod, Nat.mod_eq_of_lt h2]
        simp [h2]
    rw [e, List.replicate_succ']
    exact ih.append (Elems.single h)
theorem kU {t e : TypeId} {bytes : Nat} {x y : Operand} {N : Nat} {vs : List Value} {z : α} (hT : ApOk P t e α bytes) (hzero : ((P.info? e).bind (·.zero)).map (·.cells) = some vs.toArray) (hx : ev n f x = I (N : Int)) (hy : ev n f y = I (N : Int)) (hN : N ≤ 1048576 * 64) (hb : N * bytes ≤ 140737488355328) (hst : St w0 W rs) (hz : ∀ W, Shape.C W vs z [])
    (k : ∀ b fp W', Below W.heap.size W W' → St w0 W' (Res.own (.slice (some ⟨b, 0, none⟩) N N) (List.replicate N z) fp :: rs) → K (.slice (some ⟨b, 0, none⟩) N N) W') : Stp P n ⟨d, .makeSlice t x y, ty, pos, af, g⟩ f W Q K := by
  obtain ⟨i, zz, hi, hzz, h1, h2, h3⟩ := hT.info
  have hzc : zz.cells = vs.toArray := by simpa [hi, hzz] using hzero
  have hs1 : Shape.size α = vs.length := by rw [← h3, hzc]; simp
  have hb' : (N : Int) * (bytes : Int) ≤ 140737488355328 := by have := Int.ofNat_le.2 hb; rw [Int.natCast_mul] at this; exact this
  have hmk := run_make (P := P) W t e i zz hT.desc hi hzz .i64 .i64 N N (by omega) (by omega) (by rw [h2, Int.mul_comm]; omega) (by omega)
  rw [Int.toNat_natCast, h1, hs1, hzc] at hmk
  refine Stp.run (v := .slice (some ⟨W.heap.size, 0, none⟩) N N) (W' := W.alloc (.cells (madeCells vs.toArray (N * vs.length)) e)) (by simp only [execOp, hx, hy, Sem.run_bind, hmk, Result.andThen_ok]; rfl) ?_
  have h := hst.alloc (madeCells vs.toArray (N * vs.length)).toList e
  rw [Array.toArray_toList] at h
  have hbl : Below W.heap.size W (W.alloc (.cells (madeCells vs.toArray (N * vs.length)) e)) := gR (Below.refl _ _)
  have hl : (madeCells vs.toArray (N * vs.length)).toList = (List.range (N * vs.length)).map (fun j => vs.toArray[j % vs.toArray.size]!) := by
    simp [madeCells, Array.toList_map, Array.toList_range]
  have h' : St w0 (W.alloc (.cells (madeCells vs.toArray (N * vs.length)) e)) (Res.bx W.heap.size ((List.range (N * vs.length)).map (fun j => vs.toArray[j % vs.toArray.size]!)) e :: rs) := by
    rw [hl] at h; exact h
  have hr := St.row_lit (α := α) (m := N) (ys := List.replicate N z) h' (by simp) (by unfold maxLen; omega) (Elems.reps (hz _) N)
  obtain ⟨fp, hr2⟩ := hr.shut
  exact k _ fp _ hbl hr2
end
end Go.Proofs.YtchnllpegfbleaaGreat
namespace Go.Proofs.YtchnllpegfbleaaGreat
set_option linter.unusedSimpArgs false
set_option linter.unusedVariables false
set_option maxRecDepth 100000
open Go.RowKit


def zR : Reply := ⟨0, 0, 0, 0⟩
def kJ : Crew := ⟨⟨0, 0, [], []⟩, [], 0, 0⟩
noncomputable def jR (y : Yard) (many : Int) : Crew := ⟨cI y, List.replicate many.toNat zR, 0, 0⟩
noncomputable def dH (y : Yard) (many : Int) : Bool := eE y && inB many 1 8
noncomputable def cE (y : Yard) (many : Int) : Crew := if dH y many then jR y many else kJ
theorem wS (W : World) : Shape.C W [I 0, I 0, I 0, I 0] zR [] := ⟨rfl, rfl, by simp [zR, Reply.ok, I64]⟩
theorem pY {y : Yard} (h : eE y = true) : (cI y).ok := by
  have hY := tK h
  unfold cI
  rw [h, if_pos rfl]
  exact (RI.outer hY _ (Nat.le_refl _)).ok hY (by have := hY.runs; omega)


theorem restartY_wt {y : Yard} (h : eE y = true) : (cI y).wt ≤ 100000 := by
  have hY := tK h
  unfold cI
  rw [h, if_pos rfl]
  exact (RI.outer hY _ (Nat.le_refl _)).wt hY (by have := hY.runs; omega)
theorem crewNewC_wt (y : Yard) (many : Int) : (cE y many).yard.wt ≤ 100000 ∧ (cE y many).holds.length ≤ 8 := by
  unfold cE
  split
  · next h =>
    unfold dH at h
    rw [Bool.and_eq_true] at h
    refine ⟨restartY_wt h.1, ?_⟩
    have := inB_iff'.1 h.2
    show (List.replicate _ _).length ≤ 8
    rw [List.length_replicate]
    omega
  · exact ⟨by decide, by decide⟩

set_option maxHeartbeats 2000000 in
theorem vC (w : World) {y : Yard} {cs : List Value} {fp : List Nat} (hc : Shape.C w cs y fp) (many : Int) (hw : y.wt ≤ 1048576) :
    Calls Tryz.prog 18 #[.agg cs.toArray, I many] w fun e w' => ∃ (cs' : List Value) (fp' : List Nat), e = .returned (.tuple #[.agg cs'.toArray, .bool (dH y many)]) ∧ St w w' [Res.own (.agg cs'.toArray) (cE y many) fp'] := by
  refine cF Tryz.func18 rfl Tryz.ntmps18 (by decide) (wp_seq (aA (sg (aQ (cs := cs) rfl (St.start w) ?_)))); intro b1 W2 hb3 st4
  refine sg (bN nW st4 ?_); intro b6 W7 hb8 st9
  refine sg (aD (v := .bool false) rfl (aE (wp_seq (wp_seq (aA (sg (bE cC rfl rfl (st9.get 1 rfl) (Shape.len hc) (sg (bI Tryz.func46 rfl rfl ((wC W7 (cA hc st9.below) (by omega)).mono ?_)))))))))); rintro _ W11 ⟨rfl, hk12⟩; refine ⟨_, rfl, ?_⟩
  have st13 := St.call st9 hk12
  refine sg (bO rfl (sg (aB (v := .bool (!(eE y))) rfl ?_)))
  rcases bd (!(eE y)) with h15 | h15
  · refine sgo 9 rfl (by decide) (aL rfl h15) (aB (v := I many) rfl (sgo 9 rfl (by decide) (aL rfl h15) (bS Tryz.func47 rfl rfl rfl rfl ((eL W11 many 1 8).mono ?_)))); rintro _ W16 ⟨rfl, hk17⟩; refine ⟨_, rfl, ?_⟩
    have st18 := St.call st13 hk17
    refine sgo 9 rfl (by decide) (aL rfl h15) (bO rfl (sg (aO (v := .bool (!(inB many 1 8))) ((rfl : _ = (.bool (!(eE y)) : Value)).trans (congrArg Value.bool h15)) rfl (aE (aR rfl (fun h20 => ?_) (fun h20 => ?_))))))
    · have h20p := dN (aS h20)
      refine wp_seq (aA (sg (gJ (vs := []) (cs := [I 0, I 0, .slice none 0 0, .slice none 0 0, .slice none 0 0, I 0, I 0]) gK (by kernel_rfl) (sg (bT (cs := [I 0, I 0, .slice none 0 0, .slice none 0 0, .slice none 0 0, I 0, I 0]) (C' := [I 0, I 0, .slice none 0 0, .slice none 0 0, .slice none 0 0, I 0, I 0]) (by kernel_rfl) rfl rfl (aM rfl (aM rfl (aM rfl (aM rfl (aM rfl (aM rfl (aM rfl dW))))))) st18 (Nat.le_of_ble_eq_true rfl) rfl ?_))))); intro W21 st22
      refine sg (aD (v := .bool false) rfl (aE (wp_ret ?_))); repeat first|refine aH ?_|refine aI ?_
      refine sI fZ rfl Tryz.results18 rfl (st22.get 0 rfl) rfl rfl ?_
      have hB_ : dH y many = false := by unfold dH; rw [(aX h15), (aS h20)]; rfl
      have st23 := St.own_nil (α := List Entry) st22
      have st25 := St.own_nil (α := Run) st23
      have st27 := St.own_nil (α := Reply) st25
      have st29 := st27.f1
      have st30 := st29.f2
      have st31 := iV (x := kJ) st30 (by simp [kJ, Crew.ok, Yard.ok, I64])
      have st33 := st31.d1
      have st34 := st33.d1
      have hC_ : cE y many = kJ := by unfold cE; rw [hB_]; rfl
      rw [hB_, hC_]
      exact ⟨_, _, rfl, st34⟩
    · have h20p := inB_iff'.1 (aX h20)
      refine wp_skip (wp_seq ?_)
      have hNI : I many = I (many.toNat : Int) := by congr 1; omega
      refine iH 4 [1, 3] [[], [1], [3], [1, 3]] [[(0, 1), (2, 3)], [(1, 3), (0, 2)]] (w1 := W16) (rs := [Res.bx b6 [I 0, I 0, .slice none 0 0, .slice none 0 0, .slice none 0 0, I 0, I 0] 37, Res.bx b1 cs 34]) (fun q => match q with | 0 => Cp.of (ι := Unit) (fun _ => []) (fun _ => [Res.bx b6 [I 0, I 0, .slice none 0 0, .slice none 0 0, .slice none 0 0, I 0, I 0] 37, Res.bx b1 cs 34]) (fun _ _ h => h.dropn 0) | 1 => Cp.of (ι := List Value × List Nat) (fun ⟨cs36, fp36⟩ => [.agg cs36.toArray]) (fun ⟨cs36, fp36⟩ => [Res.own (α := Yard) (.agg cs36.toArray) (cI y) fp36, Res.bx b6 [I 0, I 0, .slice none 0 0, .slice none 0 0, .slice none 0 0, I 0, I 0] 37, Res.bx b1 cs 34]) (fun _ _ h => h.dropn 1) | 2 => Cp.of (ι := Nat × List Nat) (fun ⟨b50, fp54⟩ => [(.slice (some ⟨b50, 0, none⟩) many.toNat many.toNat)]) (fun ⟨b50, fp54⟩ => [Res.own (α := List Reply) (.slice (some ⟨b50, 0, none⟩) many.toNat many.toNat) (List.replicate many.toNat zR) fp54, Res.bx b6 [I 0, I 0, .slice none 0 0, .slice none 0 0, .slice none 0 0, I 0, I 0] 37, Res.bx b1 cs 34]) (fun _ _ h => h.dropn 1) | _ => Cp.of (ι := Nat × List Nat × List Value × List Nat) (fun ⟨b43, fp47, cs36, fp36⟩ => [.agg cs36.toArray, (.slice (some ⟨b43, 0, none⟩) many.toNat many.toNat)]) (fun ⟨b43, fp47, cs36, fp36⟩ => [Res.own (α := List Reply) (.slice (some ⟨b43, 0, none⟩) many.toNat many.toNat) (List.replicate many.toNat zR) fp47, Res.own (α := Yard) (.agg cs36.toArray) (cI y) fp36, Res.bx b6 [I 0, I 0, .slice none 0 0, .slice none 0 0, .slice none 0 0, I 0, I 0] 37, Res.bx b1 cs 34]) (fun _ _ h => h.dropn 2)) [Pq.is (.agg cs.toArray), Pq.none, Pq.is (I many), Pq.none] mix (by rfl) (by rfl) (by rfl) ⟨(), rfl, st18, (Below.refl _ _)⟩ (by rfl) ⟨(fun f W hst hbl hd hf => bE cC rfl ((hf 2 rfl).trans (show _ = (.pointer (some ⟨b1, 0, none⟩) : Value) from rfl)) (hst.get 1 rfl) (Shape.len hc) brq), ⟨rfl, ?_, ?_, True.intro⟩, (fun f W hst hbl hd hf => aB (v := I many) ((hf 1 rfl).trans (show _ = I many from rfl)) brq), ⟨rfl, ?_, ?_, True.intro⟩, trivial⟩ ?_
      · intro f W hC hd hf
        have hC_ := hC
        obtain ⟨_, hu, hst, hbl⟩ := hC_
        have st35 : St w W ([Res.bx b6 [I 0, I 0, .slice none 0 0, .slice none 0 0, .slice none 0 0, I 0, I 0] 37, Res.bx b1 cs 34]) := hst
        refine (bI Tryz.func54 rfl (hd 0 15 rfl rfl) ((uY W (cA hc st35.below) (by omega)).mono ?_)); rintro _ W38 ⟨cs36, fp36, rfl, hk39⟩; refine ⟨_, rfl, ?_⟩
        have st40 := St.call st35 hk39
        exact ⟨⟨(cs36, fp36), (ce rfl rfl), st40, (hbl.trans (Below.mono hk39.below hbl.size))⟩, rfl⟩
      · intro f W hC hd hf
        have hC_ := hC
        obtain ⟨⟨b50, fp54⟩, hu, hst, hbl⟩ := hC_
        have st56 : St w W ([Res.own (α := List Reply) (.slice (some ⟨b50, 0, none⟩) many.toNat many.toNat) (List.replicate many.toNat zR) fp54, Res.bx b6 [I 0, I 0, .slice none 0 0, .slice none 0 0, .slice none 0 0, I 0, I 0] 37, Res.bx b1 cs 34]) := hst
        have hu1_18 : f 18 = (.slice (some ⟨b50, 0, none⟩) many.toNat many.toNat) := congrArg (fun l => l.getD 0 undef) hu
        refine (bI Tryz.func54 rfl (hd 0 15 rfl rfl) ((uY W (cA hc st56.below) (by omega)).mono ?_)); rintro _ W59 ⟨cs57, fp57, rfl, hk60⟩; refine ⟨_, rfl, ?_⟩
        have st61 := St.call st56 hk60
        have st63 := st61.f3
        have st64 := st63.f3
        have st65 := st64.f2
        have st66 := st65.f3
        exact ⟨⟨(b50, fp54, cs57, fp57), (ce rfl (ce hu1_18 rfl)), st66, (hbl.trans (Below.mono hk60.below hbl.size))⟩, rfl⟩
      · intro f W hC hd hf
        have hC_ := hC
        obtain ⟨⟨cs36, fp36⟩, hu, hst, hbl⟩ := hC_
        have st42 : St w W ([Res.own (α := Yard) (.agg cs36.toArray) (cI y) fp36, Res.bx b6 [I 0, I 0, .slice none 0 0, .slice none 0 0, .slice none 0 0, I 0, I 0] 37, Res.bx b1 cs 34]) := hst
        have hu3_16 : f 16 = .agg cs36.toArray := congrArg (fun l => l.getD 0 undef) hu
        refine (kU (α := Reply) (N := many.toNat) (vs := [I 0, I 0, I 0, I 0]) (z := zR) nF (by kernel_rfl) ((hd 2 17 rfl rfl).trans hNI) ((hd 2 17 rfl rfl).trans hNI) (by omega) (by omega) st42 wS ?_); intro b43 fp47 W44 hb45 st46
        exact ⟨⟨(b43, fp47, cs36, fp36), (ce hu3_16 (ce rfl rfl)), st46, (hbl.trans (Below.mono hb45 hbl.size))⟩, Sl.yl (bC (st46.get 0 rfl))⟩
      · intro f W hC hd hf
        have hC_ := hC
        obtain ⟨_, hu, hst, hbl⟩ := hC_
        have st49 : St w W ([Res.bx b6 [I 0, I 0, .slice none 0 0, .slice none 0 0, .slice none 0 0, I 0, I 0] 37, Res.bx b1 cs 34]) := hst
        refine (kU (α := Reply) (N := many.toNat) (vs := [I 0, I 0, I 0, I 0]) (z := zR) nF (by kernel_rfl) ((hd 2 17 rfl rfl).trans hNI) ((hd 2 17 rfl rfl).trans hNI) (by omega) (by omega) st49 wS ?_); intro b50 fp54 W51 hb52 st53
        exact ⟨⟨(b50, fp54), (ce rfl rfl), st53, (hbl.trans (Below.mono hb52 hbl.size))⟩, Sl.yl (bC (st53.get 0 rfl))⟩
      intro f67 W68 hC hv69 hf70
      have hC_ := hC
      obtain ⟨⟨b43, fp47, cs36, fp36⟩, hu, hst, hbl72⟩ := hC_
      have st71 : St w W68 ([Res.own (α := List Reply) (.slice (some ⟨b43, 0, none⟩) many.toNat many.toNat) (List.replicate many.toNat zR) fp47, Res.own (α := Yard) (.agg cs36.toArray) (cI y) fp36, Res.bx b6 [I 0, I 0, .slice none 0 0, .slice none 0 0, .slice none 0 0, I 0, I 0] 37, Res.bx b1 cs 34]) := hst
      have hu73 : f67 16 = .agg cs36.toArray := congrArg (fun l => l.getD 0 undef) hu
      have hu74 : f67 18 = (.slice (some ⟨b43, 0, none⟩) many.toNat many.toNat) := congrArg (fun l => l.getD 1 undef) hu
      have st75 := st71.f1
      have hq_ := jT st75
      obtain ⟨v76_0, v76_1, g76_0, g76_1, he76, hok76, st77⟩ := hq_
      subst he76
      refine sg (gJ (vs := [(0, .agg #[I (cI y).now, I (cI y).seq, v76_0, v76_1]), (1, (.slice (some ⟨b43, 0, none⟩) many.toNat many.toNat))]) (cs := [I (cI y).now, I (cI y).seq, v76_0, v76_1, (.slice (some ⟨b43, 0, none⟩) many.toNat many.toNat), I 0, I 0]) (eG (v := .agg #[I (cI y).now, I (cI y).seq, v76_0, v76_1]) hu73 (eG (v := (.slice (some ⟨b43, 0, none⟩) many.toNat many.toNat)) hu74 gK)) (by kernel_rfl) ?_)
      have st80 := st77.f3
      refine sg (bT (cs := [I (cI y).now, I (cI y).seq, v76_0, v76_1, (.slice (some ⟨b43, 0, none⟩) many.toNat many.toNat), I 0, I 0]) (C' := [I (cI y).now, I (cI y).seq, v76_0, v76_1, (.slice (some ⟨b43, 0, none⟩) many.toNat many.toNat), I 0, I 0]) (by kernel_rfl) ((hf70 4 rfl).trans (show _ = (.pointer (some ⟨b6, 0, none⟩) : Value) from rfl)) rfl (aM rfl (aM rfl (aM (Sl.one (bC (st80.get 1 rfl))) (aM (Sl.one (bC (st80.get 2 rfl))) (aM (Sl.one (bC (st80.get 3 rfl))) (aM rfl (aM rfl dW))))))) st80 (Nat.le_of_ble_eq_true rfl) rfl ?_); intro W81 st82
      refine sg (aD (v := .bool true) rfl (aE (wp_ret ?_))); repeat first|refine aH ?_|refine aI ?_
      refine sI fZ rfl Tryz.results18 ((hf70 4 rfl).trans (show _ = (.pointer (some ⟨b6, 0, none⟩) : Value) from rfl)) (st82.get 0 rfl) rfl rfl ?_
      have hB_ : dH y many = true := by unfold dH; rw [(aX h15), (aX h20)]; rfl
      have st83 := st82.f3
      have st84 := st83.f3
      have st85 := st84.f3
      have st86 := iV (x := (jR y many)) st85 (by have := pY (aX h15); exact ⟨this, by unfold jR I64; simp only; omega, by unfold jR I64; simp only; omega⟩)
      have st88 := st86.d1
      have st89 := st88.d1
      have hC_ : cE y many = (jR y many) := by unfold cE; rw [hB_]; rfl
      rw [hB_, hC_]
      exact ⟨_, _, rfl, st89⟩
  · iterate 3 refine sgf 9 rfl (by decide) (bF rfl h15) ?_
    refine sg (aN (v := .bool true) ((rfl : _ = (.bool (!(eE y)) : Value)).trans (congrArg Value.bool h15)) rfl (aE (gV rfl rfl (wp_seq (aA (sg (gJ (vs := []) (cs := [I 0, I 0, .slice none 0 0, .slice none 0 0, .slice none 0 0, I 0, I 0]) gK (by kernel_rfl) (sg (bT (cs := [I 0, I 0, .slice none 0 0, .slice none 0 0, .slice none 0 0, I 0, I 0]) (C' := [I 0, I 0, .slice none 0 0, .slice none 0 0, .slice none 0 0, I 0, I 0]) (by kernel_rfl) rfl rfl (aM rfl (aM rfl (aM rfl (aM rfl (aM rfl (aM rfl (aM rfl dW))))))) st13 (Nat.le_of_ble_eq_true rfl) rfl ?_))))))))); intro W90 st91
    refine sg (aD (v := .bool false) rfl (aE (wp_ret ?_))); repeat first|refine aH ?_|refine aI ?_
    refine sI fZ rfl Tryz.results18 rfl (st91.get 0 rfl) rfl rfl ?_
    have hB_ : dH y many = false := by unfold dH; rw [(aS h15)]; rfl
    have st92 := St.own_nil (α := List Entry) st91
    have st94 := St.own_nil (α := Run) st92
    have st96 := St.own_nil (α := Reply) st94
    have st98 := st96.f1
    have st99 := st98.f2
    have st100 := iV (x := kJ) st99 (by simp [kJ, Crew.ok, Yard.ok, I64])
    have st102 := st100.d1
    have st103 := st102.d1
    have hC_ : cE y many = kJ := by unfold cE; rw [hB_]; rfl
    rw [hB_, hC_]
    exact ⟨_, _, rfl, st103⟩
set_option maxHeartbeats 2000000 in
theorem CrewNewS (w : World) {y : Yard} {cs : List Value} {fp : List Nat} (hc : Shape.C w cs y fp) (many : Int) (hw : y.wt ≤ 1048576) :
    Calls Tryz.prog 16 #[.agg cs.toArray, I many] w fun e w' => ∃ (cs' : List Value) (fp' : List Nat), e = .returned (.tuple #[.agg cs'.toArray, .bool (dH y many)]) ∧ St w w' [Res.own (.agg cs'.toArray) (cE y many) fp'] := by
  refine cF Tryz.func16 rfl Tryz.ntmps16 (by decide) (wp_seq (aA (sg (aQ (cs := cs) rfl (St.start w) ?_)))); intro b1 W2 hb3 st4
  refine sg (bN nW st4 ?_); intro b6 W7 hb8 st9
  refine sg (aD (v := .bool false) rfl (aE (wp_seq (wp_seq (aA (sg (bE cC rfl rfl (st9.get 1 rfl) (Shape.len hc) (sg (bI Tryz.func42 rfl rfl ((wB W7 (cA hc st9.below) (by omega)).mono ?_)))))))))); rintro _ W11 ⟨rfl, hk12⟩; refine ⟨_, rfl, ?_⟩
  have st13 := St.call st9 hk12
  refine sg (bO rfl (sg (aB (v := .bool (!(eE y))) rfl ?_)))
  rcases bd (!(eE y)) with h15 | h15
  · refine sgo 9 rfl (by decide) (aL rfl h15) (aB (v := I many) rfl (sgo 9 rfl (by decide) (aL rfl h15) (bS Tryz.func43 rfl rfl rfl rfl ((fK W11 many 1 8).mono ?_)))); rintro _ W16 ⟨rfl, hk17⟩; refine ⟨_, rfl, ?_⟩
    have st18 := St.call st13 hk17
    refine sgo 9 rfl (by decide) (aL rfl h15) (bO rfl (sg (aO (v := .bool (!(inB many 1 8))) ((rfl : _ = (.bool (!(eE y)) : Value)).trans (congrArg Value.bool h15)) rfl (aE (aR rfl (fun h20 => ?_) (fun h20 => ?_))))))
    · have h20p := dN (aS h20)
      refine wp_seq (aA (sg (gJ (vs := []) (cs := [I 0, I 0, .slice none 0 0, .slice none 0 0, .slice none 0 0, I 0, I 0]) gK (by kernel_rfl) (sg (bT (cs := [I 0, I 0, .slice none 0 0, .slice none 0 0, .slice none 0 0, I 0, I 0]) (C' := [I 0, I 0, .slice none 0 0, .slice none 0 0, .slice none 0 0, I 0, I 0]) (by kernel_rfl) rfl rfl (aM rfl (aM rfl (aM rfl (aM rfl (aM rfl (aM rfl (aM rfl dW))))))) st18 (Nat.le_of_ble_eq_true rfl) rfl ?_))))); intro W21 st22
      refine sg (aD (v := .bool false) rfl (aE (wp_ret ?_))); repeat first|refine aH ?_|refine aI ?_
      refine sI fZ rfl Tryz.results16 rfl (st22.get 0 rfl) rfl rfl ?_
      have hB_ : dH y many = false := by unfold dH; rw [(aX h15), (aS h20)]; rfl
      have st23 := St.own_nil (α := List Entry) st22
      have st25 := St.own_nil (α := Run) st23
      have st27 := St.own_nil (α := Reply) st25
      have st29 := st27.f1
      have st30 := st29.f2
      have st31 := iV (x := kJ) st30 (by simp [kJ, Crew.ok, Yard.ok, I64])
      have st33 := st31.d1
      have st34 := st33.d1
      have hC_ : cE y many = kJ := by unfold cE; rw [hB_]; rfl
      rw [hB_, hC_]
      exact ⟨_, _, rfl, st34⟩
    · have h20p := inB_iff'.1 (aX h20)
      refine wp_skip (wp_seq ?_)
      have hNI : I many = I (many.toNat : Int) := by congr 1; omega
      refine iH 4 [1, 3] [[], [1], [3], [1, 3]] [[(0, 1), (2, 3)], [(1, 3), (0, 2)]] (w1 := W16) (rs := [Res.bx b6 [I 0, I 0, .slice none 0 0, .slice none 0 0, .slice none 0 0, I 0, I 0] 37, Res.bx b1 cs 34]) (fun q => match q with | 0 => Cp.of (ι := Unit) (fun _ => []) (fun _ => [Res.bx b6 [I 0, I 0, .slice none 0 0, .slice none 0 0, .slice none 0 0, I 0, I 0] 37, Res.bx b1 cs 34]) (fun _ _ h => h.dropn 0) | 1 => Cp.of (ι := List Value × List Nat) (fun ⟨cs36, fp36⟩ => [.agg cs36.toArray]) (fun ⟨cs36, fp36⟩ => [Res.own (α := Yard) (.agg cs36.toArray) (cI y) fp36, Res.bx b6 [I 0, I 0, .slice none 0 0, .slice none 0 0, .slice none 0 0, I 0, I 0] 37, Res.bx b1 cs 34]) (fun _ _ h => h.dropn 1) | 2 => Cp.of (ι := Nat × List Nat) (fun ⟨b50, fp54⟩ => [(.slice (some ⟨b50, 0, none⟩) many.toNat many.toNat)]) (fun ⟨b50, fp54⟩ => [Res.own (α := List Reply) (.slice (some ⟨b50, 0, none⟩) many.toNat many.toNat) (List.replicate many.toNat zR) fp54, Res.bx b6 [I 0, I 0, .slice none 0 0, .slice none 0 0, .slice none 0 0, I 0, I 0] 37, Res.bx b1 cs 34]) (fun _ _ h => h.dropn 1) | _ => Cp.of (ι := Nat × List Nat × List Value × List Nat) (fun ⟨b43, fp47, cs36, fp36⟩ => [.agg cs36.toArray, (.slice (some ⟨b43, 0, none⟩) many.toNat many.toNat)]) (fun ⟨b43, fp47, cs36, fp36⟩ => [Res.own (α := List Reply) (.slice (some ⟨b43, 0, none⟩) many.toNat many.toNat) (List.replicate many.toNat zR) fp47, Res.own (α := Yard) (.agg cs36.toArray) (cI y) fp36, Res.bx b6 [I 0, I 0, .slice none 0 0, .slice none 0 0, .slice none 0 0, I 0, I 0] 37, Res.bx b1 cs 34]) (fun _ _ h => h.dropn 2)) [Pq.is (.agg cs.toArray), Pq.none, Pq.is (I many), Pq.none] mix (by rfl) (by rfl) (by rfl) ⟨(), rfl, st18, (Below.refl _ _)⟩ (by rfl) ⟨(fun f W hst hbl hd hf => bE cC rfl ((hf 2 rfl).trans (show _ = (.pointer (some ⟨b1, 0, none⟩) : Value) from rfl)) (hst.get 1 rfl) (Shape.len hc) brq), ⟨rfl, ?_, ?_, True.intro⟩, (fun f W hst hbl hd hf => aB (v := I many) ((hf 1 rfl).trans (show _ = I many from rfl)) brq), ⟨rfl, ?_, ?_, True.intro⟩, trivial⟩ ?_
      · intro f W hC hd hf
        have hC_ := hC
        obtain ⟨_, hu, hst, hbl⟩ := hC_
        have st35 : St w W ([Res.bx b6 [I 0, I 0, .slice none 0 0, .slice none 0 0, .slice none 0 0, I 0, I 0] 37, Res.bx b1 cs 34]) := hst
        refine (bI Tryz.func51 rfl (hd 0 15 rfl rfl) ((uX W (cA hc st35.below) (by omega)).mono ?_)); rintro _ W38 ⟨cs36, fp36, rfl, hk39⟩; refine ⟨_, rfl, ?_⟩
        have st40 := St.call st35 hk39
        exact ⟨⟨(cs36, fp36), (ce rfl rfl), st40, (hbl.trans (Below.mono hk39.below hbl.size))⟩, rfl⟩
      · intro f W hC hd hf
        have hC_ := hC
        obtain ⟨⟨b50, fp54⟩, hu, hst, hbl⟩ := hC_
        have st56 : St w W ([Res.own (α := List Reply) (.slice (some ⟨b50, 0, none⟩) many.toNat many.toNat) (List.replicate many.toNat zR) fp54, Res.bx b6 [I 0, I 0, .slice none 0 0, .slice none 0 0, .slice none 0 0, I 0, I 0] 37, Res.bx b1 cs 34]) := hst
        have hu1_18 : f 18 = (.slice (some ⟨b50, 0, none⟩) many.toNat many.toNat) := congrArg (fun l => l.getD 0 undef) hu
        refine (bI Tryz.func51 rfl (hd 0 15 rfl rfl) ((uX W (cA hc st56.below) (by omega)).mono ?_)); rintro _ W59 ⟨cs57, fp57, rfl, hk60⟩; refine ⟨_, rfl, ?_⟩
        have st61 := St.call st56 hk60
        have st63 := st61.f3
        have st64 := st63.f3
        have st65 := st64.f2
        have st66 := st65.f3
        exact ⟨⟨(b50, fp54, cs57, fp57), (ce rfl (ce hu1_18 rfl)), st66, (hbl.trans (Below.mono hk60.below hbl.size))⟩, rfl⟩
      · intro f W hC hd hf
        have hC_ := hC
        obtain ⟨⟨cs36, fp36⟩, hu, hst, hbl⟩ := hC_
        have st42 : St w W ([Res.own (α := Yard) (.agg cs36.toArray) (cI y) fp36, Res.bx b6 [I 0, I 0, .slice none 0 0, .slice none 0 0, .slice none 0 0, I 0, I 0] 37, Res.bx b1 cs 34]) := hst
        have hu3_16 : f 16 = .agg cs36.toArray := congrArg (fun l => l.getD 0 undef) hu
        refine (kU (α := Reply) (N := many.toNat) (vs := [I 0, I 0, I 0, I 0]) (z := zR) nF (by kernel_rfl) ((hd 2 17 rfl rfl).trans hNI) ((hd 2 17 rfl rfl).trans hNI) (by omega) (by omega) st42 wS ?_); intro b43 fp47 W44 hb45 st46
        exact ⟨⟨(b43, fp47, cs36, fp36), (ce hu3_16 (ce rfl rfl)), st46, (hbl.trans (Below.mono hb45 hbl.size))⟩, Sl.yl (bC (st46.get 0 rfl))⟩
      · intro f W hC hd hf
        have hC_ := hC
        obtain ⟨_, hu, hst, hbl⟩ := hC_
        have st49 : St w W ([Res.bx b6 [I 0, I 0, .slice none 0 0, .slice none 0 0, .slice none 0 0, I 0, I 0] 37, Res.bx b1 cs 34]) := hst
        refine (kU (α := Reply) (N := many.toNat) (vs := [I 0, I 0, I 0, I 0]) (z := zR) nF (by kernel_rfl) ((hd 2 17 rfl rfl).trans hNI) ((hd 2 17 rfl rfl).trans hNI) (by omega) (by omega) st49 wS ?_); intro b50 fp54 W51 hb52 st53
        exact ⟨⟨(b50, fp54), (ce rfl rfl), st53, (hbl.trans (Below.mono hb52 hbl.size))⟩, Sl.yl (bC (st53.get 0 rfl))⟩
      intro f67 W68 hC hv69 hf70
      have hC_ := hC
      obtain ⟨⟨b43, fp47, cs36, fp36⟩, hu, hst, hbl72⟩ := hC_
      have st71 : St w W68 ([Res.own (α := List Reply) (.slice (some ⟨b43, 0, none⟩) many.toNat many.toNat) (List.replicate many.toNat zR) fp47, Res.own (α := Yard) (.agg cs36.toArray) (cI y) fp36, Res.bx b6 [I 0, I 0, .slice none 0 0, .slice none 0 0, .slice none 0 0, I 0, I 0] 37, Res.bx b1 cs 34]) := hst
      have hu73 : f67 16 = .agg cs36.toArray := congrArg (fun l => l.getD 0 undef) hu
      have hu74 : f67 18 = (.slice (some ⟨b43, 0, none⟩) many.toNat many.toNat) := congrArg (fun l => l.getD 1 undef) hu
      have st75 := st71.f1
      have hq_ := jT st75
      obtain ⟨v76_0, v76_1, g76_0, g76_1, he76, hok76, st77⟩ := hq_
      subst he76
      refine sg (gJ (vs := [(0, .agg #[I (cI y).now, I (cI y).seq, v76_0, v76_1]), (1, (.slice (some ⟨b43, 0, none⟩) many.toNat many.toNat))]) (cs := [I (cI y).now, I (cI y).seq, v76_0, v76_1, (.slice (some ⟨b43, 0, none⟩) many.toNat many.toNat), I 0, I 0]) (eG (v := .agg #[I (cI y).now, I (cI y).seq, v76_0, v76_1]) hu73 (eG (v := (.slice (some ⟨b43, 0, none⟩) many.toNat many.toNat)) hu74 gK)) (by kernel_rfl) ?_)
      have st80 := st77.f3
      refine sg (bT (cs := [I (cI y).now, I (cI y).seq, v76_0, v76_1, (.slice (some ⟨b43, 0, none⟩) many.toNat many.toNat), I 0, I 0]) (C' := [I (cI y).now, I (cI y).seq, v76_0, v76_1, (.slice (some ⟨b43, 0, none⟩) many.toNat many.toNat), I 0, I 0]) (by kernel_rfl) ((hf70 4 rfl).trans (show _ = (.pointer (some ⟨b6, 0, none⟩) : Value) from rfl)) rfl (aM rfl (aM rfl (aM (Sl.one (bC (st80.get 1 rfl))) (aM (Sl.one (bC (st80.get 2 rfl))) (aM (Sl.one (bC (st80.get 3 rfl))) (aM rfl (aM rfl dW))))))) st80 (Nat.le_of_ble_eq_true rfl) rfl ?_); intro W81 st82
      refine sg (aD (v := .bool true) rfl (aE (wp_ret ?_))); repeat first|refine aH ?_|refine aI ?_
      refine sI fZ rfl Tryz.results16 ((hf70 4 rfl).trans (show _ = (.pointer (some ⟨b6, 0, none⟩) : Value) from rfl)) (st82.get 0 rfl) rfl rfl ?_
      have hB_ : dH y many = true := by unfold dH; rw [(aX h15), (aX h20)]; rfl
      have st83 := st82.f3
      have st84 := st83.f3
      have st85 := st84.f3
      have st86 := iV (x := (jR y many)) st85 (by have := pY (aX h15); exact ⟨this, by unfold jR I64; simp only; omega, by unfold jR I64; simp only; omega⟩)
      have st88 := st86.d1
      have st89 := st88.d1
      have hC_ : cE y many = (jR y many) := by unfold cE; rw [hB_]; rfl
      rw [hB_, hC_]
      exact ⟨_, _, rfl, st89⟩
  · iterate 3 refine sgf 9 rfl (by decide) (bF rfl h15) ?_
    refine sg (aN (v := .bool true) ((rfl : _ = (.bool (!(eE y)) : Value)).trans (congrArg Value.bool h15)) rfl (aE (gV rfl rfl (wp_seq (aA (sg (gJ (vs := []) (cs := [I 0, I 0, .slice none 0 0, .slice none 0 0, .slice none 0 0, I 0, I 0]) gK (by kernel_rfl) (sg (bT (cs := [I 0, I 0, .slice none 0 0, .slice none 0 0, .slice none 0 0, I 0, I 0]) (C' := [I 0, I 0, .slice none 0 0, .slice none 0 0, .slice none 0 0, I 0, I 0]) (by kernel_rfl) rfl rfl (aM rfl (aM rfl (aM rfl (aM rfl (aM rfl (aM rfl (aM rfl dW))))))) st13 (Nat.le_of_ble_eq_true rfl) rfl ?_))))))))); intro W90 st91
    refine sg (aD (v := .bool false) rfl (aE (wp_ret ?_))); repeat first|refine aH ?_|refine aI ?_
    refine sI fZ rfl Tryz.results16 rfl (st91.get 0 rfl) rfl rfl ?_
    have hB_ : dH y many = false := by unfold dH; rw [(aS h15)]; rfl
    have st92 := St.own_nil (α := List Entry) st91
    have st94 := St.own_nil (α := Run) st92
    have st96 := St.own_nil (α := Reply) st94
    have st98 := st96.f1
    have st99 := st98.f2
    have st100 := iV (x := kJ) st99 (by simp [kJ, Crew.ok, Yard.ok, I64])
    have st102 := st100.d1
    have st103 := st102.d1
    have hC_ : cE y many = kJ := by unfold cE; rw [hB_]; rfl
    rw [hB_, hC_]
    exact ⟨_, _, rfl, st103⟩
end Go.Proofs.YtchnllpegfbleaaGreat
namespace Go.Proofs.YtchnllpegfbleaaGreat
set_option linter.unusedSimpArgs false
set_option linter.unusedVariables false
set_option maxRecDepth 100000
open Go.RowKit

set_option maxHeartbeats 2000000 in
theorem markEdgeS_n {w W0 : World} {rs : List Res} {v : Value} {xs : List Edge} {fp : List Nat} (hst : St w W0 (Res.own v xs fp :: rs)) (k : Int) (h0 : 0 ≤ k) (hk : k + (cL bZ xs : Nat) ≤ 4611686018427387904) :
    Calls Tryz.prog 87 #[v, I k] W0 fun e w' => ∃ fp', e = .returned (I (k + (cL bZ xs : Nat))) ∧ St w w' (Res.own v (mkL jG bZ xs k) fp' :: rs) := by
  have hcap := (bC (hst.get 0 rfl)).len_le
  refine cF Tryz.func87 rfl Tryz.ntmps87 (by decide) (wp_seq (aA (sg (aD (v := I 0) rfl (aE (wp_seq (wp_seq (aA (sg (aD (v := I 0) rfl (aE (wp_block (bH (fun (m : Nat) (f : Nat → Value) (W : World) => ∃ (i : Nat) (K : Int) (fo1 : List Nat), i ≤ xs.length ∧ K = k + (cL bZ (xs.take i) : Nat) ∧ m = xs.length - i ∧ f 0 = v ∧ f 1 = I K ∧ f 5 = I (i : Int) ∧ St w W (Res.own (α := List Edge) v (mkL jG bZ (xs.take i) k ++ xs.drop i) fo1 :: rs)) (xs.length - 0) ?_ ?_)))))))))))))
  · exact ⟨0, k, fp, Nat.zero_le _, (by simp [cL]), rfl, rfl, rfl, rfl, (by simpa [mkL] using hst)⟩
  intro m2 f3 W4 hJ5
  obtain ⟨i, K, fo1, hi, hK, rfl, hs7_0, hs7_1, hs7_5, st6⟩ := hJ5
  have hlx : (mkL jG bZ (xs.take i) k ++ xs.drop i).length = xs.length := by rw [List.length_append, eY, List.length_take, List.length_drop]; omega
  refine wp_seq (wp_seq (aA (sg (aB (v := I (i : Int)) hs7_5 (sg (aB (v := v) hs7_0 (sg (aV cZ rfl (bC (st6.get 0 rfl)) (sg (aY rfl rfl (aE (aR rfl (fun h8 => ?_) (fun h8 => ?_)))))))))))))
  · have h8p := of_decide_eq_true h8
    refine wp_skip (wp_seq (wp_block (wp_seq (aA (sg (aB (v := v) hs7_0 (sg (aB (v := I (i : Int)) hs7_5 (sg (aB (v := I K) hs7_1 ?_))))))))))
    have hq_ := fW (xs := xs) (i := i) (by omega)
    obtain ⟨y, hy⟩ := hq_
    have hcs := gW bZ hy
    have hcl := fR bZ xs (i + 1)
    have hne : bZ y = 2 := rfl
    have hb9 : Bd K (1 + (1 + (0))) := ⟨by omega, by omega⟩
    have hq_ := St.lendx (α := Edge) (by decide) st6 (x := y) (mY hy)
    obtain ⟨b10, e10, pre10, cs10, post10, fi10, fr10, hPA10, hC10, st11⟩ := hq_
    have st15 := st11.d1
    obtain ⟨he10, hf10, hok10⟩ := hC10; have he10 : _ = [I y.from_, I y.to_] := he10; subst he10
    skip
    refine sg (aG cZ rfl hPA10 rfl rfl (sg (aC fU rfl (sg (bX (i := 0) (v := I K) (C' := [I K, I y.to_]) (by kernel_rfl) rfl rfl rfl rfl st15 rfl (Nat.le_of_ble_eq_true rfl) rfl ?_))))); intro W16 st17
    refine aE (wp_seq (aA (sg (aB (v := I K) hs7_1 ?_))))
    have hb18 := hb9.up
    refine sg (aP rfl rfl hb18.i64 (sg (aD (v := I (K + 1)) rfl (aE (wp_seq (aA (sg (aB (v := v) hs7_0 (sg (aB (v := I (i : Int)) hs7_5 (sg (aB (v := I (K + 1)) rfl (sg (aG cZ rfl hPA10 rfl rfl (sg (aC fO rfl (sg (bX (i := 1) (v := I (K + 1)) (C' := [I K, I (K + 1)]) (by kernel_rfl) rfl rfl rfl rfl st17 rfl (Nat.le_of_ble_eq_true rfl) rfl ?_)))))))))))))))))); intro W19 st20
    refine aE (aA (sg (aB (v := I (K + 1)) rfl ?_)))
    have hb21 := hb18.up
    refine sg (aP rfl rfl hb21.i64 (sg (aD (v := I ((K + 1) + 1)) rfl (aE (aA (sg (aB (v := I (i : Int)) hs7_5 (sg (aP rfl rfl (by (simp only [I64] at *; omega)) (sg (aD (v := I ((i : Int) + 1)) rfl (aE ?_))))))))))))
    have st22 := st20.cs0 (cs := [I K, I (K + 1)]) (x := (⟨K, K + 1⟩ : Edge)) ⟨rfl, rfl, (by first | exact True.intro | (simp only [Edge.ok, Plan.ok, Entry.ok, Task.ok, Run.ok, Yard.ok, Reply.ok, Deed.ok, Note.ok, Wait.ok, File.ok, Disk.ok, Engine.ok, WorldD.ok, ActD.ok, Hand.ok, Span.ok, Crew.ok, View.ok, I64] at *; omega))⟩
    have st24 := st22.f2
    have st25 := st24.f1
    have st26 := st25.f2
    have hq_ := St.give (α := Edge) st26
    obtain ⟨fp27, st28⟩ := hq_
    exact ⟨_, xs.length - (i + 1), (by omega), rfl, i + 1, (K + 1) + 1, fp27, (by omega), (by omega), rfl, hs7_0, rfl, rfl, (by rw [← kP hy hK]; exact st28)⟩
  · have h8p := of_decide_eq_false h8
    refine wp_exit (wp_seq (aA (sg (aB (v := I K) hs7_1 (sg (aD (v := I K) rfl (aE (wp_ret ?_)))))))); repeat first|refine aH ?_|refine aI ?_
    refine aW Tryz.results87 rfl ?_
    obtain rfl : i = xs.length := by omega
    have hca := jM bZ xs _ rfl
    rw [pP rfl] at st6
    exact ⟨_, congrArg (fun z => Ending.returned (I z)) (by omega), st6⟩
set_option maxHeartbeats 2000000 in
theorem heldEdgeS_n (w : World) {v : Value} {x : List Edge} {fp : List Nat} {k : Int} (h : Sl w v (mkL jG bZ x k) fp) (h0 : 0 ≤ k) (hk : k + (cL bZ x : Nat) ≤ 4611686018427387904) :
    Calls Tryz.prog 182 #[v, I k] w fun e w' => e = .returned (I (k + (cL bZ x : Nat))) ∧ St w w' [] := by
  have hcap := h.len_le
  rw [eY] at hcap
  have hml : (mkL jG bZ x k).length = x.length := eY _ _
  refine cF Tryz.func182 rfl Tryz.ntmps182 (by decide) (wp_seq (aA (sg (aD (v := I 0) rfl (aE (wp_seq (wp_seq (aA (sg (aD (v := I 0) rfl (aE (wp_block (bH (fun (m : Nat) (f : Nat → Value) (W : World) => ∃ (i : Nat) (K : Int), i ≤ x.length ∧ K = k + (cL bZ (x.take i) : Nat) ∧ m = x.length - i ∧ f 0 = v ∧ f 1 = I K ∧ f 5 = I (i : Int) ∧ St w W ([])) (x.length - 0) ?_ ?_)))))))))))))
  · exact ⟨0, k, Nat.zero_le _, (by simp [cL]), rfl, rfl, rfl, rfl, (St.start w)⟩
  intro m1 f2 W3 hJ4
  obtain ⟨i, K, hi, hK, rfl, hs6_0, hs6_1, hs6_5, st5⟩ := hJ4
  refine wp_seq (wp_seq (aA (sg (aB (v := I (i : Int)) hs6_5 (sg (aB (v := v) hs6_0 (sg (aV cZ rfl h (sg (aY rfl rfl (aE (aR rfl (fun h7 => ?_) (fun h7 => ?_)))))))))))))
  · have h7p := of_decide_eq_true h7
    refine wp_skip (wp_seq (wp_block (wp_seq (wp_seq (aA (sg (aB (v := v) hs6_0 (sg (aB (v := I (i : Int)) hs6_5 ?_)))))))))
    have hq_ := fW (xs := x) (i := i) (by omega)
    obtain ⟨y, hy⟩ := hq_
    have hcs := gW bZ hy
    have hcl := fR bZ x (i + 1)
    have hne : bZ y = 2 := rfl
    have hb9 : Bd K (1 + (1 + (0))) := ⟨by omega, by omega⟩
    have hq_ := sU h hy hK
    obtain ⟨b8, o8, cs8, f8, hp8, hr8, hc8, hm8⟩ := hq_
    have hk10 := hc8
    obtain ⟨he10, rfl, hok10⟩ := hk10
    have he10 : _ = [I K, I (K + 1)] := he10; subst he10
    skip
    refine sg (aG cZ rfl hp8 rfl rfl (sg (aC fU rfl (sg (aK aJ rfl rfl hr8 st5.below (i := 0) rfl rfl (sg (aB (v := I K) hs6_1 (sg (bL rfl rfl (aE (aR rfl (fun h11 => ?_) (fun h11 => ?_))))))))))))
    · have h11p := of_decide_eq_false (aS h11)
      exact absurd rfl h11p
    · have h11p := of_decide_eq_true (aX h11)
      refine wp_skip (wp_seq (aA (sg (aB (v := I K) hs6_1 ?_))))
      have hb12 := hb9.up
      refine sg (aP rfl rfl hb12.i64 (sg (aD (v := I (K + 1)) rfl (aE (wp_seq (wp_seq (aA (sg (aB (v := v) hs6_0 (sg (aB (v := I (i : Int)) hs6_5 ?_)))))))))))
      skip
      refine sg (aG cZ rfl hp8 rfl rfl (sg (aC fO rfl (sg (aK aJ rfl rfl hr8 st5.below (i := 1) rfl rfl (sg (aB (v := I (K + 1)) rfl (sg (bL rfl rfl (aE (aR rfl (fun h14 => ?_) (fun h14 => ?_))))))))))))
      · have h14p := of_decide_eq_false (aS h14)
        exact absurd rfl h14p
      · have h14p := of_decide_eq_true (aX h14)
        refine wp_skip (aA (sg (aB (v := I (K + 1)) rfl ?_)))
        have hb15 := hb12.up
        refine sg (aP rfl rfl hb15.i64 (sg (aD (v := I ((K + 1) + 1)) rfl (aE (aA (sg (aB (v := I (i : Int)) hs6_5 (sg (aP rfl rfl (by (simp only [I64] at *; omega)) (sg (aD (v := I ((i : Int) + 1)) rfl (aE ?_))))))))))))
        exact ⟨_, x.length - (i + 1), (by omega), rfl, i + 1, (K + 1) + 1, (by omega), (by omega), rfl, hs6_0, rfl, rfl, st5⟩
  · have h7p := of_decide_eq_false h7
    refine wp_exit (wp_seq (aA (sg (aB (v := I K) hs6_1 (sg (aD (v := I K) rfl (aE (wp_ret ?_)))))))); repeat first|refine aH ?_|refine aI ?_
    refine aW Tryz.results182 rfl ?_
    obtain rfl : i = x.length := by omega
    have hca := jM bZ x _ rfl
    exact ⟨congrArg (fun z => Ending.returned (I z)) (by omega), st5.bare⟩
set_option maxHeartbeats 2000000 in
theorem markEntryS_n {w W0 : World} {rs : List Res} {v : Value} {xs : List Entry} {fp : List Nat} (hst : St w W0 (Res.own v xs fp :: rs)) (k : Int) (h0 : 0 ≤ k) (hk : k + (cL bB xs : Nat) ≤ 4611686018427387904) :
    Calls Tryz.prog 115 #[v, I k] W0 fun e w' => ∃ fp', e = .returned (I (k + (cL bB xs : Nat))) ∧ St w w' (Res.own v (mkL fM bB xs k) fp' :: rs) := by
  have hcap := (bC (hst.get 0 rfl)).len_le
  refine cF Tryz.func115 rfl Tryz.ntmps115 (by decide) (wp_seq (aA (sg (aD (v := I 0) rfl (aE (wp_seq (wp_seq (aA (sg (aD (v := I 0) rfl (aE (wp_block (bH (fun (m : Nat) (f : Nat → Value) (W : World) => ∃ (i : Nat) (K : Int) (fo1 : List Nat), i ≤ xs.length ∧ K = k + (cL bB (xs.take i) : Nat) ∧ m = xs.length - i ∧ f 0 = v ∧ f 1 = I K ∧ f 5 = I (i : Int) ∧ St w W (Res.own (α := List Entry) v (mkL fM bB (xs.take i) k ++ xs.drop i) fo1 :: rs)) (xs.length - 0) ?_ ?_)))))))))))))
  · exact ⟨0, k, fp, Nat.zero_le _, (by simp [cL]), rfl, rfl, rfl, rfl, (by simpa [mkL] using hst)⟩
  intro m2 f3 W4 hJ5
  obtain ⟨i, K, fo1, hi, hK, rfl, hs7_0, hs7_1, hs7_5, st6⟩ := hJ5
  have hlx : (mkL fM bB (xs.take i) k ++ xs.drop i).length = xs.length := by rw [List.length_append, eY, List.length_take, List.length_drop]; omega
  refine wp_seq (wp_seq (aA (sg (aB (v := I (i : Int)) hs7_5 (sg (aB (v := v) hs7_0 (sg (aV sl_EntryS rfl (bC (st6.get 0 rfl)) (sg (aY rfl rfl (aE (aR rfl (fun h8 => ?_) (fun h8 => ?_)))))))))))))
  · have h8p := of_decide_eq_true h8
    refine wp_skip (wp_seq (wp_block (wp_seq (aA (sg (aB (v := v) hs7_0 (sg (aB (v := I (i : Int)) hs7_5 (sg (aB (v := I K) hs7_1 ?_))))))))))
    have hq_ := fW (xs := xs) (i := i) (by omega)
    obtain ⟨y, hy⟩ := hq_
    have hcs := gW bB hy
    have hcl := fR bB xs (i + 1)
    have hne : bB y = 4 := rfl
    have hb9 : Bd K (1 + (1 + (1 + (1 + (0))))) := ⟨by omega, by omega⟩
    have hq_ := St.lendx (α := Entry) (by decide) st6 (x := y) (mY hy)
    obtain ⟨b10, e10, pre10, cs10, post10, fi10, fr10, hPA10, hC10, st11⟩ := hq_
    have st15 := st11.d1
    obtain ⟨he10, hf10, hok10⟩ := hC10; have he10 : _ = [I y.prio, I y.seq, I y.run, I y.task] := he10; subst he10
    skip
    refine sg (aG sl_EntryS rfl hPA10 rfl rfl (sg (aC eS rfl (sg (bX (i := 0) (v := I K) (C' := [I K, I y.seq, I y.run, I y.task]) (by kernel_rfl) rfl rfl rfl rfl st15 rfl (Nat.le_of_ble_eq_true rfl) rfl ?_))))); intro W16 st17
    refine aE (wp_seq (aA (sg (aB (v := I K) hs7_1 ?_))))
    have hb18 := hb9.up
    refine sg (aP rfl rfl hb18.i64 (sg (aD (v := I (K + 1)) rfl (aE (wp_seq (aA (sg (aB (v := v) hs7_0 (sg (aB (v := I (i : Int)) hs7_5 (sg (aB (v := I (K + 1)) rfl (sg (aG sl_EntryS rfl hPA10 rfl rfl (sg (aC eR rfl (sg (bX (i := 1) (v := I (K + 1)) (C' := [I K, I (K + 1), I y.run, I y.task]) (by kernel_rfl) rfl rfl rfl rfl st17 rfl (Nat.le_of_ble_eq_true rfl) rfl ?_)))))))))))))))))); intro W19 st20
    refine aE (wp_seq (aA (sg (aB (v := I (K + 1)) rfl ?_))))
    have hb21 := hb18.up
    refine sg (aP rfl rfl hb21.i64 (sg (aD (v := I ((K + 1) + 1)) rfl (aE (wp_seq (aA (sg (aB (v := v) hs7_0 (sg (aB (v := I (i : Int)) hs7_5 (sg (aB (v := I ((K + 1) + 1)) rfl (sg (aG sl_EntryS rfl hPA10 rfl rfl (sg (aC fQ rfl (sg (bX (i := 2) (v := I ((K + 1) + 1)) (C' := [I K, I (K + 1), I ((K + 1) + 1), I y.task]) (by kernel_rfl) rfl rfl rfl rfl st20 rfl (Nat.le_of_ble_eq_true rfl) rfl ?_)))))))))))))))))); intro W22 st23
    refine aE (wp_seq (aA (sg (aB (v := I ((K + 1) + 1)) rfl ?_))))
    have hb24 := hb21.up
    refine sg (aP rfl rfl hb24.i64 (sg (aD (v := I (((K + 1) + 1) + 1)) rfl (aE (wp_seq (aA (sg (aB (v := v) hs7_0 (sg (aB (v := I (i : Int)) hs7_5 (sg (aB (v := I (((K + 1) + 1) + 1)) rfl (sg (aG sl_EntryS rfl hPA10 rfl rfl (sg (aC fH rfl (sg (bX (i := 3) (v := I (((K + 1) + 1) + 1)) (C' := [I K, I (K + 1), I ((K + 1) + 1), I (((K + 1) + 1) + 1)]) (by kernel_rfl) rfl rfl rfl rfl st23 rfl (Nat.le_of_ble_eq_true rfl) rfl ?_)))))))))))))))))); intro W25 st26
    refine aE (aA (sg (aB (v := I (((K + 1) + 1) + 1)) rfl ?_)))
    have hb27 := hb24.up
    refine sg (aP rfl rfl hb27.i64 (sg (aD (v := I ((((K + 1) + 1) + 1) + 1)) rfl (aE (aA (sg (aB (v := I (i : Int)) hs7_5 (sg (aP rfl rfl (by (simp only [I64] at *; omega)) (sg (aD (v := I ((i : Int) + 1)) rfl (aE ?_))))))))))))
    have st28 := st26.cs0 (cs := [I K, I (K + 1), I ((K + 1) + 1), I (((K + 1) + 1) + 1)]) (x := (⟨K, K + 1, (K + 1) + 1, ((K + 1) + 1) + 1⟩ : Entry)) ⟨rfl, rfl, (by first | exact True.intro | (simp only [Edge.ok, Plan.ok, Entry.ok, Task.ok, Run.ok, Yard.ok, Reply.ok, Deed.ok, Note.ok, Wait.ok, File.ok, Disk.ok, Engine.ok, WorldD.ok, ActD.ok, Hand.ok, Span.ok, Crew.ok, View.ok, I64] at *; omega))⟩
    have st30 := st28.f2
    have st31 := st30.f1
    have st32 := st31.f2
    have hq_ := St.give (α := Entry) st32
    obtain ⟨fp33, st34⟩ := hq_
    exact ⟨_, xs.length - (i + 1), (by omega), rfl, i + 1, (((K + 1) + 1) + 1) + 1, fp33, (by omega), (by omega), rfl, hs7_0, rfl, rfl, (by rw [← kP hy hK]; exact st34)⟩
  · have h8p := of_decide_eq_false h8
    refine wp_exit (wp_seq (aA (sg (aB (v := I K) hs7_1 (sg (aD (v := I K) rfl (aE (wp_ret ?_)))))))); repeat first|refine aH ?_|refine aI ?_
    refine aW Tryz.results115 rfl ?_
    obtain rfl : i = xs.length := by omega
    have hca := jM bB xs _ rfl
    rw [pP rfl] at st6
    exact ⟨_, congrArg (fun z => Ending.returned (I z)) (by omega), st6⟩
set_option maxHeartbeats 2000000 in
theorem heldEntryS_n (w : World) {v : Value} {x : List Entry} {fp : List Nat} {k : Int} (h : Sl w v (mkL fM bB x k) fp) (h0 : 0 ≤ k) (hk : k + (cL bB x : Nat) ≤ 4611686018427387904) :
    Calls Tryz.prog 181 #[v, I k] w fun e w' => e = .returned (I (k + (cL bB x : Nat))) ∧ St w w' [] := by
  have hcap := h.len_le
  rw [eY] at hcap
  have hml : (mkL fM bB x k).length = x.length := eY _ _
  refine cF Tryz.func181 rfl Tryz.ntmps181 (by decide) (wp_seq (aA (sg (aD (v := I 0) rfl (aE (wp_seq (wp_seq (aA (sg (aD (v := I 0) rfl (aE (wp_block (bH (fun (m : Nat) (f : Nat → Value) (W : World) => ∃ (i : Nat) (K : Int), i ≤ x.length ∧ K = k + (cL bB (x.take i) : Nat) ∧ m = x.length - i ∧ f 0 = v ∧ f 1 = I K ∧ f 5 = I (i : Int) ∧ St w W ([])) (x.length - 0) ?_ ?_)))))))))))))
  · exact ⟨0, k, Nat.zero_le _, (by simp [cL]), rfl, rfl, rfl, rfl, (St.start w)⟩
  intro m1 f2 W3 hJ4
  obtain ⟨i, K, hi, hK, rfl, hs6_0, hs6_1, hs6_5, st5⟩ := hJ4
  refine wp_seq (wp_seq (aA (sg (aB (v := I (i : Int)) hs6_5 (sg (aB (v := v) hs6_0 (sg (aV sl_EntryS rfl h (sg (aY rfl rfl (aE (aR rfl (fun h7 => ?_) (fun h7 => ?_)))))))))))))
  · have h7p := of_decide_eq_true h7
    refine wp_skip (wp_seq (wp_block (wp_seq (wp_seq (aA (sg (aB (v := v) hs6_0 (sg (aB (v := I (i : Int)) hs6_5 ?_)))))))))
    have hq_ := fW (xs := x) (i := i) (by omega)
    obtain ⟨y, hy⟩ := hq_
    have hcs := gW bB hy
    have hcl := fR bB x (i + 1)
    have hne : bB y = 4 := rfl
    have hb9 : Bd K (1 + (1 + (1 + (1 + (0))))) := ⟨by omega, by omega⟩
    have hq_ := sU h hy hK
    obtain ⟨b8, o8, cs8, f8, hp8, hr8, hc8, hm8⟩ := hq_
    have hk10 := hc8
    obtain ⟨he10, rfl, hok10⟩ := hk10
    have he10 : _ = [I K, I (K + 1), I ((K + 1) + 1), I (((K + 1) + 1) + 1)] := he10; subst he10
    skip
    refine sg (aG sl_EntryS rfl hp8 rfl rfl (sg (aC eS rfl (sg (aK aJ rfl rfl hr8 st5.below (i := 0) rfl rfl (sg (aB (v := I K) hs6_1 (sg (bL rfl rfl (aE (aR rfl (fun h11 => ?_) (fun h11 => ?_))))))))))))
    · have h11p := of_decide_eq_false (aS h11)
      exact absurd rfl h11p
    · have h11p := of_decide_eq_true (aX h11)
      refine wp_skip (wp_seq (aA (sg (aB (v := I K) hs6_1 ?_))))
      have hb12 := hb9.up
      refine sg (aP rfl rfl hb12.i64 (sg (aD (v := I (K + 1)) rfl (aE (wp_seq (wp_seq (aA (sg (aB (v := v) hs6_0 (sg (aB (v := I (i : Int)) hs6_5 ?_)))))))))))
      skip
      refine sg (aG sl_EntryS rfl hp8 rfl rfl (sg (aC eR rfl (sg (aK aJ rfl rfl hr8 st5.below (i := 1) rfl rfl (sg (aB (v := I (K + 1)) rfl (sg (bL rfl rfl (aE (aR rfl (fun h14 => ?_) (fun h14 => ?_))))))))))))
      · have h14p := of_decide_eq_false (aS h14)
        exact absurd rfl h14p
      · have h14p := of_decide_eq_true (aX h14)
        refine wp_skip (wp_seq (aA (sg (aB (v := I (K + 1)) rfl ?_))))
        have hb15 := hb12.up
        refine sg (aP rfl rfl hb15.i64 (sg (aD (v := I ((K + 1) + 1)) rfl (aE (wp_seq (wp_seq (aA (sg (aB (v := v) hs6_0 (sg (aB (v := I (i : Int)) hs6_5 ?_)))))))))))
        skip
        refine sg (aG sl_EntryS rfl hp8 rfl rfl (sg (aC fQ rfl (sg (aK aJ rfl rfl hr8 st5.below (i := 2) rfl rfl (sg (aB (v := I ((K + 1) + 1)) rfl (sg (bL rfl rfl (aE (aR rfl (fun h17 => ?_) (fun h17 => ?_))))))))))))
        · have h17p := of_decide_eq_false (aS h17)
          exact absurd rfl h17p
        · have h17p := of_decide_eq_true (aX h17)
          refine wp_skip (wp_seq (aA (sg (aB (v := I ((K + 1) + 1)) rfl ?_))))
          have hb18 := hb15.up
          refine sg (aP rfl rfl hb18.i64 (sg (aD (v := I (((K + 1) + 1) + 1)) rfl (aE (wp_seq (wp_seq (aA (sg (aB (v := v) hs6_0 (sg (aB (v := I (i : Int)) hs6_5 ?_)))))))))))
          skip
          refine sg (aG sl_EntryS rfl hp8 rfl rfl (sg (aC fH rfl (sg (aK aJ rfl rfl hr8 st5.below (i := 3) rfl rfl (sg (aB (v := I (((K + 1) + 1) + 1)) rfl (sg (bL rfl rfl (aE (aR rfl (fun h20 => ?_) (fun h20 => ?_))))))))))))
          · have h20p := of_decide_eq_false (aS h20)
            exact absurd rfl h20p
          · have h20p := of_decide_eq_true (aX h20)
            refine wp_skip (aA (sg (aB (v := I (((K + 1) + 1) + 1)) rfl ?_)))
            have hb21 := hb18.up
            refine sg (aP rfl rfl hb21.i64 (sg (aD (v := I ((((K + 1) + 1) + 1) + 1)) rfl (aE (aA (sg (aB (v := I (i : Int)) hs6_5 (sg (aP rfl rfl (by (simp only [I64] at *; omega)) (sg (aD (v := I ((i : Int) + 1)) rfl (aE ?_))))))))))))
            exact ⟨_, x.length - (i + 1), (by omega), rfl, i + 1, (((K + 1) + 1) + 1) + 1, (by omega), (by omega), rfl, hs6_0, rfl, rfl, st5⟩
  · have h7p := of_decide_eq_false h7
    refine wp_exit (wp_seq (aA (sg (aB (v := I K) hs6_1 (sg (aD (v := I K) rfl (aE (wp_ret ?_)))))))); repeat first|refine aH ?_|refine aI ?_
    refine aW Tryz.results181 rfl ?_
    obtain rfl : i = x.length := by omega
    have hca := jM bB x _ rfl
    exact ⟨congrArg (fun z => Ending.returned (I z)) (by omega), st5.bare⟩
set_option maxHeartbeats 2000000 in
theorem markTaskS_n {w W0 : World} {rs : List Res} {v : Value} {xs : List Task} {fp : List Nat} (hst : St w W0 (Res.own v xs fp :: rs)) (k : Int) (h0 : 0 ≤ k) (hk : k + (cL dD xs : Nat) ≤ 4611686018427387904) :
    Calls Tryz.prog 116 #[v, I k] W0 fun e w' => ∃ fp', e = .returned (I (k + (cL dD xs : Nat))) ∧ St w w' (Res.own v (mkL jF dD xs k) fp' :: rs) := by
  have hcap := (bC (hst.get 0 rfl)).len_le
  refine cF Tryz.func116 rfl Tryz.ntmps116 (by decide) (wp_seq (aA (sg (aD (v := I 0) rfl (aE (wp_seq (wp_seq (aA (sg (aD (v := I 0) rfl (aE (wp_block (bH (fun (m : Nat) (f : Nat → Value) (W : World) => ∃ (i : Nat) (K : Int) (fo1 : List Nat), i ≤ xs.length ∧ K = k + (cL dD (xs.take i) : Nat) ∧ m = xs.length - i ∧ f 0 = v ∧ f 1 = I K ∧ f 5 = I (i : Int) ∧ St w W (Res.own (α := List Task) v (mkL jF dD (xs.take i) k ++ xs.drop i) fo1 :: rs)) (xs.length - 0) ?_ ?_)))))))))))))
  · exact ⟨0, k, fp, Nat.zero_le _, (by simp [cL]), rfl, rfl, rfl, rfl, (by simpa [mkL] using hst)⟩
  intro m2 f3 W4 hJ5
  obtain ⟨i, K, fo1, hi, hK, rfl, hs7_0, hs7_1, hs7_5, st6⟩ := hJ5
  have hlx : (mkL jF dD (xs.take i) k ++ xs.drop i).length = xs.length := by rw [List.length_append, eY, List.length_take, List.length_drop]; omega
  refine wp_seq (wp_seq (aA (sg (aB (v := I (i : Int)) hs7_5 (sg (aB (v := v) hs7_0 (sg (aV bD rfl (bC (st6.get 0 rfl)) (sg (aY rfl rfl (aE (aR rfl (fun h8 => ?_) (fun h8 => ?_)))))))))))))
  · have h8p := of_decide_eq_true h8
    refine wp_skip (wp_seq (wp_block (wp_seq (aA (sg (aB (v := v) hs7_0 (sg (aB (v := I (i : Int)) hs7_5 (sg (aB (v := I K) hs7_1 ?_))))))))))
    have hq_ := fW (xs := xs) (i := i) (by omega)
    obtain ⟨y, hy⟩ := hq_
    have hcs := gW dD hy
    have hcl := fR dD xs (i + 1)
    have hne : dD y = 4 := rfl
    have hb9 : Bd K (1 + (1 + (1 + (1 + (0))))) := ⟨by omega, by omega⟩
    have hq_ := St.lendx (α := Task) (by decide) st6 (x := y) (mY hy)
    obtain ⟨b10, e10, pre10, cs10, post10, fi10, fr10, hPA10, hC10, st11⟩ := hq_
    have st15 := st11.d1
    obtain ⟨he10, hf10, hok10⟩ := hC10; have he10 : _ = [I y.state, I y.need, I y.try_, I y.until_] := he10; subst he10
    skip
    refine sg (aG bD rfl hPA10 rfl rfl (sg (aC bP rfl (sg (bX (i := 0) (v := I K) (C' := [I K, I y.need, I y.try_, I y.until_]) (by kernel_rfl) rfl rfl rfl rfl st15 rfl (Nat.le_of_ble_eq_true rfl) rfl ?_))))); intro W16 st17
    refine aE (wp_seq (aA (sg (aB (v := I K) hs7_1 ?_))))
    have hb18 := hb9.up
    refine sg (aP rfl rfl hb18.i64 (sg (aD (v := I (K + 1)) rfl (aE (wp_seq (aA (sg (aB (v := v) hs7_0 (sg (aB (v := I (i : Int)) hs7_5 (sg (aB (v := I (K + 1)) rfl (sg (aG bD rfl hPA10 rfl rfl (sg (aC fF rfl (sg (bX (i := 1) (v := I (K + 1)) (C' := [I K, I (K + 1), I y.try_, I y.until_]) (by kernel_rfl) rfl rfl rfl rfl st17 rfl (Nat.le_of_ble_eq_true rfl) rfl ?_)))))))))))))))))); intro W19 st20
    refine aE (wp_seq (aA (sg (aB (v := I (K + 1)) rfl ?_))))
    have hb21 := hb18.up
    refine sg (aP rfl rfl hb21.i64 (sg (aD (v := I ((K + 1) + 1)) rfl (aE (wp_seq (aA (sg (aB (v := v) hs7_0 (sg (aB (v := I (i : Int)) hs7_5 (sg (aB (v := I ((K + 1) + 1)) rfl (sg (aG bD rfl hPA10 rfl rfl (sg (aC eD rfl (sg (bX (i := 2) (v := I ((K + 1) + 1)) (C' := [I K, I (K + 1), I ((K + 1) + 1), I y.until_]) (by kernel_rfl) rfl rfl rfl rfl st20 rfl (Nat.le_of_ble_eq_true rfl) rfl ?_)))))))))))))))))); intro W22 st23
    refine aE (wp_seq (aA (sg (aB (v := I ((K + 1) + 1)) rfl ?_))))
    have hb24 := hb21.up
    refine sg (aP rfl rfl hb24.i64 (sg (aD (v := I (((K + 1) + 1) + 1)) rfl (aE (wp_seq (aA (sg (aB (v := v) hs7_0 (sg (aB (v := I (i : Int)) hs7_5 (sg (aB (v := I (((K + 1) + 1) + 1)) rfl (sg (aG bD rfl hPA10 rfl rfl (sg (aC eT rfl (sg (bX (i := 3) (v := I (((K + 1) + 1) + 1)) (C' := [I K, I (K + 1), I ((K + 1) + 1), I (((K + 1) + 1) + 1)]) (by kernel_rfl) rfl rfl rfl rfl st23 rfl (Nat.le_of_ble_eq_true rfl) rfl ?_)))))))))))))))))); intro W25 st26
    refine aE (aA (sg (aB (v := I (((K + 1) + 1) + 1)) rfl ?_)))
    have hb27 := hb24.up
    refine sg (aP rfl rfl hb27.i64 (sg (aD (v := I ((((K + 1) + 1) + 1) + 1)) rfl (aE (aA (sg (aB (v := I (i : Int)) hs7_5 (sg (aP rfl rfl (by (simp only [I64] at *; omega)) (sg (aD (v := I ((i : Int) + 1)) rfl (aE ?_))))))))))))
    have st28 := st26.cs0 (cs := [I K, I (K + 1), I ((K + 1) + 1), I (((K + 1) + 1) + 1)]) (x := (⟨K, K + 1, (K + 1) + 1, ((K + 1) + 1) + 1⟩ : Task)) ⟨rfl, rfl, (by first | exact True.intro | (simp only [Edge.ok, Plan.ok, Entry.ok, Task.ok, Run.ok, Yard.ok, Reply.ok, Deed.ok, Note.ok, Wait.ok, File.ok, Disk.ok, Engine.ok, WorldD.ok, ActD.ok, Hand.ok, Span.ok, Crew.ok, View.ok, I64] at *; omega))⟩
    have st30 := st28.f2
    have st31 := st30.f1
    have st32 := st31.f2
    have hq_ := St.give (α := Task) st32
    obtain ⟨fp33, st34⟩ := hq_
    exact ⟨_, xs.length - (i + 1), (by omega), rfl, i + 1, (((K + 1) + 1) + 1) + 1, fp33, (by omega), (by omega), rfl, hs7_0, rfl, rfl, (by rw [← kP hy hK]; exact st34)⟩
  · have h8p := of_decide_eq_false h8
    refine wp_exit (wp_seq (aA (sg (aB (v := I K) hs7_1 (sg (aD (v := I K) rfl (aE (wp_ret ?_)))))))); repeat first|refine aH ?_|refine aI ?_
    refine aW Tryz.results116 rfl ?_
    obtain rfl : i = xs.length := by omega
    have hca := jM dD xs _ rfl
    rw [pP rfl] at st6
    exact ⟨_, congrArg (fun z => Ending.returned (I z)) (by omega), st6⟩
set_option maxHeartbeats 2000000 in
theorem heldTaskS_n (w : World) {v : Value} {x : List Task} {fp : List Nat} {k : Int} (h : Sl w v (mkL jF dD x k) fp) (h0 : 0 ≤ k) (hk : k + (cL dD x : Nat) ≤ 4611686018427387904) :
    Calls Tryz.prog 183 #[v, I k] w fun e w' => e = .returned (I (k + (cL dD x : Nat))) ∧ St w w' [] := by
  have hcap := h.len_le
  rw [eY] at hcap
  have hml : (mkL jF dD x k).length = x.length := eY _ _
  refine cF Tryz.func183 rfl Tryz.ntmps183 (by decide) (wp_seq (aA (sg (aD (v := I 0) rfl (aE (wp_seq (wp_seq (aA (sg (aD (v := I 0) rfl (aE (wp_block (bH (fun (m : Nat) (f : Nat → Value) (W : World) => ∃ (i : Nat) (K : Int), i ≤ x.length ∧ K = k + (cL dD (x.take i) : Nat) ∧ m = x.length - i ∧ f 0 = v ∧ f 1 = I K ∧ f 5 = I (i : Int) ∧ St w W ([])) (x.length - 0) ?_ ?_)))))))))))))
  · exact ⟨0, k, Nat.zero_le _, (by simp [cL]), rfl, rfl, rfl, rfl, (St.start w)⟩
  intro m1 f2 W3 hJ4
  obtain ⟨i, K, hi, hK, rfl, hs6_0, hs6_1, hs6_5, st5⟩ := hJ4
  refine wp_seq (wp_seq (aA (sg (aB (v := I (i : Int)) hs6_5 (sg (aB (v := v) hs6_0 (sg (aV bD rfl h (sg (aY rfl rfl (aE (aR rfl (fun h7 => ?_) (fun h7 => ?_)))))))))))))
  · have h7p := of_decide_eq_true h7
    refine wp_skip (wp_seq (wp_block (wp_seq (wp_seq (aA (sg (aB (v := v) hs6_0 (sg (aB (v := I (i : Int)) hs6_5 ?_)))))))))
    have hq_ := fW (xs := x) (i := i) (by omega)
    obtain ⟨y, hy⟩ := hq_
    have hcs := gW dD hy
    have hcl := fR dD x (i + 1)
    have hne : dD y = 4 := rfl
    have hb9 : Bd K (1 + (1 + (1 + (1 + (0))))) := ⟨by omega, by omega⟩
    have hq_ := sU h hy hK
    obtain ⟨b8, o8, cs8, f8, hp8, hr8, hc8, hm8⟩ := hq_
    have hk10 := hc8
    obtain ⟨he10, rfl, hok10⟩ := hk10
    have he10 : _ = [I K, I (K + 1), I ((K + 1) + 1), I (((K + 1) + 1) + 1)] := he10; subst he10
    skip
    refine sg (aG bD rfl hp8 rfl rfl (sg (aC bP rfl (sg (aK aJ rfl rfl hr8 st5.below (i := 0) rfl rfl (sg (aB (v := I K) hs6_1 (sg (bL rfl rfl (aE (aR rfl (fun h11 => ?_) (fun h11 => ?_))))))))))))
    · have h11p := of_decide_eq_false (aS h11)
      exact absurd rfl h11p
    · have h11p := of_decide_eq_true (aX h11)
      refine wp_skip (wp_seq (aA (sg (aB (v := I K) hs6_1 ?_))))
      have hb12 := hb9.up
      refine sg (aP rfl rfl hb12.i64 (sg (aD (v := I (K + 1)) rfl (aE (wp_seq (wp_seq (aA (sg (aB (v := v) hs6_0 (sg (aB (v := I (i : Int)) hs6_5 ?_)))))))))))
      skip
      refine sg (aG bD rfl hp8 rfl rfl (sg (aC fF rfl (sg (aK aJ rfl rfl hr8 st5.below (i := 1) rfl rfl (sg (aB (v := I (K + 1)) rfl (sg (bL rfl rfl (aE (aR rfl (fun h14 => ?_) (fun h14 => ?_))))))))))))
      · have h14p := of_decide_eq_false (aS h14)
        exact absurd rfl h14p
      · have h14p := of_decide_eq_true (aX h14)
        refine wp_skip (wp_seq (aA (sg (aB (v := I (K + 1)) rfl ?_))))
        have hb15 := hb12.up
        refine sg (aP rfl rfl hb15.i64 (sg (aD (v := I ((K + 1) + 1)) rfl (aE (wp_seq (wp_seq (aA (sg (aB (v := v) hs6_0 (sg (aB (v := I (i : Int)) hs6_5 ?_)))))))))))
        skip
        refine sg (aG bD rfl hp8 rfl rfl (sg (aC eD rfl (sg (aK aJ rfl rfl hr8 st5.below (i := 2) rfl rfl (sg (aB (v := I ((K + 1) + 1)) rfl (sg (bL rfl rfl (aE (aR rfl (fun h17 => ?_) (fun h17 => ?_))))))))))))
        · have h17p := of_decide_eq_false (aS h17)
          exact absurd rfl h17p
        · have h17p := of_decide_eq_true (aX h17)
          refine wp_skip (wp_seq (aA (sg (aB (v := I ((K + 1) + 1)) rfl ?_))))
          have hb18 := hb15.up
          refine sg (aP rfl rfl hb18.i64 (sg (aD (v := I (((K + 1) + 1) + 1)) rfl (aE (wp_seq (wp_seq (aA (sg (aB (v := v) hs6_0 (sg (aB (v := I (i : Int)) hs6_5 ?_)))))))))))
          skip
          refine sg (aG bD rfl hp8 rfl rfl (sg (aC eT rfl (sg (aK aJ rfl rfl hr8 st5.below (i := 3) rfl rfl (sg (aB (v := I (((K + 1) + 1) + 1)) rfl (sg (bL rfl rfl (aE (aR rfl (fun h20 => ?_) (fun h20 => ?_))))))))))))
          · have h20p := of_decide_eq_false (aS h20)
            exact absurd rfl h20p
          · have h20p := of_decide_eq_true (aX h20)
            refine wp_skip (aA (sg (aB (v := I (((K + 1) + 1) + 1)) rfl ?_)))
            have hb21 := hb18.up
            refine sg (aP rfl rfl hb21.i64 (sg (aD (v := I ((((K + 1) + 1) + 1) + 1)) rfl (aE (aA (sg (aB (v := I (i : Int)) hs6_5 (sg (aP rfl rfl (by (simp only [I64] at *; omega)) (sg (aD (v := I ((i : Int) + 1)) rfl (aE ?_))))))))))))
            exact ⟨_, x.length - (i + 1), (by omega), rfl, i + 1, (((K + 1) + 1) + 1) + 1, (by omega), (by omega), rfl, hs6_0, rfl, rfl, st5⟩
  · have h7p := of_decide_eq_false h7
    refine wp_exit (wp_seq (aA (sg (aB (v := I K) hs6_1 (sg (aD (v := I K) rfl (aE (wp_ret ?_)))))))); repeat first|refine aH ?_|refine aI ?_
    refine aW Tryz.results183 rfl ?_
    obtain rfl : i = x.length := by omega
    have hca := jM dD x _ rfl
    exact ⟨congrArg (fun z => Ending.returned (I z)) (by omega), st5.bare⟩
set_option maxHeartbeats 2000000 in
theorem markRunS_n {w W0 : World} {rs : List Res} {v : Value} {xs : List Run} {fp : List Nat} (hst : St w W0 (Res.own v xs fp :: rs)) (k : Int) (h0 : 0 ≤ k) (hk : k + (cL dP xs : Nat) ≤ 4611686018427387904) :
    Calls Tryz.prog 58 #[v, I k] W0 fun e w' => ∃ fp', e = .returned (I (k + (cL dP xs : Nat))) ∧ St w w' (Res.own v (mkL kD dP xs k) fp' :: rs) := by
  have hcap := (bC (hst.get 0 rfl)).len_le
  refine cF Tryz.func58 rfl Tryz.ntmps58 (by decide) (wp_seq (aA (sg (aD (v := I 0) rfl (aE (wp_seq (wp_seq (aA (sg (aD (v := I 0) rfl (aE (wp_block (bH (fun (m : Nat) (f : Nat → Value) (W : World) => ∃ (i : Nat) (K : Int) (fo1 : List Nat), i ≤ xs.length ∧ K = k + (cL dP (xs.take i) : Nat) ∧ m = xs.length - i ∧ f 0 = v ∧ f 1 = I K ∧ f 5 = I (i : Int) ∧ St w W (Res.own (α := List Run) v (mkL kD dP (xs.take i) k ++ xs.drop i) fo1 :: rs)) (xs.length - 0) ?_ ?_)))))))))))))
  · exact ⟨0, k, fp, Nat.zero_le _, (by simp [cL]), rfl, rfl, rfl, rfl, (by simpa [mkL] using hst)⟩
  intro m2 f3 W4 hJ5
  obtain ⟨i, K, fo1, hi, hK, rfl, hs7_0, hs7_1, hs7_5, st6⟩ := hJ5
  have hlx : (mkL kD dP (xs.take i) k ++ xs.drop i).length = xs.length := by rw [List.length_append, eY, List.length_take, List.length_drop]; omega
  refine wp_seq (wp_seq (aA (sg (aB (v := I (i : Int)) hs7_5 (sg (aB (v := v) hs7_0 (sg (aV bV rfl (bC (st6.get 0 rfl)) (sg (aY rfl rfl (aE (aR rfl (fun h8 => ?_) (fun h8 => ?_)))))))))))))
  · have h8p := of_decide_eq_true h8
    refine wp_skip (wp_seq (wp_block (wp_seq (aA (sg (aB (v := v) hs7_0 (sg (aB (v := I (i : Int)) hs7_5 (sg (aB (v := I K) hs7_1 ?_))))))))))
    have hq_ := fW (xs := xs) (i := i) (by omega)
    obtain ⟨y, hy⟩ := hq_
    have hcs := gW dP hy
    have hcl := fR dP xs (i + 1)
    have hne : dP y = 6 + cL bZ y.plan.edges + cL dD y.tasks := rfl
    have hb9 : Bd K (1 + (1 + (1 + (1 + (1 + ((cL bZ y.plan.edges) + (1 + ((cL dD y.tasks) + (0))))))))) := ⟨by omega, by omega⟩
    have hq_ := St.lendx (α := Run) (by decide) st6 (x := y) (mY hy)
    obtain ⟨b10, e10, pre10, cs10, post10, fi10, fr10, hPA10, hC10, st11⟩ := hq_
    have st15 := st11.f1
    have st16 := st15.uncs rfl
    have hq_ := kN st16
    obtain ⟨v17_0, v17_1, g17_0, g17_1, he17, hok17, st18⟩ := hq_
    subst he17
    skip
    refine sg (aG bV rfl hPA10 rfl rfl (sg (aC eU rfl ?_)))
    have st21 := st18.f2
    refine sg (bX (i := 0) (v := I K) (C' := [I K, I y.plan.prio, I y.plan.most, I y.plan.wait, I y.plan.tasks, v17_0, I y.state, v17_1]) (by kernel_rfl) rfl rfl rfl rfl st21 rfl (Nat.le_of_ble_eq_true rfl) rfl ?_); intro W22 st23
    refine aE (wp_seq (aA (sg (aB (v := I K) hs7_1 ?_))))
    have hb24 := hb9.up
    refine sg (aP rfl rfl hb24.i64 (sg (aD (v := I (K + 1)) rfl (aE (wp_seq (aA (sg (aB (v := v) hs7_0 (sg (aB (v := I (i : Int)) hs7_5 (sg (aB (v := I (K + 1)) rfl (sg (aG bV rfl hPA10 rfl rfl (sg (aC cQ rfl (sg (aC gB rfl (sg (bX (i := 1) (v := I (K + 1)) (C' := [I K, I (K + 1), I y.plan.most, I y.plan.wait, I y.plan.tasks, v17_0, I y.state, v17_1]) (by kernel_rfl) rfl rfl rfl rfl st23 rfl (Nat.le_of_ble_eq_true rfl) rfl ?_)))))))))))))))))))); intro W25 st26
    refine aE (wp_seq (aA (sg (aB (v := I (K + 1)) rfl ?_))))
    have hb27 := hb24.up
    refine sg (aP rfl rfl hb27.i64 (sg (aD (v := I ((K + 1) + 1)) rfl (aE (wp_seq (aA (sg (aB (v := v) hs7_0 (sg (aB (v := I (i : Int)) hs7_5 (sg (aB (v := I ((K + 1) + 1)) rfl (sg (aG bV rfl hPA10 rfl rfl (sg (aC cQ rfl (sg (aC fG rfl (sg (bX (i := 2) (v := I ((K + 1) + 1)) (C' := [I K, I (K + 1), I ((K + 1) + 1), I y.plan.wait, I y.plan.tasks, v17_0, I y.state, v17_1]) (by kernel_rfl) rfl rfl rfl rfl st26 rfl (Nat.le_of_ble_eq_true rfl) rfl ?_)))))))))))))))))))); intro W28 st29
    refine aE (wp_seq (aA (sg (aB (v := I ((K + 1) + 1)) rfl ?_))))
    have hb30 := hb27.up
    refine sg (aP rfl rfl hb30.i64 (sg (aD (v := I (((K + 1) + 1) + 1)) rfl (aE (wp_seq (aA (sg (aB (v := v) hs7_0 (sg (aB (v := I (i : Int)) hs7_5 (sg (aB (v := I (((K + 1) + 1) + 1)) rfl (sg (aG bV rfl hPA10 rfl rfl (sg (aC cQ rfl (sg (aC gM rfl (sg (bX (i := 3) (v := I (((K + 1) + 1) + 1)) (C' := [I K, I (K + 1), I ((K + 1) + 1), I (((K + 1) + 1) + 1), I y.plan.tasks, v17_0, I y.state, v17_1]) (by kernel_rfl) rfl rfl rfl rfl st29 rfl (Nat.le_of_ble_eq_true rfl) rfl ?_)))))))))))))))))))); intro W31 st32
    refine aE (wp_seq (aA (sg (aB (v := I (((K + 1) + 1) + 1)) rfl ?_))))
    have hb33 := hb30.up
    refine sg (aP rfl rfl hb33.i64 (sg (aD (v := I ((((K + 1) + 1) + 1) + 1)) rfl (aE (wp_seq (aA (sg (aB (v := v) hs7_0 (sg (aB (v := I (i : Int)) hs7_5 (sg (aB (v := I ((((K + 1) + 1) + 1) + 1)) rfl (sg (aG bV rfl hPA10 rfl rfl (sg (aC cQ rfl (sg (aC eK rfl (sg (bX (i := 4) (v := I ((((K + 1) + 1) + 1) + 1)) (C' := [I K, I (K + 1), I ((K + 1) + 1), I (((K + 1) + 1) + 1), I ((((K + 1) + 1) + 1) + 1), v17_0, I y.state, v17_1]) (by kernel_rfl) rfl rfl rfl rfl st32 rfl (Nat.le_of_ble_eq_true rfl) rfl ?_)))))))))))))))))))); intro W34 st35
    refine aE (wp_seq (aA (sg (aB (v := I ((((K + 1) + 1) + 1) + 1)) rfl ?_))))
    have hb36 := hb33.up
    refine sg (aP rfl rfl hb36.i64 (sg (aD (v := I (((((K + 1) + 1) + 1) + 1) + 1)) rfl (aE (wp_seq (aA (sg (aB (v := v) hs7_0 (sg (aB (v := I (i : Int)) hs7_5 (sg (aG bV rfl hPA10 rfl rfl (sg (aC cQ rfl (sg (aC dK rfl (sg (fS eB rfl rfl (st35.get 0 rfl) (i := 5) rfl rfl (sg (aB (v := I (((((K + 1) + 1) + 1) + 1) + 1)) rfl ?_))))))))))))))))))))
    have st41 := st35.f1
    have hb42 := hb36.upc
    refine sg (aZ Tryz.func87 rfl rfl rfl ((markEdgeS_n st41 (((((K + 1) + 1) + 1) + 1) + 1) hb36.lo hb36.hi).mono ?_)); rintro _ W37 ⟨fp40, rfl, st39⟩; refine ⟨_, rfl, ?_⟩
    refine sg (aD (v := I ((((((K + 1) + 1) + 1) + 1) + 1) + (cL bZ y.plan.edges : Nat))) rfl (aE (wp_seq (aA (sg (aB (v := v) hs7_0 (sg (aB (v := I (i : Int)) hs7_5 (sg (aB (v := I ((((((K + 1) + 1) + 1) + 1) + 1) + (cL bZ y.plan.edges : Nat))) rfl (sg (aG bV rfl hPA10 rfl rfl (sg (aC eO rfl ?_))))))))))))))
    have st43 := st39.f1
    refine sg (bX (i := 6) (v := I ((((((K + 1) + 1) + 1) + 1) + 1) + (cL bZ y.plan.edges : Nat))) (C' := [I K, I (K + 1), I ((K + 1) + 1), I (((K + 1) + 1) + 1), I ((((K + 1) + 1) + 1) + 1), v17_0, I ((((((K + 1) + 1) + 1) + 1) + 1) + (cL bZ y.plan.edges : Nat)), v17_1]) (by kernel_rfl) rfl rfl rfl rfl st43 rfl (Nat.le_of_ble_eq_true rfl) rfl ?_); intro W44 st45
    refine aE (wp_seq (aA (sg (aB (v := I ((((((K + 1) + 1) + 1) + 1) + 1) + (cL bZ y.plan.edges : Nat))) rfl ?_))))
    have hb46 := hb42.up
    refine sg (aP rfl rfl hb46.i64 (sg (aD (v := I (((((((K + 1) + 1) + 1) + 1) + 1) + (cL bZ y.plan.edges : Nat)) + 1)) rfl (aE (aA (sg (aB (v := v) hs7_0 (sg (aB (v := I (i : Int)) hs7_5 (sg (aG bV rfl hPA10 rfl rfl (sg (aC bJ rfl (sg (fS bM rfl rfl (st45.get 0 rfl) (i := 7) rfl rfl (sg (aB (v := I (((((((K + 1) + 1) + 1) + 1) + 1) + (cL bZ y.plan.edges : Nat)) + 1)) rfl ?_)))))))))))))))))
    have st51 := st45.f2
    have hb52 := hb46.upc
    refine sg (aZ Tryz.func116 rfl rfl rfl ((markTaskS_n st51 (((((((K + 1) + 1) + 1) + 1) + 1) + (cL bZ y.plan.edges : Nat)) + 1) hb46.lo hb46.hi).mono ?_)); rintro _ W47 ⟨fp50, rfl, st49⟩; refine ⟨_, rfl, ?_⟩
    refine sg (aD (v := I ((((((((K + 1) + 1) + 1) + 1) + 1) + (cL bZ y.plan.edges : Nat)) + 1) + (cL dD y.tasks : Nat))) rfl (aE (aA (sg (aB (v := I (i : Int)) hs7_5 (sg (aP rfl rfl (by (simp only [I64] at *; omega)) (sg (aD (v := I ((i : Int) + 1)) rfl (aE ?_))))))))))
    have st53 := st49.f2
    have st54 := hL (x := (⟨K, ⟨K + 1, (K + 1) + 1, ((K + 1) + 1) + 1, (((K + 1) + 1) + 1) + 1, mkL jG bZ y.plan.edges (((((K + 1) + 1) + 1) + 1) + 1)⟩, (((((K + 1) + 1) + 1) + 1) + 1) + (cL bZ y.plan.edges : Nat), mkL jF dD y.tasks (((((((K + 1) + 1) + 1) + 1) + 1) + (cL bZ y.plan.edges : Nat)) + 1)⟩ : Run)) st53 (by first | exact True.intro | (simp only [Edge.ok, Plan.ok, Entry.ok, Task.ok, Run.ok, Yard.ok, Reply.ok, Deed.ok, Note.ok, Wait.ok, File.ok, Disk.ok, Engine.ok, WorldD.ok, ActD.ok, Hand.ok, Span.ok, Crew.ok, View.ok, I64] at *; omega))
    try dsimp only at st54
    have st56 := st54.cs rfl
    have st57 := st56.f2
    have st58 := st57.f1
    have st59 := st58.f2
    have hq_ := St.give (α := Run) st59
    obtain ⟨fp60, st61⟩ := hq_
    exact ⟨_, xs.length - (i + 1), (by omega), rfl, i + 1, (((((((K + 1) + 1) + 1) + 1) + 1) + (cL bZ y.plan.edges : Nat)) + 1) + (cL dD y.tasks : Nat), fp60, (by omega), (by omega), rfl, hs7_0, rfl, rfl, (by rw [← kP hy hK]; exact st61)⟩
  · have h8p := of_decide_eq_false h8
    refine wp_exit (wp_seq (aA (sg (aB (v := I K) hs7_1 (sg (aD (v := I K) rfl (aE (wp_ret ?_)))))))); repeat first|refine aH ?_|refine aI ?_
    refine aW Tryz.results58 rfl ?_
    obtain rfl : i = xs.length := by omega
    have hca := jM dP xs _ rfl
    rw [pP rfl] at st6
    exact ⟨_, congrArg (fun z => Ending.returned (I z)) (by omega), st6⟩
set_option maxHeartbeats 2000000 in
theorem heldRunS_n (w : World) {v : Value} {x : List Run} {fp : List Nat} {k : Int} (h : Sl w v (mkL kD dP x k) fp) (h0 : 0 ≤ k) (hk : k + (cL dP x : Nat) ≤ 4611686018427387904) :
    Calls Tryz.prog 118 #[v, I k] w fun e w' => e = .returned (I (k + (cL dP x : Nat))) ∧ St w w' [] := by
  have hcap := h.len_le
  rw [eY] at hcap
  have hml : (mkL kD dP x k).length = x.length := eY _ _
  refine cF Tryz.func118 rfl Tryz.ntmps118 (by decide) (wp_seq (aA (sg (aD (v := I 0) rfl (aE (wp_seq (wp_seq (aA (sg (aD (v := I 0) rfl (aE (wp_block (bH (fun (m : Nat) (f : Nat → Value) (W : World) => ∃ (i : Nat) (K : Int), i ≤ x.length ∧ K = k + (cL dP (x.take i) : Nat) ∧ m = x.length - i ∧ f 0 = v ∧ f 1 = I K ∧ f 5 = I (i : Int) ∧ St w W ([])) (x.length - 0) ?_ ?_)))))))))))))
  · exact ⟨0, k, Nat.zero_le _, (by simp [cL]), rfl, rfl, rfl, rfl, (St.start w)⟩
  intro m1 f2 W3 hJ4
  obtain ⟨i, K, hi, hK, rfl, hs6_0, hs6_1, hs6_5, st5⟩ := hJ4
  refine wp_seq (wp_seq (aA (sg (aB (v := I (i : Int)) hs6_5 (sg (aB (v := v) hs6_0 (sg (aV bV rfl h (sg (aY rfl rfl (aE (aR rfl (fun h7 => ?_) (fun h7 => ?_)))))))))))))
  · have h7p := of_decide_eq_true h7
    refine wp_skip (wp_seq (wp_block (wp_seq (wp_seq (aA (sg (aB (v := v) hs6_0 (sg (aB (v := I (i : Int)) hs6_5 ?_)))))))))
    have hq_ := fW (xs := x) (i := i) (by omega)
    obtain ⟨y, hy⟩ := hq_
    have hcs := gW dP hy
    have hcl := fR dP x (i + 1)
    have hne : dP y = 6 + cL bZ y.plan.edges + cL dD y.tasks := rfl
    have hb9 : Bd K (1 + (1 + (1 + (1 + (1 + ((cL bZ y.plan.edges) + (1 + ((cL dD y.tasks) + (0))))))))) := ⟨by omega, by omega⟩
    have hq_ := sU h hy hK
    obtain ⟨b8, o8, cs8, f8, hp8, hr8, hc8, hm8⟩ := hq_
    have hk10 := hc8
    obtain ⟨v10_0, v10_1, g10_0, g10_1, he10, hok10, h10_0, h10_1, rfl⟩ := hk10
    have he10 : _ = [I K, I (K + 1), I ((K + 1) + 1), I (((K + 1) + 1) + 1), I ((((K + 1) + 1) + 1) + 1), v10_0, I ((((((K + 1) + 1) + 1) + 1) + 1) + (cL bZ y.plan.edges : Nat)), v10_1] := he10; subst he10
    have h10_0 : Sl _ v10_0 (mkL jG bZ y.plan.edges (((((K + 1) + 1) + 1) + 1) + 1)) _ := h10_0
    have h10_1 : Sl _ v10_1 (mkL jF dD y.tasks (((((((K + 1) + 1) + 1) + 1) + 1) + (cL bZ y.plan.edges : Nat)) + 1)) _ := h10_1
    skip
    refine sg (aG bV rfl hp8 rfl rfl (sg (aC eU rfl (sg (aK aJ rfl rfl hr8 st5.below (i := 0) rfl rfl (sg (aB (v := I K) hs6_1 (sg (bL rfl rfl (aE (aR rfl (fun h11 => ?_) (fun h11 => ?_))))))))))))
    · have h11p := of_decide_eq_false (aS h11)
      exact absurd rfl h11p
    · have h11p := of_decide_eq_true (aX h11)
      refine wp_skip (wp_seq (aA (sg (aB (v := I K) hs6_1 ?_))))
      have hb12 := hb9.up
      refine sg (aP rfl rfl hb12.i64 (sg (aD (v := I (K + 1)) rfl (aE (wp_seq (wp_seq (aA (sg (aB (v := v) hs6_0 (sg (aB (v := I (i : Int)) hs6_5 ?_)))))))))))
      skip
      refine sg (aG bV rfl hp8 rfl rfl (sg (aC cQ rfl (sg (aC gB rfl (sg (aK aJ rfl rfl hr8 st5.below (i := 1) rfl rfl (sg (aB (v := I (K + 1)) rfl (sg (bL rfl rfl (aE (aR rfl (fun h14 => ?_) (fun h14 => ?_))))))))))))))
      · have h14p := of_decide_eq_false (aS h14)
        exact absurd rfl h14p
      · have h14p := of_decide_eq_true (aX h14)
        refine wp_skip (wp_seq (aA (sg (aB (v := I (K + 1)) rfl ?_))))
        have hb15 := hb12.up
        refine sg (aP rfl rfl hb15.i64 (sg (aD (v := I ((K + 1) + 1)) rfl (aE (wp_seq (wp_seq (aA (sg (aB (v := v) hs6_0 (sg (aB (v := I (i : Int)) hs6_5 ?_)))))))))))
        skip
        refine sg (aG bV rfl hp8 rfl rfl (sg (aC cQ rfl (sg (aC fG rfl (sg (aK aJ rfl rfl hr8 st5.below (i := 2) rfl rfl (sg (aB (v := I ((K + 1) + 1)) rfl (sg (bL rfl rfl (aE (aR rfl (fun h17 => ?_) (fun h17 => ?_))))))))))))))
        · have h17p := of_decide_eq_false (aS h17)
          exact absurd rfl h17p
        · have h17p := of_decide_eq_true (aX h17)
          refine wp_skip (wp_seq (aA (sg (aB (v := I ((K + 1) + 1)) rfl ?_))))
          have hb18 := hb15.up
          refine sg (aP rfl rfl hb18.i64 (sg (aD (v := I (((K + 1) + 1) + 1)) rfl (aE (wp_seq (wp_seq (aA (sg (aB (v := v) hs6_0 (sg (aB (v := I (i : Int)) hs6_5 ?_)))))))))))
          skip
          refine sg (aG bV rfl hp8 rfl rfl (sg (aC cQ rfl (sg (aC gM rfl (sg (aK aJ rfl rfl hr8 st5.below (i := 3) rfl rfl (sg (aB (v := I (((K + 1) + 1) + 1)) rfl (sg (bL rfl rfl (aE (aR rfl (fun h20 => ?_) (fun h20 => ?_))))))))))))))
          · have h20p := of_decide_eq_false (aS h20)
            exact absurd rfl h20p
          · have h20p := of_decide_eq_true (aX h20)
            refine wp_skip (wp_seq (aA (sg (aB (v := I (((K + 1) + 1) + 1)) rfl ?_))))
            have hb21 := hb18.up
            refine sg (aP rfl rfl hb21.i64 (sg (aD (v := I ((((K + 1) + 1) + 1) + 1)) rfl (aE (wp_seq (wp_seq (aA (sg (aB (v := v) hs6_0 (sg (aB (v := I (i : Int)) hs6_5 ?_)))))))))))
            skip
            refine sg (aG bV rfl hp8 rfl rfl (sg (aC cQ rfl (sg (aC eK rfl (sg (aK aJ rfl rfl hr8 st5.below (i := 4) rfl rfl (sg (aB (v := I ((((K + 1) + 1) + 1) + 1)) rfl (sg (bL rfl rfl (aE (aR rfl (fun h23 => ?_) (fun h23 => ?_))))))))))))))
            · have h23p := of_decide_eq_false (aS h23)
              exact absurd rfl h23p
            · have h23p := of_decide_eq_true (aX h23)
              refine wp_skip (wp_seq (aA (sg (aB (v := I ((((K + 1) + 1) + 1) + 1)) rfl ?_))))
              have hb24 := hb21.up
              refine sg (aP rfl rfl hb24.i64 (sg (aD (v := I (((((K + 1) + 1) + 1) + 1) + 1)) rfl (aE (wp_seq (aA (sg (aB (v := v) hs6_0 (sg (aB (v := I (i : Int)) hs6_5 ?_))))))))))
              skip
              refine sg (aG bV rfl hp8 rfl rfl (sg (aC cQ rfl (sg (aC dK rfl (sg (aK eB rfl rfl hr8 st5.below (i := 5) rfl rfl (sg (aB (v := I (((((K + 1) + 1) + 1) + 1) + 1)) rfl ?_)))))))))
              have hb30 := hb24.upc
              refine sg (aZ Tryz.func182 rfl rfl rfl ((heldEdgeS_n W3 (x := y.plan.edges) (h10_0.below st5.below) hb24.lo hb24.hi).mono ?_)); rintro _ W26 ⟨rfl, hk27⟩; refine ⟨_, rfl, ?_⟩
              have st28 := St.call st5 hk27
              refine sg (aD (v := I ((((((K + 1) + 1) + 1) + 1) + 1) + (cL bZ y.plan.edges : Nat))) rfl (aE (wp_seq (wp_seq (aA (sg (aB (v := I ((((((K + 1) + 1) + 1) + 1) + 1) + (cL bZ y.plan.edges : Nat))) rfl (sg (aY rfl rfl (aE (aR rfl (fun h31 => ?_) (fun h31 => ?_))))))))))))
              · have h31p := of_decide_eq_true h31
                exact absurd h31p (Int.not_lt.2 hb30.1)
              · have h31p := of_decide_eq_false h31
                refine wp_skip (wp_seq (wp_seq (aA (sg (aB (v := v) hs6_0 (sg (aB (v := I (i : Int)) hs6_5 ?_)))))))
                skip
                refine sg (aG bV rfl hp8 rfl rfl (sg (aC eO rfl (sg (aK aJ rfl rfl hr8 st28.below (i := 6) rfl rfl (sg (aB (v := I ((((((K + 1) + 1) + 1) + 1) + 1) + (cL bZ y.plan.edges : Nat))) rfl (sg (bL rfl rfl (aE (aR rfl (fun h33 => ?_) (fun h33 => ?_))))))))))))
                · have h33p := of_decide_eq_false (aS h33)
                  exact absurd rfl h33p
                · have h33p := of_decide_eq_true (aX h33)
                  refine wp_skip (wp_seq (aA (sg (aB (v := I ((((((K + 1) + 1) + 1) + 1) + 1) + (cL bZ y.plan.edges : Nat))) rfl ?_))))
                  have hb34 := hb30.up
                  refine sg (aP rfl rfl hb34.i64 (sg (aD (v := I (((((((K + 1) + 1) + 1) + 1) + 1) + (cL bZ y.plan.edges : Nat)) + 1)) rfl (aE (wp_seq (aA (sg (aB (v := v) hs6_0 (sg (aB (v := I (i : Int)) hs6_5 ?_))))))))))
                  skip
                  refine sg (aG bV rfl hp8 rfl rfl (sg (aC bJ rfl (sg (aK bM rfl rfl hr8 st28.below (i := 7) rfl rfl (sg (aB (v := I (((((((K + 1) + 1) + 1) + 1) + 1) + (cL bZ y.plan.edges : Nat)) + 1)) rfl ?_)))))))
                  have hb40 := hb34.upc
                  refine sg (aZ Tryz.func183 rfl rfl rfl ((heldTaskS_n W26 (x := y.tasks) (h10_1.below st28.below) hb34.lo hb34.hi).mono ?_)); rintro _ W36 ⟨rfl, hk37⟩; refine ⟨_, rfl, ?_⟩
                  have st38 := St.call st28 hk37
                  refine sg (aD (v := I ((((((((K + 1) + 1) + 1) + 1) + 1) + (cL bZ y.plan.edges : Nat)) + 1) + (cL dD y.tasks : Nat))) rfl (aE (wp_seq (aA (sg (aB (v := I ((((((((K + 1) + 1) + 1) + 1) + 1) + (cL bZ y.plan.edges : Nat)) + 1) + (cL dD y.tasks : Nat))) rfl (sg (aY rfl rfl (aE (aR rfl (fun h41 => ?_) (fun h41 => ?_)))))))))))
                  · have h41p := of_decide_eq_true h41
                    exact absurd h41p (Int.not_lt.2 hb40.1)
                  · have h41p := of_decide_eq_false h41
                    refine wp_skip (aA (sg (aB (v := I (i : Int)) hs6_5 (sg (aP rfl rfl (by (simp only [I64] at *; omega)) (sg (aD (v := I ((i : Int) + 1)) rfl (aE ?_))))))))
                    exact ⟨_, x.length - (i + 1), (by omega), rfl, i + 1, (((((((K + 1) + 1) + 1) + 1) + 1) + (cL bZ y.plan.edges : Nat)) + 1) + (cL dD y.tasks : Nat), (by omega), (by omega), rfl, hs6_0, rfl, rfl, st38⟩
  · have h7p := of_decide_eq_false h7
    refine wp_exit (wp_seq (aA (sg (aB (v := I K) hs6_1 (sg (aD (v := I K) rfl (aE (wp_ret ?_)))))))); repeat first|refine aH ?_|refine aI ?_
    refine aW Tryz.results118 rfl ?_
    obtain rfl : i = x.length := by omega
    have hca := jM dP x _ rfl
    exact ⟨congrArg (fun z => Ending.returned (I z)) (by omega), st5.bare⟩
set_option maxHeartbeats 2000000 in
theorem markEntrySS_n {w W0 : World} {rs : List Res} {v : Value} {xs : List (List Entry)} {fp : List Nat} (hst : St w W0 (Res.own v xs fp :: rs)) (k : Int) (h0 : 0 ≤ k) (hk : k + (cL (cL bB) xs : Nat) ≤ 4611686018427387904) :
    Calls Tryz.prog 57 #[v, I k] W0 fun e w' => ∃ fp', e = .returned (I (k + (cL (cL bB) xs : Nat))) ∧ St w w' (Res.own v (mkL (mkL fM bB) (cL bB) xs k) fp' :: rs) := by
  have hcap := (bC (hst.get 0 rfl)).len_le
  refine cF Tryz.func57 rfl Tryz.ntmps57 (by decide) (wp_seq (aA (sg (aD (v := I 0) rfl (aE (wp_seq (wp_seq (aA (sg (aD (v := I 0) rfl (aE (wp_block (bH (fun (m : Nat) (f : Nat → Value) (W : World) => ∃ (i : Nat) (K : Int) (fo1 : List Nat), i ≤ xs.length ∧ K = k + (cL (cL bB) (xs.take i) : Nat) ∧ m = xs.length - i ∧ f 0 = v ∧ f 1 = I K ∧ f 5 = I (i : Int) ∧ St w W (Res.own (α := List (List Entry)) v (mkL (mkL fM bB) (cL bB) (xs.take i) k ++ xs.drop i) fo1 :: rs)) (xs.length - 0) ?_ ?_)))))))))))))
  · exact ⟨0, k, fp, Nat.zero_le _, (by simp [cL]), rfl, rfl, rfl, rfl, (by simpa [mkL] using hst)⟩
  intro m2 f3 W4 hJ5
  obtain ⟨i, K, fo1, hi, hK, rfl, hs7_0, hs7_1, hs7_5, st6⟩ := hJ5
  have hlx : (mkL (mkL fM bB) (cL bB) (xs.take i) k ++ xs.drop i).length = xs.length := by rw [List.length_append, eY, List.length_take, List.length_drop]; omega
  refine wp_seq (wp_seq (aA (sg (aB (v := I (i : Int)) hs7_5 (sg (aB (v := v) hs7_0 (sg (aV cM rfl (bC (st6.get 0 rfl)) (sg (aY rfl rfl (aE (aR rfl (fun h8 => ?_) (fun h8 => ?_)))))))))))))
  · have h8p := of_decide_eq_true h8
    refine wp_skip (wp_seq (wp_block (aA (sg (aB (v := v) hs7_0 (sg (aB (v := I (i : Int)) hs7_5 ?_)))))))
    have hq_ := fW (xs := xs) (i := i) (by omega)
    obtain ⟨y, hy⟩ := hq_
    have hcs := gW (cL bB) hy
    have hcl := fR (cL bB) xs (i + 1)
    have hne : cL bB y = cL bB y := rfl
    have hb9 : Bd K ((cL bB y) + (0)) := ⟨by omega, by omega⟩
    have hq_ := St.lendx (α := List Entry) (by decide) st6 (x := y) (mY hy)
    obtain ⟨b10, e10, pre10, cs10, post10, fi10, fr10, hPA10, hC10, st11⟩ := hq_
    have st15 := st11.f1
    have hq_ := st15.uncs1
    obtain ⟨v10, he10, st16⟩ := hq_; subst he10
    skip
    refine sg (aG cM rfl hPA10 rfl rfl (sg (fS fD rfl rfl (st16.get 1 rfl) (i := 0) rfl rfl (sg (aB (v := I K) hs7_1 ?_)))))
    have hb21 := hb9.upc
    refine sg (aZ Tryz.func115 rfl rfl rfl ((markEntryS_n st16 K hb9.lo hb9.hi).mono ?_)); rintro _ W17 ⟨fp20, rfl, st19⟩; refine ⟨_, rfl, ?_⟩
    refine sg (aD (v := I (K + (cL bB y : Nat))) rfl (aE (aA (sg (aB (v := I (i : Int)) hs7_5 (sg (aP rfl rfl (by (simp only [I64] at *; omega)) (sg (aD (v := I ((i : Int) + 1)) rfl (aE ?_))))))))))
    have st22 := st19.cs1
    have st23 := st22.f2
    have st24 := st23.f1
    have st25 := st24.f2
    have hq_ := St.give (α := List Entry) st25
    obtain ⟨fp26, st27⟩ := hq_
    exact ⟨_, xs.length - (i + 1), (by omega), rfl, i + 1, K + (cL bB y : Nat), fp26, (by omega), (by omega), rfl, hs7_0, rfl, rfl, (by rw [← kP hy hK]; exact st27)⟩
  · have h8p := of_decide_eq_false h8
    refine wp_exit (wp_seq (aA (sg (aB (v := I K) hs7_1 (sg (aD (v := I K) rfl (aE (wp_ret ?_)))))))); repeat first|refine aH ?_|refine aI ?_
    refine aW Tryz.results57 rfl ?_
    obtain rfl : i = xs.length := by omega
    have hca := jM (cL bB) xs _ rfl
    rw [pP rfl] at st6
    exact ⟨_, congrArg (fun z => Ending.returned (I z)) (by omega), st6⟩
set_option maxHeartbeats 2000000 in
theorem heldEntrySS_n (w : World) {v : Value} {x : List (List Entry)} {fp : List Nat} {k : Int} (h : Sl w v (mkL (mkL fM bB) (cL bB) x k) fp) (h0 : 0 ≤ k) (hk : k + (cL (cL bB) x : Nat) ≤ 4611686018427387904) :
    Calls Tryz.prog 117 #[v, I k] w fun e w' => e = .returned (I (k + (cL (cL bB) x : Nat))) ∧ St w w' [] := by
  have hcap := h.len_le
  rw [eY] at hcap
  have hml : (mkL (mkL fM bB) (cL bB) x k).length = x.length := eY _ _
  refine cF Tryz.func117 rfl Tryz.ntmps117 (by decide) (wp_seq (aA (sg (aD (v := I 0) rfl (aE (wp_seq (wp_seq (aA (sg (aD (v := I 0) rfl (aE (wp_block (bH (fun (m : Nat) (f : Nat → Value) (W : World) => ∃ (i : Nat) (K : Int), i ≤ x.length ∧ K = k + (cL (cL bB) (x.take i) : Nat) ∧ m = x.length - i ∧ f 0 = v ∧ f 1 = I K ∧ f 5 = I (i : Int) ∧ St w W ([])) (x.length - 0) ?_ ?_)))))))))))))
  · exact ⟨0, k, Nat.zero_le _, (by simp [cL]), rfl, rfl, rfl, rfl, (St.start w)⟩
  intro m1 f2 W3 hJ4
  obtain ⟨i, K, hi, hK, rfl, hs6_0, hs6_1, hs6_5, st5⟩ := hJ4
  refine wp_seq (wp_seq (aA (sg (aB (v := I (i : Int)) hs6_5 (sg (aB (v := v) hs6_0 (sg (aV cM rfl h (sg (aY rfl rfl (aE (aR rfl (fun h7 => ?_) (fun h7 => ?_)))))))))))))
  · have h7p := of_decide_eq_true h7
    refine wp_skip (wp_seq (wp_block (wp_seq (aA (sg (aB (v := v) hs6_0 (sg (aB (v := I (i : Int)) hs6_5 ?_))))))))
    have hq_ := fW (xs := x) (i := i) (by omega)
    obtain ⟨y, hy⟩ := hq_
    have hcs := gW (cL bB) hy
    have hcl := fR (cL bB) x (i + 1)
    have hne : cL bB y = cL bB y := rfl
    have hb9 : Bd K ((cL bB y) + (0)) := ⟨by omega, by omega⟩
    have hq_ := sU h hy hK
    obtain ⟨b8, o8, cs8, f8, hp8, hr8, hc8, hm8⟩ := hq_
    obtain ⟨v10, rfl, h11⟩ := hc8
    have h11 : Sl _ v10 (mkL fM bB y K) f8 := h11
    skip
    refine sg (aG cM rfl hp8 rfl rfl (sg (aK fD rfl rfl hr8 st5.below (i := 0) rfl rfl (sg (aB (v := I K) hs6_1 ?_)))))
    have hb16 := hb9.upc
    refine sg (aZ Tryz.func181 rfl rfl rfl ((heldEntryS_n W3 (x := y) (h11.below st5.below) hb9.lo hb9.hi).mono ?_)); rintro _ W12 ⟨rfl, hk13⟩; refine ⟨_, rfl, ?_⟩
    have st14 := St.call st5 hk13
    refine sg (aD (v := I (K + (cL bB y : Nat))) rfl (aE (wp_seq (aA (sg (aB (v := I (K + (cL bB y : Nat))) rfl (sg (aY rfl rfl (aE (aR rfl (fun h17 => ?_) (fun h17 => ?_)))))))))))
    · have h17p := of_decide_eq_true h17
      exact absurd h17p (Int.not_lt.2 hb16.1)
    · have h17p := of_decide_eq_false h17
      refine wp_skip (aA (sg (aB (v := I (i : Int)) hs6_5 (sg (aP rfl rfl (by (simp only [I64] at *; omega)) (sg (aD (v := I ((i : Int) + 1)) rfl (aE ?_))))))))
      exact ⟨_, x.length - (i + 1), (by omega), rfl, i + 1, K + (cL bB y : Nat), (by omega), (by omega), rfl, hs6_0, rfl, rfl, st14⟩
  · have h7p := of_decide_eq_false h7
    refine wp_exit (wp_seq (aA (sg (aB (v := I K) hs6_1 (sg (aD (v := I K) rfl (aE (wp_ret ?_)))))))); repeat first|refine aH ?_|refine aI ?_
    refine aW Tryz.results117 rfl ?_
    obtain rfl : i = x.length := by omega
    have hca := jM (cL bB) x _ rfl
    exact ⟨congrArg (fun z => Ending.returned (I z)) (by omega), st5.bare⟩
set_option maxHeartbeats 2000000 in
theorem rC {w W0 : World} {rs : List Res} {x : Yard} {cs : List Value} {fp : List Nat} (hst : St w W0 (Res.own (.agg cs.toArray) x fp :: rs)) (k : Int) (h0 : 0 ≤ k) (hk : k + (dJ x : Nat) ≤ 4611686018427387904) :
    Calls Tryz.prog 20 #[.agg cs.toArray, I k] W0 fun e w' => ∃ fp', e = .returned (I (k + (dJ x : Nat))) ∧ St w w' (Res.own (.agg cs.toArray) (oN x k) fp' :: rs) := by
  have hk2 := hk
  unfold dJ at hk2
  refine cF Tryz.func20 rfl Tryz.ntmps20 (by decide) ?_
  have hb1 : Bd k ((cL (cL bB) x.shelf) + ((cL dP x.runs) + (0))) := ⟨by omega, by omega⟩
  refine wp_seq (aA (sg (aQ (cs := cs) rfl hst ?_))); intro b2 W3 hb4 st5
  refine sg (aD (v := I 0) rfl (aE (wp_seq (aA (sg (aC dG rfl ?_))))))
  have st7 := st5.f1
  have hq_ := jT st7
  obtain ⟨v8_0, v8_1, g8_0, g8_1, he8, hok8, st9⟩ := hq_
  subst he8
  refine sg (aF dE rfl rfl (st9.get 2 rfl) (i := 2) rfl rfl (sg (aB (v := I k) rfl ?_)))
  have hb16 := hb1.upc
  refine sg (aZ Tryz.func57 rfl rfl rfl ((markEntrySS_n st9 k hb1.lo hb1.hi).mono ?_)); rintro _ W12 ⟨fp15, rfl, st14⟩; refine ⟨_, rfl, ?_⟩
  refine sg (aD (v := I (k + (cL (cL bB) x.shelf : Nat))) rfl (aE (wp_seq (aA (sg (aC bW rfl (sg (aF cV rfl rfl (st14.get 2 rfl) (i := 3) rfl rfl (sg (aB (v := I (k + (cL (cL bB) x.shelf : Nat))) rfl ?_))))))))))
  have st21 := st14.f1
  have hb22 := hb16.upc
  refine sg (aZ Tryz.func58 rfl rfl rfl ((markRunS_n st21 (k + (cL (cL bB) x.shelf : Nat)) hb16.lo hb16.hi).mono ?_)); rintro _ W17 ⟨fp20, rfl, st19⟩; refine ⟨_, rfl, ?_⟩
  refine sg (aD (v := I ((k + (cL (cL bB) x.shelf : Nat)) + (cL dP x.runs : Nat))) rfl (aE (wp_seq (aA (sg (aB (v := I ((k + (cL (cL bB) x.shelf : Nat)) + (cL dP x.runs : Nat))) rfl (sg (aD (v := I ((k + (cL (cL bB) x.shelf : Nat)) + (cL dP x.runs : Nat))) rfl (aE (wp_ret ?_)))))))))); repeat first|refine aH ?_|refine aI ?_
  refine aW Tryz.results20 rfl ?_
  have st23 := st19.f1
  have st24 := iU (x := (oN x k)) st23 hok8
  have st26 := st24.d1
  exact ⟨_, congrArg (fun z => Ending.returned (I z)) (by unfold dJ; push_cast; omega), st26⟩
set_option maxHeartbeats 2000000 in
theorem heldYard_n (w : World) {x : Yard} {cs : List Value} {fp : List Nat} {k : Int} (hc : Shape.C w cs (oN x k) fp) (h0 : 0 ≤ k) (hk : k + (dJ x : Nat) ≤ 4611686018427387904) :
    Calls Tryz.prog 60 #[.agg cs.toArray, I k] w fun e w' => e = .returned (I (k + (dJ x : Nat))) ∧ St w w' [] := by
  have hk2 := hk
  have hnt : dJ x = cL (cL bB) x.shelf + cL dP x.runs := rfl
  refine cF Tryz.func60 rfl Tryz.ntmps60 (by decide) ?_
  have hb1 : Bd k ((cL (cL bB) x.shelf) + ((cL dP x.runs) + (0))) := ⟨by omega, by omega⟩
  refine wp_seq (aA (sg (aQ (cs := cs) rfl (St.start w) ?_))); intro b2 W3 hb4 st5
  refine sg (aD (v := I 0) rfl (aE (wp_seq (aA (sg (aC dG rfl ?_))))))
  have hk7 := hc
  obtain ⟨v7_0, v7_1, g7_0, g7_1, he7, hok7, h7_0, h7_1, rfl⟩ := hk7
  have he7 : _ = [I x.now, I x.seq, v7_0, v7_1] := he7; subst he7
  have h7_0 : Sl _ v7_0 (mkL (mkL fM bB) (cL bB) x.shelf k) _ := h7_0
  have h7_1 : Sl _ v7_1 (mkL kD dP x.runs (k + (cL (cL bB) x.shelf : Nat))) _ := h7_1
  refine sg (aF dE rfl rfl (st5.get 0 rfl) (i := 2) rfl rfl (sg (aB (v := I k) rfl ?_)))
  have hb12 := hb1.upc
  refine sg (aZ Tryz.func117 rfl rfl rfl ((heldEntrySS_n W3 (x := x.shelf) (h7_0.below st5.below) hb1.lo hb1.hi).mono ?_)); rintro _ W8 ⟨rfl, hk9⟩; refine ⟨_, rfl, ?_⟩
  have st10 := St.call st5 hk9
  refine sg (aD (v := I (k + (cL (cL bB) x.shelf : Nat))) rfl (aE (wp_seq (wp_seq (aA (sg (aB (v := I (k + (cL (cL bB) x.shelf : Nat))) rfl (sg (aY rfl rfl (aE (aR rfl (fun h13 => ?_) (fun h13 => ?_))))))))))))
  · have h13p := of_decide_eq_true h13
    exact absurd h13p (Int.not_lt.2 hb12.1)
  · have h13p := of_decide_eq_false h13
    refine wp_skip (wp_seq (aA (sg (aC bW rfl (sg (aF cV rfl rfl (st10.get 0 rfl) (i := 3) rfl rfl (sg (aB (v := I (k + (cL (cL bB) x.shelf : Nat))) rfl ?_))))))))
    have hb18 := hb12.upc
    refine sg (aZ Tryz.func118 rfl rfl rfl ((heldRunS_n W8 (x := x.runs) (h7_1.below st10.below) hb12.lo hb12.hi).mono ?_)); rintro _ W14 ⟨rfl, hk15⟩; refine ⟨_, rfl, ?_⟩
    have st16 := St.call st10 hk15
    refine sg (aD (v := I ((k + (cL (cL bB) x.shelf : Nat)) + (cL dP x.runs : Nat))) rfl (aE (wp_seq (wp_seq (aA (sg (aB (v := I ((k + (cL (cL bB) x.shelf : Nat)) + (cL dP x.runs : Nat))) rfl (sg (aY rfl rfl (aE (aR rfl (fun h19 => ?_) (fun h19 => ?_))))))))))))
    · have h19p := of_decide_eq_true h19
      exact absurd h19p (Int.not_lt.2 hb18.1)
    · have h19p := of_decide_eq_false h19
      refine wp_skip (wp_seq (aA (sg (aB (v := I ((k + (cL (cL bB) x.shelf : Nat)) + (cL dP x.runs : Nat))) rfl (sg (aD (v := I ((k + (cL (cL bB) x.shelf : Nat)) + (cL dP x.runs : Nat))) rfl (aE (wp_ret ?_)))))))); repeat first|refine aH ?_|refine aI ?_
      refine aW Tryz.results60 rfl ?_
      exact ⟨congrArg (fun z => Ending.returned (I z)) (by omega), st16.bare⟩
set_option maxHeartbeats 2000000 in
theorem markReplyS_n {w W0 : World} {rs : List Res} {v : Value} {xs : List Reply} {fp : List Nat} (hst : St w W0 (Res.own v xs fp :: rs)) (k : Int) (h0 : 0 ≤ k) (hk : k + (cL cO xs : Nat) ≤ 4611686018427387904) :
    Calls Tryz.prog 59 #[v, I k] W0 fun e w' => ∃ fp', e = .returned (I (k + (cL cO xs : Nat))) ∧ St w w' (Res.own v (mkL iY cO xs k) fp' :: rs) := by
  have hcap := (bC (hst.get 0 rfl)).len_le
  refine cF Tryz.func59 rfl Tryz.ntmps59 (by decide) (wp_seq (aA (sg (aD (v := I 0) rfl (aE (wp_seq (wp_seq (aA (sg (aD (v := I 0) rfl (aE (wp_block (bH (fun (m : Nat) (f : Nat → Value) (W : World) => ∃ (i : Nat) (K : Int) (fo1 : List Nat), i ≤ xs.length ∧ K = k + (cL cO (xs.take i) : Nat) ∧ m = xs.length - i ∧ f 0 = v ∧ f 1 = I K ∧ f 5 = I (i : Int) ∧ St w W (Res.own (α := List Reply) v (mkL iY cO (xs.take i) k ++ xs.drop i) fo1 :: rs)) (xs.length - 0) ?_ ?_)))))))))))))
  · exact ⟨0, k, fp, Nat.zero_le _, (by simp [cL]), rfl, rfl, rfl, rfl, (by simpa [mkL] using hst)⟩
  intro m2 f3 W4 hJ5
  obtain ⟨i, K, fo1, hi, hK, rfl, hs7_0, hs7_1, hs7_5, st6⟩ := hJ5
  have hlx : (mkL iY cO (xs.take i) k ++ xs.drop i).length = xs.length := by rw [List.length_append, eY, List.length_take, List.length_drop]; omega
  refine wp_seq (wp_seq (aA (sg (aB (v := I (i : Int)) hs7_5 (sg (aB (v := v) hs7_0 (sg (aV fC rfl (bC (st6.get 0 rfl)) (sg (aY rfl rfl (aE (aR rfl (fun h8 => ?_) (fun h8 => ?_)))))))))))))
  · have h8p := of_decide_eq_true h8
    refine wp_skip (wp_seq (wp_block (wp_seq (aA (sg (aB (v := v) hs7_0 (sg (aB (v := I (i : Int)) hs7_5 (sg (aB (v := I K) hs7_1 ?_))))))))))
    have hq_ := fW (xs := xs) (i := i) (by omega)
    obtain ⟨y, hy⟩ := hq_
    have hcs := gW cO hy
    have hcl := fR cO xs (i + 1)
    have hne : cO y = 4 := rfl
    have hb9 : Bd K (1 + (1 + (1 + (1 + (0))))) := ⟨by omega, by omega⟩
    have hq_ := St.lendx (α := Reply) (by decide) st6 (x := y) (mY hy)
    obtain ⟨b10, e10, pre10, cs10, post10, fi10, fr10, hPA10, hC10, st11⟩ := hq_
    have st15 := st11.d1
    obtain ⟨he10, hf10, hok10⟩ := hC10; have he10 : _ = [I y.code, I y.run, I y.task, I y.try_] := he10; subst he10
    skip
    refine sg (aG fC rfl hPA10 rfl rfl (sg (aC lL rfl (sg (bX (i := 0) (v := I K) (C' := [I K, I y.run, I y.task, I y.try_]) (by kernel_rfl) rfl rfl rfl rfl st15 rfl (Nat.le_of_ble_eq_true rfl) rfl ?_))))); intro W16 st17
    refine aE (wp_seq (aA (sg (aB (v := I K) hs7_1 ?_))))
    have hb18 := hb9.up
    refine sg (aP rfl rfl hb18.i64 (sg (aD (v := I (K + 1)) rfl (aE (wp_seq (aA (sg (aB (v := v) hs7_0 (sg (aB (v := I (i : Int)) hs7_5 (sg (aB (v := I (K + 1)) rfl (sg (aG fC rfl hPA10 rfl rfl (sg (aC lK rfl (sg (bX (i := 1) (v := I (K + 1)) (C' := [I K, I (K + 1), I y.task, I y.try_]) (by kernel_rfl) rfl rfl rfl rfl st17 rfl (Nat.le_of_ble_eq_true rfl) rfl ?_)))))))))))))))))); intro W19 st20
    refine aE (wp_seq (aA (sg (aB (v := I (K + 1)) rfl ?_))))
    have hb21 := hb18.up
    refine sg (aP rfl rfl hb21.i64 (sg (aD (v := I ((K + 1) + 1)) rfl (aE (wp_seq (aA (sg (aB (v := v) hs7_0 (sg (aB (v := I (i : Int)) hs7_5 (sg (aB (v := I ((K + 1) + 1)) rfl (sg (aG fC rfl hPA10 rfl rfl (sg (aC lJ rfl (sg (bX (i := 2) (v := I ((K + 1) + 1)) (C' := [I K, I (K + 1), I ((K + 1) + 1), I y.try_]) (by kernel_rfl) rfl rfl rfl rfl st20 rfl (Nat.le_of_ble_eq_true rfl) rfl ?_)))))))))))))))))); intro W22 st23
    refine aE (wp_seq (aA (sg (aB (v := I ((K + 1) + 1)) rfl ?_))))
    have hb24 := hb21.up
    refine sg (aP rfl rfl hb24.i64 (sg (aD (v := I (((K + 1) + 1) + 1)) rfl (aE (wp_seq (aA (sg (aB (v := v) hs7_0 (sg (aB (v := I (i : Int)) hs7_5 (sg (aB (v := I (((K + 1) + 1) + 1)) rfl (sg (aG fC rfl hPA10 rfl rfl (sg (aC lI rfl (sg (bX (i := 3) (v := I (((K + 1) + 1) + 1)) (C' := [I K, I (K + 1), I ((K + 1) + 1), I (((K + 1) + 1) + 1)]) (by kernel_rfl) rfl rfl rfl rfl st23 rfl (Nat.le_of_ble_eq_true rfl) rfl ?_)))))))))))))))))); intro W25 st26
    refine aE (aA (sg (aB (v := I (((K + 1) + 1) + 1)) rfl ?_)))
    have hb27 := hb24.up
    refine sg (aP rfl rfl hb27.i64 (sg (aD (v := I ((((K + 1) + 1) + 1) + 1)) rfl (aE (aA (sg (aB (v := I (i : Int)) hs7_5 (sg (aP rfl rfl (by (simp only [I64] at *; omega)) (sg (aD (v := I ((i : Int) + 1)) rfl (aE ?_))))))))))))
    have st28 := st26.cs0 (cs := [I K, I (K + 1), I ((K + 1) + 1), I (((K + 1) + 1) + 1)]) (x := (⟨K, K + 1, (K + 1) + 1, ((K + 1) + 1) + 1⟩ : Reply)) ⟨rfl, rfl, (by first | exact True.intro | (simp only [Edge.ok, Plan.ok, Entry.ok, Task.ok, Run.ok, Yard.ok, Reply.ok, Deed.ok, Note.ok, Wait.ok, File.ok, Disk.ok, Engine.ok, WorldD.ok, ActD.ok, Hand.ok, Span.ok, Crew.ok, View.ok, I64] at *; omega))⟩
    have st30 := st28.f2
    have st31 := st30.f1
    have st32 := st31.f2
    have hq_ := St.give (α := Reply) st32
    obtain ⟨fp33, st34⟩ := hq_
    exact ⟨_, xs.length - (i + 1), (by omega), rfl, i + 1, (((K + 1) + 1) + 1) + 1, fp33, (by omega), (by omega), rfl, hs7_0, rfl, rfl, (by rw [← kP hy hK]; exact st34)⟩
  · have h8p := of_decide_eq_false h8
    refine wp_exit (wp_seq (aA (sg (aB (v := I K) hs7_1 (sg (aD (v := I K) rfl (aE (wp_ret ?_)))))))); repeat first|refine aH ?_|refine aI ?_
    refine aW Tryz.results59 rfl ?_
    obtain rfl : i = xs.length := by omega
    have hca := jM cO xs _ rfl
    rw [pP rfl] at st6
    exact ⟨_, congrArg (fun z => Ending.returned (I z)) (by omega), st6⟩
set_option maxHeartbeats 2000000 in
theorem heldReplyS_n (w : World) {v : Value} {x : List Reply} {fp : List Nat} {k : Int} (h : Sl w v (mkL iY cO x k) fp) (h0 : 0 ≤ k) (hk : k + (cL cO x : Nat) ≤ 4611686018427387904) :
    Calls Tryz.prog 61 #[v, I k] w fun e w' => e = .returned (I (k + (cL cO x : Nat))) ∧ St w w' [] := by
  have hcap := h.len_le
  rw [eY] at hcap
  have hml : (mkL iY cO x k).length = x.length := eY _ _
  refine cF Tryz.func61 rfl Tryz.ntmps61 (by decide) (wp_seq (aA (sg (aD (v := I 0) rfl (aE (wp_seq (wp_seq (aA (sg (aD (v := I 0) rfl (aE (wp_block (bH (fun (m : Nat) (f : Nat → Value) (W : World) => ∃ (i : Nat) (K : Int), i ≤ x.length ∧ K = k + (cL cO (x.take i) : Nat) ∧ m = x.length - i ∧ f 0 = v ∧ f 1 = I K ∧ f 5 = I (i : Int) ∧ St w W ([])) (x.length - 0) ?_ ?_)))))))))))))
  · exact ⟨0, k, Nat.zero_le _, (by simp [cL]), rfl, rfl, rfl, rfl, (St.start w)⟩
  intro m1 f2 W3 hJ4
  obtain ⟨i, K, hi, hK, rfl, hs6_0, hs6_1, hs6_5, st5⟩ := hJ4
  refine wp_seq (wp_seq (aA (sg (aB (v := I (i : Int)) hs6_5 (sg (aB (v := v) hs6_0 (sg (aV fC rfl h (sg (aY rfl rfl (aE (aR rfl (fun h7 => ?_) (fun h7 => ?_)))))))))))))
  · have h7p := of_decide_eq_true h7
    refine wp_skip (wp_seq (wp_block (wp_seq (wp_seq (aA (sg (aB (v := v) hs6_0 (sg (aB (v := I (i : Int)) hs6_5 ?_)))))))))
    have hq_ := fW (xs := x) (i := i) (by omega)
    obtain ⟨y, hy⟩ := hq_
    have hcs := gW cO hy
    have hcl := fR cO x (i + 1)
    have hne : cO y = 4 := rfl
    have hb9 : Bd K (1 + (1 + (1 + (1 + (0))))) := ⟨by omega, by omega⟩
    have hq_ := sU h hy hK
    obtain ⟨b8, o8, cs8, f8, hp8, hr8, hc8, hm8⟩ := hq_
    have hk10 := hc8
    obtain ⟨he10, rfl, hok10⟩ := hk10
    have he10 : _ = [I K, I (K + 1), I ((K + 1) + 1), I (((K + 1) + 1) + 1)] := he10; subst he10
    skip
    refine sg (aG fC rfl hp8 rfl rfl (sg (aC lL rfl (sg (aK aJ rfl rfl hr8 st5.below (i := 0) rfl rfl (sg (aB (v := I K) hs6_1 (sg (bL rfl rfl (aE (aR rfl (fun h11 => ?_) (fun h11 => ?_))))))))))))
    · have h11p := of_decide_eq_false (aS h11)
      exact absurd rfl h11p
    · have h11p := of_decide_eq_true (aX h11)
      refine wp_skip (wp_seq (aA (sg (aB (v := I K) hs6_1 ?_))))
      have hb12 := hb9.up
      refine sg (aP rfl rfl hb12.i64 (sg (aD (v := I (K + 1)) rfl (aE (wp_seq (wp_seq (aA (sg (aB (v := v) hs6_0 (sg (aB (v := I (i : Int)) hs6_5 ?_)))))))))))
      skip
      refine sg (aG fC rfl hp8 rfl rfl (sg (aC lK rfl (sg (aK aJ rfl rfl hr8 st5.below (i := 1) rfl rfl (sg (aB (v := I (K + 1)) rfl (sg (bL rfl rfl (aE (aR rfl (fun h14 => ?_) (fun h14 => ?_))))))))))))
      · have h14p := of_decide_eq_false (aS h14)
        exact absurd rfl h14p
      · have h14p := of_decide_eq_true (aX h14)
        refine wp_skip (wp_seq (aA (sg (aB (v := I (K + 1)) rfl ?_))))
        have hb15 := hb12.up
        refine sg (aP rfl rfl hb15.i64 (sg (aD (v := I ((K + 1) + 1)) rfl (aE (wp_seq (wp_seq (aA (sg (aB (v := v) hs6_0 (sg (aB (v := I (i : Int)) hs6_5 ?_)))))))))))
        skip
        refine sg (aG fC rfl hp8 rfl rfl (sg (aC lJ rfl (sg (aK aJ rfl rfl hr8 st5.below (i := 2) rfl rfl (sg (aB (v := I ((K + 1) + 1)) rfl (sg (bL rfl rfl (aE (aR rfl (fun h17 => ?_) (fun h17 => ?_))))))))))))
        · have h17p := of_decide_eq_false (aS h17)
          exact absurd rfl h17p
        · have h17p := of_decide_eq_true (aX h17)
          refine wp_skip (wp_seq (aA (sg (aB (v := I ((K + 1) + 1)) rfl ?_))))
          have hb18 := hb15.up
          refine sg (aP rfl rfl hb18.i64 (sg (aD (v := I (((K + 1) + 1) + 1)) rfl (aE (wp_seq (wp_seq (aA (sg (aB (v := v) hs6_0 (sg (aB (v := I (i : Int)) hs6_5 ?_)))))))))))
          skip
          refine sg (aG fC rfl hp8 rfl rfl (sg (aC lI rfl (sg (aK aJ rfl rfl hr8 st5.below (i := 3) rfl rfl (sg (aB (v := I (((K + 1) + 1) + 1)) rfl (sg (bL rfl rfl (aE (aR rfl (fun h20 => ?_) (fun h20 => ?_))))))))))))
          · have h20p := of_decide_eq_false (aS h20)
            exact absurd rfl h20p
          · have h20p := of_decide_eq_true (aX h20)
            refine wp_skip (aA (sg (aB (v := I (((K + 1) + 1) + 1)) rfl ?_)))
            have hb21 := hb18.up
            refine sg (aP rfl rfl hb21.i64 (sg (aD (v := I ((((K + 1) + 1) + 1) + 1)) rfl (aE (aA (sg (aB (v := I (i : Int)) hs6_5 (sg (aP rfl rfl (by (simp only [I64] at *; omega)) (sg (aD (v := I ((i : Int) + 1)) rfl (aE ?_))))))))))))
            exact ⟨_, x.length - (i + 1), (by omega), rfl, i + 1, (((K + 1) + 1) + 1) + 1, (by omega), (by omega), rfl, hs6_0, rfl, rfl, st5⟩
  · have h7p := of_decide_eq_false h7
    refine wp_exit (wp_seq (aA (sg (aB (v := I K) hs6_1 (sg (aD (v := I K) rfl (aE (wp_ret ?_)))))))); repeat first|refine aH ?_|refine aI ?_
    refine aW Tryz.results61 rfl ?_
    obtain rfl : i = x.length := by omega
    have hca := jM cO x _ rfl
    exact ⟨congrArg (fun z => Ending.returned (I z)) (by omega), st5.bare⟩
set_option maxHeartbeats 2000000 in
theorem markCrew_n {w W0 : World} {rs : List Res} {x : Crew} {cs : List Value} {fp : List Nat} (hst : St w W0 (Res.own (.agg cs.toArray) x fp :: rs)) (k : Int) (h0 : 0 ≤ k) (hk : k + (fB x : Nat) ≤ 4611686018427387904) :
    Calls Tryz.prog 21 #[.agg cs.toArray, I k] W0 fun e w' => ∃ fp', e = .returned (I (k + (fB x : Nat))) ∧ St w w' (Res.own (.agg cs.toArray) (oO x k) fp' :: rs) := by
  have hk2 := hk
  unfold fB at hk2
  refine cF Tryz.func21 rfl Tryz.ntmps21 (by decide) ?_
  have hb1 : Bd k ((dJ x.yard) + ((cL cO x.holds) + (0))) := ⟨by omega, by omega⟩
  refine wp_seq (aA (sg (aQ (cs := cs) rfl hst ?_))); intro b2 W3 hb4 st5
  refine sg (aD (v := I 0) rfl (aE (wp_seq (aA (sg (aC nE rfl ?_))))))
  have st7 := st5.f1
  have hq_ := open_Crew st7
  obtain ⟨v8_0, v8_1, v8_2, g8_0, g8_1, g8_2, he8, hok8, st9⟩ := hq_
  subst he8
  refine sg (aU (cs := [I x.yard.now, I x.yard.seq, v8_0, v8_1]) cC rfl rfl (st9.get 3 rfl) rfl rfl (sg (aB (v := I k) rfl ?_)))
  have st17 := st9.f1
  have st18 := st17.f1
  have st19 := iU (x := x.yard) st18 (by first | exact True.intro | (simp only [Edge.ok, Plan.ok, Entry.ok, Task.ok, Run.ok, Yard.ok, Reply.ok, Deed.ok, Note.ok, Wait.ok, File.ok, Disk.ok, Engine.ok, WorldD.ok, ActD.ok, Hand.ok, Span.ok, Crew.ok, View.ok, I64] at *; omega))
  have hb21 := hb1.upc
  refine sg (aZ Tryz.func20 rfl rfl rfl ((rC st19 k hb1.lo hb1.hi).mono ?_)); rintro _ W13 ⟨fp16, rfl, st15⟩; refine ⟨_, rfl, ?_⟩
  have hq_ := jT st15
  obtain ⟨vq22_0, vq22_1, fq22_0, fq22_1, heq22, hokq22, st23⟩ := hq_
  have ev22_0 := Option.some.inj (congrArg (fun l : List Value => l[2]?) heq22); subst ev22_0
  have ev22_1 := Option.some.inj (congrArg (fun l : List Value => l[3]?) heq22); subst ev22_1
  refine sg (aD (v := I (k + (dJ x.yard : Nat))) rfl (aE (wp_seq (aA (sg (aC nD rfl (sg (aF nA rfl rfl (st23.get 3 rfl) (i := 4) rfl rfl (sg (aB (v := I (k + (dJ x.yard : Nat))) rfl ?_))))))))))
  have st28 := st23.f2
  have hb29 := hb21.upc
  refine sg (aZ Tryz.func59 rfl rfl rfl ((markReplyS_n st28 (k + (dJ x.yard : Nat)) hb21.lo hb21.hi).mono ?_)); rintro _ W24 ⟨fp27, rfl, st26⟩; refine ⟨_, rfl, ?_⟩
  refine sg (aD (v := I ((k + (dJ x.yard : Nat)) + (cL cO x.holds : Nat))) rfl (aE (wp_seq (aA (sg (aB (v := I ((k + (dJ x.yard : Nat)) + (cL cO x.holds : Nat))) rfl (sg (aD (v := I ((k + (dJ x.yard : Nat)) + (cL cO x.holds : Nat))) rfl (aE (wp_ret ?_)))))))))); repeat first|refine aH ?_|refine aI ?_
  refine aW Tryz.results21 rfl ?_
  have st30 := st26.f2
  have st31 := st30.f2
  have st32 := iV (x := (oO x k)) st31 hok8
  have st34 := st32.d1
  exact ⟨_, congrArg (fun z => Ending.returned (I z)) (by unfold fB; push_cast; omega), st34⟩
set_option maxHeartbeats 2000000 in
theorem rI (w : World) {x : Crew} {cs : List Value} {fp : List Nat} {k : Int} (hc : Shape.C w cs (oO x k) fp) (h0 : 0 ≤ k) (hk : k + (fB x : Nat) ≤ 4611686018427387904) :
    Calls Tryz.prog 22 #[.agg cs.toArray, I k] w fun e w' => e = .returned (I (k + (fB x : Nat))) ∧ St w w' [] := by
  have hk2 := hk
  have hnt : fB x = dJ x.yard + cL cO x.holds := rfl
  refine cF Tryz.func22 rfl Tryz.ntmps22 (by decide) ?_
  have hb1 : Bd k ((dJ x.yard) + ((cL cO x.holds) + (0))) := ⟨by omega, by omega⟩
  refine wp_seq (aA (sg (aQ (cs := cs) rfl (St.start w) ?_))); intro b2 W3 hb4 st5
  refine sg (aD (v := I 0) rfl (aE (wp_seq (aA (sg (aC nE rfl ?_))))))
  have hk7 := hc
  obtain ⟨v7_0, v7_1, v7_2, g7_0, g7_1, g7_2, he7, hok7, h7_0, h7_1, h7_2, rfl⟩ := hk7
  have he7 : _ = [I x.yard.now, I x.yard.seq, v7_0, v7_1, v7_2, I x.turns, I x.did] := he7; subst he7
  have h7_0 : Sl _ v7_0 (mkL (mkL fM bB) (cL bB) x.yard.shelf k) _ := h7_0
  have h7_1 : Sl _ v7_1 (mkL kD dP x.yard.runs (k + (cL (cL bB) x.yard.shelf : Nat))) _ := h7_1
  have h7_2 : Sl _ v7_2 (mkL iY cO x.holds (k + (dJ x.yard : Nat))) _ := h7_2
  refine sg (aU (cs := [I x.yard.now, I x.yard.seq, v7_0, v7_1]) cC rfl rfl (st5.get 0 rfl) rfl rfl (sg (aB (v := I k) rfl ?_)))
  have hb12 := hb1.upc
  refine sg (aZ Tryz.func60 rfl rfl rfl ((heldYard_n W3 (x := x.yard) (show Shape.C _ [I x.yard.now, I x.yard.seq, v7_0, v7_1] (oO x k).yard _ from ⟨_, _, _, _, rfl, (by first | exact True.intro | (simp only [Edge.ok, Plan.ok, Entry.ok, Task.ok, Run.ok, Yard.ok, Reply.ok, Deed.ok, Note.ok, Wait.ok, File.ok, Disk.ok, Engine.ok, WorldD.ok, ActD.ok, Hand.ok, Span.ok, Crew.ok, View.ok, I64] at *; omega)), (h7_0.below st5.below), (h7_1.below st5.below), rfl⟩) hb1.lo hb1.hi).mono ?_)); rintro _ W8 ⟨rfl, hk9⟩; refine ⟨_, rfl, ?_⟩
  have st10 := St.call st5 hk9
  refine sg (aD (v := I (k + (dJ x.yard : Nat))) rfl (aE (wp_seq (wp_seq (aA (sg (aB (v := I (k + (dJ x.yard : Nat))) rfl (sg (aY rfl rfl (aE (aR rfl (fun h13 => ?_) (fun h13 => ?_))))))))))))
  · have h13p := of_decide_eq_true h13
    exact absurd h13p (Int.not_lt.2 hb12.1)
  · have h13p := of_decide_eq_false h13
    refine wp_skip (wp_seq (aA (sg (aC nD rfl (sg (aF nA rfl rfl (st10.get 0 rfl) (i := 4) rfl rfl (sg (aB (v := I (k + (dJ x.yard : Nat))) rfl ?_))))))))
    have hb18 := hb12.upc
    refine sg (aZ Tryz.func61 rfl rfl rfl ((heldReplyS_n W8 (x := x.holds) (h7_2.below st10.below) hb12.lo hb12.hi).mono ?_)); rintro _ W14 ⟨rfl, hk15⟩; refine ⟨_, rfl, ?_⟩
    have st16 := St.call st10 hk15
    refine sg (aD (v := I ((k + (dJ x.yard : Nat)) + (cL cO x.holds : Nat))) rfl (aE (wp_seq (wp_seq (aA (sg (aB (v := I ((k + (dJ x.yard : Nat)) + (cL cO x.holds : Nat))) rfl (sg (aY rfl rfl (aE (aR rfl (fun h19 => ?_) (fun h19 => ?_))))))))))))
    · have h19p := of_decide_eq_true h19
      exact absurd h19p (Int.not_lt.2 hb18.1)
    · have h19p := of_decide_eq_false h19
      refine wp_skip (wp_seq (aA (sg (aB (v := I ((k + (dJ x.yard : Nat)) + (cL cO x.holds : Nat))) rfl (sg (aD (v := I ((k + (dJ x.yard : Nat)) + (cL cO x.holds : Nat))) rfl (aE (wp_ret ?_)))))))); repeat first|refine aH ?_|refine aI ?_
      refine aW Tryz.results22 rfl ?_
      exact ⟨congrArg (fun z => Ending.returned (I z)) (by omega), st16.bare⟩
end Go.Proofs.YtchnllpegfbleaaGreat
namespace Go.Proofs.YtchnllpegfbleaaGreat
set_option linter.unusedSimpArgs false
set_option linter.unusedVariables false
set_option maxRecDepth 100000
open Go.RowKit

set_option maxHeartbeats 2000000 in
theorem crewNew_law (w : World) (cs0 : List Value) (x0 : Yard) (fp0 : List Nat) (hc0 : Shape.C w cs0 x0 fp0) (n1 : Int) (hn1 : I64 n1) :
    Calls Tryz.prog 4 #[.agg cs0.toArray, I n1] w fun e w' => e = .returned (.bool true) ∧ Below w.heap.size w w' := by
  have hwc : (cE x0 n1).wt ≤ 200000 := by have := crewNewC_wt x0 n1; unfold Crew.wt; omega
  refine cF Tryz.func4 rfl Tryz.ntmps4 (by decide) (wp_seq (aA (sg (aQ (cs := cs0) rfl (St.start w) ?_)))); intro b1 W2 hb3 st4
  refine sg (aD (v := .bool false) rfl (aE (wp_seq (aA (sg (aD (v := I 1048576) rfl (aE (wp_seq (aA (sg (bE mM rfl rfl (st4.get 0 rfl) (Shape.len hc0) (sg (aB (v := I 1048576) rfl (sg (aZ Tryz.func15 rfl rfl rfl ((szYard_n W2 (cA hc0 st4.below) 1048576 (by omega) (by omega)).mono ?_)))))))))))))))); rintro _ W6 ⟨rfl, hk7⟩; refine ⟨_, rfl, ?_⟩
  have st8 := St.call st4 hk7
  refine sg (aD (v := I (szL 1048576 x0.wt)) rfl (aE (wp_seq (wp_seq (aA (sg (aB (v := I (szL 1048576 x0.wt)) rfl (sg (aY rfl rfl (aE (aR rfl (fun h10 => ?_) (fun h10 => ?_))))))))))))
  · have h10p := of_decide_eq_true h10
    have h10q := mA h10p (by omega)
    refine wp_seq (aA (sg (aD (v := .bool true) rfl (aE (wp_ret ?_))))); repeat first|refine aH ?_|refine aI ?_
    refine aW Tryz.results4 rfl ?_
    exact ⟨rfl, st8.below⟩
  · have h10p := of_decide_eq_false h10
    have h10q := mB h10p (by omega)
    refine wp_skip (wp_seq (aA (sg (bE mM rfl rfl (st8.get 0 rfl) (Shape.len hc0) (sg (bI Tryz.func17 rfl rfl ((oA W6 (cA hc0 st8.below) (by first | exact hw | omega | (simp only [Plan.wt, Run.wt, Yard.wt, Deed.wt, Note.wt, File.wt, Disk.wt, Engine.wt, WorldD.wt, ActD.wt, Span.wt, Crew.wt] at *; omega))).mono ?_))))))); rintro _ W13 ⟨cs11, fp11, rfl, hk14⟩; refine ⟨_, rfl, ?_⟩
    have st15 := St.call st8 hk14
    refine sg (aB (v := I n1) rfl (sg (aZ Tryz.func16 rfl rfl rfl ((CrewNewS W13 (dR (st15.get 0 rfl) rfl) n1 (by omega)).mono ?_)))); rintro _ W19 ⟨cs17, fp17, rfl, hk20⟩; refine ⟨_, rfl, ?_⟩
    have st21 := St.call st15 hk20
    refine sg (aB rfl (sg (iM rfl rfl (sg (iM rfl rfl (sg (bN nW st21 ?_))))))); intro b23 W24 hb25 st26
    refine sg (bU (cs := cs17) fZ (dR (st26.get 1 rfl) rfl) rfl rfl st26 rfl ?_); intro W28 st29
    refine sg (aD (v := .bool (dH x0 n1)) rfl (aE (wp_seq (aA (sg (bE mM rfl rfl (st29.get 3 rfl) (Shape.len hc0) (sg (bI Tryz.func17 rfl rfl ((oA W28 (cA hc0 st29.below) (by first | exact hw | omega | (simp only [Plan.wt, Run.wt, Yard.wt, Deed.wt, Note.wt, File.wt, Disk.wt, Engine.wt, WorldD.wt, ActD.wt, Span.wt, Crew.wt] at *; omega))).mono ?_))))))))); rintro _ W32 ⟨cs30, fp30, rfl, hk33⟩; refine ⟨_, rfl, ?_⟩
    have st34 := St.call st29 hk33
    refine sg (bN hZ st34 ?_); intro b36 W37 hb38 st39
    refine sg (bU (cs := cs30) cC (dR (st39.get 1 rfl) rfl) rfl rfl st39 rfl ?_); intro W41 st42
    refine aE (wp_seq (aA (sg (bE cC rfl rfl (st42.get 0 rfl) (Shape.len (dR (st42.get 1 rfl) rfl)) (sg (aB (v := I n1) rfl (sg (aZ Tryz.func18 rfl rfl rfl ((vC W41 (dR (st42.get 1 rfl) rfl) n1 (by omega)).mono ?_))))))))); rintro _ W45 ⟨cs43, fp43, rfl, hk46⟩; refine ⟨_, rfl, ?_⟩
    have st47 := St.call st42 hk46
    refine sg (aB rfl (sg (iM rfl rfl (sg (iM rfl rfl (sg (bN nW st47 ?_))))))); intro b49 W50 hb51 st52
    refine sg (bU (cs := cs43) fZ (dR (st52.get 1 rfl) rfl) rfl rfl st52 rfl ?_); intro W54 st55
    refine sg (aD (v := .bool (dH x0 n1)) rfl (aE (wp_seq (wp_seq (aA (sg (bE fZ rfl rfl (st55.get 0 rfl) (Shape.len (dR (st55.get 1 rfl) rfl)) (sg (bE fZ rfl rfl (st55.get 4 rfl) (Shape.len (dR (st55.get 5 rfl) rfl)) (sg (aZ Tryz.func14 rfl rfl rfl ((rP W54 (dR (st55.get 1 rfl) rfl) (dR (st55.get 5 rfl) rfl)).mono ?_)))))))))))); rintro _ W56 ⟨rfl, hk57⟩; refine ⟨_, rfl, ?_⟩
    have st58 := St.call st55 hk57
    refine sg (bO rfl (sg (aB (v := .bool (!(eqB (cE x0 n1) (cE x0 n1)))) rfl ?_)))
    rcases bd (!(eqB (cE x0 n1) (cE x0 n1))) with h60 | h60
    · refine sgo 40 rfl (by decide) (aL rfl h60) (aB (v := .bool (dH x0 n1)) rfl (sgo 40 rfl (by decide) (aL rfl h60) (aB (v := .bool (dH x0 n1)) rfl (sgo 40 rfl (by decide) (aL rfl h60) (qL Tryz.underlying4 rfl rfl (sg (aO (v := .bool (!((dH x0 n1) == (dH x0 n1)))) ((rfl : _ = (.bool (!(eqB (cE x0 n1) (cE x0 n1))) : Value)).trans (congrArg Value.bool h60)) rfl (aE (aR rfl (fun h61 => ?_) (fun h61 => ?_))))))))))
      · exact absurd (aS h61) (by simp)
      · refine wp_skip (wp_seq (wp_seq (dI [Pl.is (.agg cs30.toArray), Pl.is (.agg cs0.toArray), Pl.sval (α := Yard) x0, Pl.bool (eqB x0 x0), Pl.bool (!(eqB x0 x0))] mix (by rfl) st58 ⟨(fun f W hst hbl hd hf => bE cC rfl ((hf 8 rfl).trans (show _ = (.pointer (some ⟨b36, 0, none⟩) : Value) from rfl)) (hst.get 2 rfl) (Shape.len (dR (hst.get 3 rfl) rfl)) brq), (fun f W hst hbl hd hf => bE mM rfl ((hf 2 rfl).trans (show _ = (.pointer (some ⟨b1, 0, none⟩) : Value) from rfl)) (hst.get 7 rfl) (Shape.len hc0) brq), (fun f W hst hbl hd hf => bI Tryz.func17 rfl (hd 1 46 rfl rfl) ((oA W (cA hc0 hst.below) (by first | exact hw | omega | (simp only [Plan.wt, Run.wt, Yard.wt, Deed.wt, Note.wt, File.wt, Disk.wt, Engine.wt, WorldD.wt, ActD.wt, Span.wt, Crew.wt] at *; omega))).mono (by rintro e W2 ⟨cs, fp, rfl, hk⟩; exact ⟨_, rfl, hk.below, fp, own_V (hk.get 0 rfl)⟩))), (fun f W hst hbl hd hf => by obtain ⟨fp64, cs64, e64, hc64⟩ := hd 2 47 rfl rfl; exact aZ Tryz.func19 rfl (hd 0 45 rfl rfl) e64 ((uQ W (dR (hst.get 3 rfl) rfl) hc64).mono (by rintro e W2 ⟨rfl, hk⟩; exact ⟨_, rfl, hk.below, rfl⟩))), (fun f W hst hbl hd hf => bO (hd 3 48 rfl rfl) brq), trivial⟩ ?_)))
        intro f65 W66 st67 hb68 hv69 hf70
        refine aR (hv69 4 49 (by decide) rfl) (fun h71 => ?_) (fun h71 => ?_)
        · exact absurd (aS h71) (by rw [dV rfl]; decide)
        · refine wp_skip (wp_seq (aA (sg (aD (v := I 1) rfl (aE (wp_seq (aA (sg (bE cC rfl ((hf70 8 rfl).trans (show _ = (.pointer (some ⟨b36, 0, none⟩) : Value) from rfl)) (st67.get 2 rfl) (Shape.len (dR (st67.get 3 rfl) rfl)) (sg (aB (v := I 1) rfl ?_)))))))))))
          have st76 := st67.f3
          refine sg (aZ Tryz.func20 rfl rfl rfl ((rC st76 1 (by omega) (by have := vR x0; omega)).mono ?_)); rintro _ W72 ⟨fp75, rfl, st74⟩; refine ⟨_, rfl, ?_⟩
          refine sg (aD (v := I (1 + (dJ x0 : Nat))) rfl (aE (wp_seq (wp_seq (aA (sg (aB (v := I (1 + (dJ x0 : Nat))) rfl (sg (aY rfl rfl (sg (aB (v := .bool (decide ((1 + (dJ x0 : Nat)) < 0))) rfl ?_)))))))))))
          rcases bd (decide ((1 + (dJ x0 : Nat)) < 0)) with h77 | h77
          · have h77p := of_decide_eq_false h77
            refine sgo 55 rfl (by decide) (aL rfl h77) (bE fZ rfl ((hf70 9 rfl).trans (show _ = (.pointer (some ⟨b49, 0, none⟩) : Value) from rfl)) (st74.get 1 rfl) (Shape.len (dR (st74.get 2 rfl) rfl)) (sgo 55 rfl (by decide) (aL rfl h77) (bE fZ rfl ((hf70 6 rfl).trans (show _ = (.pointer (some ⟨b23, 0, none⟩) : Value) from rfl)) (st74.get 4 rfl) (Shape.len (dR (st74.get 5 rfl) rfl)) (sgo 55 rfl (by decide) (aL rfl h77) (aZ Tryz.func14 rfl rfl rfl ((rP W72 (dR (st74.get 2 rfl) rfl) (dR (st74.get 5 rfl) rfl)).mono ?_)))))); rintro _ W78 ⟨rfl, hk79⟩; refine ⟨_, rfl, ?_⟩
            have st80 := St.call st74 hk79
            refine sgo 55 rfl (by decide) (aL rfl h77) (bO rfl (sg (aO (v := .bool (!(eqB (cE x0 n1) (cE x0 n1)))) ((rfl : _ = (.bool (decide ((1 + (dJ x0 : Nat)) < 0)) : Value)).trans (congrArg Value.bool h77)) rfl (sg (aB (v := .bool (!(eqB (cE x0 n1) (cE x0 n1)))) rfl (sgo 61 rfl (by decide) (aL rfl h60) (aB (v := .bool (dH x0 n1)) ((hf70 10 rfl).trans (show _ = (.bool (dH x0 n1) : Value) from rfl)) (sgo 61 rfl (by decide) (aL rfl h60) (aB (v := .bool (dH x0 n1)) ((hf70 7 rfl).trans (show _ = (.bool (dH x0 n1) : Value) from rfl)) (sgo 61 rfl (by decide) (aL rfl h60) (qL Tryz.underlying4 rfl rfl (sg (aO (v := .bool (!((dH x0 n1) == (dH x0 n1)))) ((rfl : _ = (.bool (!(eqB (cE x0 n1) (cE x0 n1))) : Value)).trans (congrArg Value.bool h60)) rfl (aE (gX rfl h61 (wp_skip (wp_seq (aA ?_))))))))))))))))))
            refine sg (aD (v := I 1) rfl (aE (wp_seq (aA (sg (bE fZ rfl ((hf70 9 rfl).trans (show _ = (.pointer (some ⟨b49, 0, none⟩) : Value) from rfl)) (st80.get 1 rfl) (Shape.len (dR (st80.get 2 rfl) rfl)) (sg (aB (v := I 1) rfl ?_))))))))
            have st86 := st80.f2
            refine sg (aZ Tryz.func21 rfl rfl rfl ((markCrew_n st86 1 (by omega) (by have := tN (cE x0 n1); omega)).mono ?_)); rintro _ W82 ⟨fp85, rfl, st84⟩; refine ⟨_, rfl, ?_⟩
            refine sg (aD (v := I (1 + (fB (cE x0 n1) : Nat))) rfl (aE (wp_seq (aA (sg (aD (v := I 1) rfl (aE (wp_seq (aA (sg (bE fZ rfl ((hf70 9 rfl).trans (show _ = (.pointer (some ⟨b49, 0, none⟩) : Value) from rfl)) (st84.get 2 rfl) (Shape.len (dR (st84.get 0 rfl) rfl)) (sg (aB (v := I 1) rfl (sg (aZ Tryz.func22 rfl rfl rfl ((rI W82 (x := (cE x0 n1)) (dR (st84.get 0 rfl) rfl) (by omega) (by have := tN (cE x0 n1); omega)).mono ?_)))))))))))))))); rintro _ W87 ⟨rfl, hk88⟩; refine ⟨_, rfl, ?_⟩
            have st89 := St.call st84 hk88
            refine sg (aD (v := I (1 + (fB (cE x0 n1) : Nat))) rfl (aE (wp_seq (wp_seq (aA (sg (aB (v := I (1 + (fB (cE x0 n1) : Nat))) rfl (sg (aY rfl rfl (aE (aR rfl (fun h91 => ?_) (fun h91 => ?_))))))))))))
            · have h91p := of_decide_eq_true h91
              omega
            · have h91p := of_decide_eq_false h91
              refine wp_skip (wp_seq (wp_seq (aA (sg (aB (v := I (1 + (fB (cE x0 n1) : Nat))) rfl (sg (aB (v := I (1 + (fB (cE x0 n1) : Nat))) rfl (sg (bL rfl rfl (aE (aR rfl (fun h92 => ?_) (fun h92 => ?_))))))))))))
              · have h92p := of_decide_eq_false (aS h92)
                exact absurd rfl h92p
              · have h92p := of_decide_eq_true (aX h92)
                refine wp_skip (wp_seq (aA (sg (bE mM rfl ((hf70 2 rfl).trans (show _ = (.pointer (some ⟨b1, 0, none⟩) : Value) from rfl)) (st89.get 7 rfl) (Shape.len hc0) (sg (bI Tryz.func17 rfl rfl ((oA W87 (cA hc0 st89.below) (by first | exact hw | omega | (simp only [Plan.wt, Run.wt, Yard.wt, Deed.wt, Note.wt, File.wt, Disk.wt, Engine.wt, WorldD.wt, ActD.wt, Span.wt, Crew.wt] at *; omega))).mono ?_))))))); rintro _ W95 ⟨cs93, fp93, rfl, hk96⟩; refine ⟨_, rfl, ?_⟩
                have st97 := St.call st89 hk96
                refine sg (aB (v := I n1) ((hf70 1 rfl).trans (show _ = I n1 from rfl)) (sg (aZ Tryz.func18 rfl rfl rfl ((vC W95 (dR (st97.get 0 rfl) rfl) n1 (by omega)).mono ?_)))); rintro _ W101 ⟨cs99, fp99, rfl, hk102⟩; refine ⟨_, rfl, ?_⟩
                have st103 := St.call st97 hk102
                refine sg (aB rfl (sg (iM rfl rfl (sg (iM rfl rfl (sg (bN nW st103 ?_))))))); intro b105 W106 hb107 st108
                refine sg (bU (cs := cs99) fZ (dR (st108.get 1 rfl) rfl) rfl rfl st108 rfl ?_); intro W110 st111
                refine sg (aD (v := .bool (dH x0 n1)) rfl (aE (wp_seq (wp_seq (aA (sg (bE fZ rfl rfl (st111.get 0 rfl) (Shape.len (dR (st111.get 1 rfl) rfl)) (sg (bE fZ rfl ((hf70 6 rfl).trans (show _ = (.pointer (some ⟨b23, 0, none⟩) : Value) from rfl)) (st111.get 7 rfl) (Shape.len (dR (st111.get 8 rfl) rfl)) (sg (aZ Tryz.func14 rfl rfl rfl ((rP W110 (dR (st111.get 1 rfl) rfl) (dR (st111.get 8 rfl) rfl)).mono ?_)))))))))))); rintro _ W112 ⟨rfl, hk113⟩; refine ⟨_, rfl, ?_⟩
                have st114 := St.call st111 hk113
                refine sg (bO rfl (sg (aB (v := .bool (!(eqB (cE x0 n1) (cE x0 n1)))) rfl (sgo 88 rfl (by decide) (aL rfl h60) (aB (v := .bool (dH x0 n1)) rfl (sgo 88 rfl (by decide) (aL rfl h60) (aB (v := .bool (dH x0 n1)) ((hf70 7 rfl).trans (show _ = (.bool (dH x0 n1) : Value) from rfl)) (sgo 88 rfl (by decide) (aL rfl h60) (qL Tryz.underlying4 rfl rfl (sg (aO (v := .bool (!((dH x0 n1) == (dH x0 n1)))) ((rfl : _ = (.bool (!(eqB (cE x0 n1) (cE x0 n1))) : Value)).trans (congrArg Value.bool h60)) rfl (aE (gX rfl h61 (wp_skip (wp_seq (aA (sg (aD (v := I 1) rfl ?_))))))))))))))))))
                refine aE (wp_seq (aA (sg (bE fZ rfl ((hf70 9 rfl).trans (show _ = (.pointer (some ⟨b49, 0, none⟩) : Value) from rfl)) (st114.get 5 rfl) (Shape.len (dR (st114.get 3 rfl) rfl)) (sg (aB (v := I 1) rfl (sg (aZ Tryz.func22 rfl rfl rfl ((rI W112 (x := (cE x0 n1)) (dR (st114.get 3 rfl) rfl) (by omega) (by have := tN (cE x0 n1); omega)).mono ?_))))))))); rintro _ W116 ⟨rfl, hk117⟩; refine ⟨_, rfl, ?_⟩
                have st118 := St.call st114 hk117
                refine sg (aD (v := I (1 + (fB (cE x0 n1) : Nat))) rfl (aE (wp_seq (wp_seq (aA (sg (aB (v := I (1 + (fB (cE x0 n1) : Nat))) rfl (sg (aY rfl rfl (aE (gX rfl h91 (wp_skip (wp_seq (wp_seq ?_))))))))))))))
                refine aA (sg (aB (v := I (1 + (fB (cE x0 n1) : Nat))) rfl (sg (aB (v := I (1 + (fB (cE x0 n1) : Nat))) rfl (sg (bL rfl rfl (aE (gX rfl h92 (wp_skip (wp_seq (aA (sg (aD (v := .bool true) rfl (aE (wp_ret ?_))))))))))))))); repeat first|refine aH ?_|refine aI ?_
                refine aW Tryz.results4 rfl ?_
                exact ⟨rfl, st118.below⟩
          · have h77p := of_decide_eq_true h77
            omega
    · exact absurd (aS h60) (by rw [dV rfl]; decide)
end Go.Proofs.YtchnllpegfbleaaGreat
