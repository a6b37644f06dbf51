/-
  What was handed out too soon: of the program and of the reference. (Printed by a program of this project's.)
-/
import Derived.Test.YtchnllpegfbleaaBef
import Derived.Test.YtchnllpegfbleaaHandsOf
namespace Go.Proofs.Ytchnllpegfbleaa
set_option linter.unusedSimpArgs false
set_option linter.unusedVariables false
set_option maxRecDepth 100000
open Go.RowKit


/-- Whether a run was submitted at a place, and taken. -/
def subAt (ds : List Deed) (rs : List Reply) (run : Int) (i : Nat) : Bool :=
  match ds[i]?, rs[i]? with
  | some d, some r => decide (d.kind = 1) && (decide (d.run = run) && decide (r.code = 0))
  | _, _ => false
/-- The last such place. -/
def lastSub (ds : List Deed) (rs : List Reply) (run : Int) : Nat → Int
  | 0 => -1
  | k + 1 => if subAt ds rs run k then (k : Int) else lastSub ds rs run k
/-- Whether a task was told done at a place. -/
def toldAt (ds : List Deed) (rs : List Reply) (run task : Int) (i : Nat) : Bool :=
  match ds[i]?, rs[i]? with
  | some d, some r => decide (d.kind = 3) && (decide (d.run = run) && (decide (d.task = task) && decide (r.code = 0)))
  | _, _ => false
def toldTo (ds : List Deed) (rs : List Reply) (run task : Int) (lo : Nat) : Nat → Bool
  | 0 => false
  | k + 1 => toldTo ds rs run task lo k || (decide (lo ≤ k) && toldAt ds rs run task k)
noncomputable def early (ds : List Deed) (rs : List Reply) (h : Hand) : Bool :=
  match ds[(lastSub ds rs h.run h.at_.toNat).toNat]? with
  | none => true
  | some d => if lastSub ds rs h.run h.at_.toNat < 0 then true else (beforeOf d.plan h.task).any (fun b => !toldTo ds rs h.run b ((lastSub ds rs h.run h.at_.toNat).toNat) h.at_.toNat)
theorem subAt_eq {ds : List Deed} {rs : List Reply} {run : Int} {i : Nat} (h1 : i < ds.length) (h2 : i < rs.length) : subAt ds rs run i = (decide (ds[i].kind = 1) && (decide (ds[i].run = run) && decide (rs[i].code = 0))) := by simp [subAt, h1, h2]
theorem toldAt_eq {ds : List Deed} {rs : List Reply} {run task : Int} {i : Nat} (h1 : i < ds.length) (h2 : i < rs.length) : toldAt ds rs run task i = (decide (ds[i].kind = 3) && (decide (ds[i].run = run) && (decide (ds[i].task = task) && decide (rs[i].code = 0)))) := by simp [toldAt, h1, h2]
theorem lastSub_lt (ds : List Deed) (rs : List Reply) (run : Int) : ∀ k, lastSub ds rs run k < k ∧ -1 ≤ lastSub ds rs run k
  | 0 => by simp [lastSub]
  | k + 1 => by
    have := lastSub_lt ds rs run k
    unfold lastSub
    split <;> omega
theorem lastSub_sub (ds : List Deed) (rs : List Reply) (run : Int) : ∀ k, 0 ≤ lastSub ds rs run k → subAt ds rs run (lastSub ds rs run k).toNat = true
  | 0, h => by simp [lastSub] at h
  | k + 1, h => by
    unfold lastSub at h ⊢
    split
    · rename_i hs; simpa using hs
    · rename_i hs
      rw [if_neg hs] at h
      exact lastSub_sub ds rs run k h
theorem lastSub_t {ds : List Deed} {rs : List Reply} {run : Int} {k : Nat} (h : subAt ds rs run k = true) : lastSub ds rs run (k + 1) = k := by rw [lastSub, if_pos h]
theorem lastSub_f {ds : List Deed} {rs : List Reply} {run : Int} {k : Nat} (h : subAt ds rs run k = false) : lastSub ds rs run (k + 1) = lastSub ds rs run k := by rw [lastSub, if_neg (by simp [h])]
/-- The place of a submit is no place where something is told done. -/
theorem told_not_sub {ds : List Deed} {rs : List Reply} {run run' task : Int} {i : Nat} (h : subAt ds rs run i = true) : toldAt ds rs run' task i = false := by
  unfold subAt toldAt at *
  cases hd : ds[i]? with
  | none => simp
  | some d => cases hr : rs[i]? with
    | none => simp
    | some r =>
      simp only [hd, hr, Bool.and_eq_true, decide_eq_true_eq] at h ⊢
      simp [h.1]
theorem toldTo_lo {ds : List Deed} {rs : List Reply} {run task : Int} {lo : Nat} : ∀ k, k ≤ lo → toldTo ds rs run task lo k = false
  | 0, _ => rfl
  | k + 1, h => by rw [toldTo, toldTo_lo k (by omega)]; simp; omega
theorem toldTo_next {ds : List Deed} {rs : List Reply} {run task : Int} {lo : Nat} (h : toldAt ds rs run task lo = false) : ∀ k, toldTo ds rs run task (lo + 1) k = toldTo ds rs run task lo k
  | 0 => rfl
  | k + 1 => by
    rw [toldTo, toldTo, toldTo_next h k]
    by_cases hk : k = lo
    · subst hk; simp [h]
    · congr 2
      rw [decide_eq_decide]; omega
theorem toldTo_step {ds : List Deed} {rs : List Reply} {run task : Int} {lo k : Nat} (h : lo ≤ k) : toldTo ds rs run task lo (k + 1) = (toldTo ds rs run task lo k || toldAt ds rs run task k) := by rw [toldTo]; simp [h]
/-- Of hands, those that were too soon. -/
noncomputable def soonTo (ds : List Deed) (rs : List Reply) (hs : List Hand) : List Int := (hs.filter (early ds rs)).map (·.at_)
noncomputable def soonOf (ds : List Deed) (rs : List Reply) : List Int := if ds.length ≤ 400 then soonTo ds rs (handsTo ds rs (min ds.length rs.length)) else []
theorem soonTo_t {ds : List Deed} {rs : List Reply} {hs : List Hand} {k : Nat} (hk : k < hs.length) (h : early ds rs hs[k] = true) : soonTo ds rs (hs.take (k + 1)) = soonTo ds rs (hs.take k) ++ [hs[k].at_] := by
  rw [List.take_succ_eq_append_getElem hk, soonTo, List.filter_append, List.map_append]; simp [soonTo, h]
theorem soonTo_f {ds : List Deed} {rs : List Reply} {hs : List Hand} {k : Nat} (hk : k < hs.length) (h : early ds rs hs[k] = false) : soonTo ds rs (hs.take (k + 1)) = soonTo ds rs (hs.take k) := by
  rw [List.take_succ_eq_append_getElem hk, soonTo, List.filter_append, List.map_append]; simp [soonTo, h]
theorem soonTo_len (ds : List Deed) (rs : List Reply) (hs : List Hand) : (soonTo ds rs hs).length ≤ hs.length := by
  unfold soonTo; rw [List.length_map]; exact List.length_filter_le _ _
theorem soon_len (ds : List Deed) (rs : List Reply) : (soonOf ds rs).length ≤ 400 := by
  unfold soonOf
  split
  · have h1 := soonTo_len ds rs (handsTo ds rs (min ds.length rs.length))
    have h2 := handsTo_len ds rs (min ds.length rs.length)
    omega
  · simp
theorem hands_at {ds : List Deed} {rs : List Reply} {k : Nat} : ∀ h ∈ handsTo ds rs k, 0 ≤ h.at_ ∧ h.at_ < k ∧ h.at_ < ds.length ∧ h.at_ < rs.length := by
  intro h hm
  unfold handsTo at hm
  obtain ⟨i, hi, e⟩ := List.mem_filterMap.1 hm
  have hik := List.mem_range.1 hi
  unfold handAt at e
  cases hd : ds[i]? with
  | none => simp [hd] at e
  | some d => cases hr : rs[i]? with
    | none => simp [hd, hr] at e
    | some r =>
      simp only [hd, hr] at e
      split at e
      · injection e with e
        subst e
        have h1 := (List.getElem?_eq_some_iff.1 hd).1
        have h2 := (List.getElem?_eq_some_iff.1 hr).1
        refine ⟨?_, ?_, ?_, ?_⟩ <;> simp <;> omega
      · cases e
theorem early_neg {ds : List Deed} {rs : List Reply} {h : Hand} (hl : lastSub ds rs h.run h.at_.toNat < 0) : early ds rs h = true := by
  unfold early
  split
  · rfl
  · rw [if_pos hl]
theorem early_any {ds : List Deed} {rs : List Reply} {h : Hand} {j : Nat} (hj : lastSub ds rs h.run h.at_.toNat = (j : Int)) (hd : j < ds.length) : early ds rs h = (beforeOf ds[j].plan h.task).any (fun b => !toldTo ds rs h.run b j h.at_.toNat) := by
  unfold early
  rw [hj, Int.toNat_natCast, List.getElem?_eq_getElem hd]
  simp only
  rw [if_neg (by omega)]

set_option maxHeartbeats 2000000 in
theorem TooSoonI (w : World) {v u : Value} {ds : List Deed} {rs : List Reply} {fp gp : List Nat} (h : Sl w v ds fp) (g : Sl w u rs gp) {cs : List Value} {x : Hand} {fq : List Nat} (hc : Shape.C w cs x fq) (ha : 0 ≤ x.at_ ∧ x.at_ ≤ ds.length ∧ x.at_ ≤ rs.length) :
    Calls Try.prog 23 #[v, u, .agg cs.toArray] w fun e w' => e = .returned (.bool (early ds rs x)) ∧ St w w' [] := by
  have hcap := h.len_le
  have hcap2 := g.len_le
  refine enter3 Try.func23 rfl Try.ntmps23 (by decide) ?_
  refine wp_seq ?_
  refine sx_region ?_
  refine sx rfl (stp_box_agg (cs := cs) rfl (St.start w) ?_); intro b1 W2 hb3 st4
  refine sx rfl (stp_assign (v := .bool false) rfl ?_)
  refine sx_nil ?_
  refine wp_seq ?_
  refine sx_region ?_
  refine sx rfl (stp_fieldAddr fa_Hand_3 rfl ?_)
  have hk6 := hc
  obtain ⟨he6, rfl, hok6⟩ := hk6
  have he6 : _ = [I x.run, I x.task, I x.try_, I x.at_] := he6
  subst he6
  refine sx rfl (stp_load_bx ld_int rfl rfl (st4.get 0 rfl) (i := 3) rfl rfl ?_)
  refine sx rfl (stp_sub rfl rfl (by (simp only [I64] at *; omega)) ?_)
  refine sx rfl (stp_assign (v := I (x.at_ - 1)) rfl ?_)
  refine sx_nil ?_
  refine wp_seq ?_
  refine wp_block ?_
  refine sx_loop (fun (m : Nat) (f : Nat → Value) (W : World) => ∃ (c0 : Nat), lastSub ds rs x.run x.at_.toNat = lastSub ds rs x.run c0 ∧ c0 ≤ x.at_.toNat ∧ m = 1 + c0 ∧ f 0 = v ∧ f 1 = u ∧ f 5 = .pointer (some ⟨b1, 0, none⟩) ∧ f 7 = I ((c0 : Int) - 1) ∧ St w W ([Res.bx b1 [I x.run, I x.task, I x.try_, I x.at_] 49])) (1 + x.at_.toNat) ?_ ?_
  · exact ⟨x.at_.toNat, rfl, (by omega), rfl, rfl, rfl, rfl, (Eq.trans (show _ = I (x.at_ - 1) from rfl) (congrArg I (by omega))), st4⟩
  intro m7 f8 W9 hJ10
  obtain ⟨c0, hL, hm, rfl, hs12_0, hs12_1, hs12_5, hs12_7, st11⟩ := hJ10
  refine wp_seq ?_
  refine wp_seq ?_
  rcases bd (decide (0 ≤ ((c0 : Int) - 1))) with h13 | h13
  · skip
    have h13p := of_decide_eq_false h13
    refine sx_any [Pl.is (I ((c0 : Int) - 1)), Pl.bool false, Pl.bool false, Pl.off, Pl.off, Pl.off, Pl.off, Pl.off, Pl.off, Pl.off, Pl.off, Pl.off, Pl.off, Pl.off, Pl.off, Pl.off, Pl.off, Pl.off, Pl.off, Pl.off, Pl.off, Pl.off, Pl.off, Pl.off, Pl.off, Pl.off, Pl.off, Pl.bool false] mix (by rfl) st11 ⟨(fun f W hst hbl hd hf => stp_move (v := I ((c0 : Int) - 1)) ((hf 7 rfl).trans hs12_7) ⟨Below.refl _ _, rfl⟩), (fun f W hst hbl hd hf => stp_geq (hd 0 16 rfl rfl) rfl ⟨Below.refl _ _, congrArg Value.bool h13⟩), (fun f W hst hbl hd hf => stp_move (v := .bool false) (hd 1 17 rfl rfl) ⟨Below.refl _ _, rfl⟩), (fun f W hst hbl hd hf => rfl), (fun f W hst hbl hd hf => rfl), (fun f W hst hbl hd hf => rfl), (fun f W hst hbl hd hf => rfl), (fun f W hst hbl hd hf => rfl), (fun f W hst hbl hd hf => rfl), (fun f W hst hbl hd hf => rfl), (fun f W hst hbl hd hf => rfl), (fun f W hst hbl hd hf => rfl), (fun f W hst hbl hd hf => rfl), (fun f W hst hbl hd hf => rfl), (fun f W hst hbl hd hf => rfl), (fun f W hst hbl hd hf => rfl), (fun f W hst hbl hd hf => rfl), (fun f W hst hbl hd hf => rfl), (fun f W hst hbl hd hf => rfl), (fun f W hst hbl hd hf => rfl), (fun f W hst hbl hd hf => rfl), (fun f W hst hbl hd hf => rfl), (fun f W hst hbl hd hf => rfl), (fun f W hst hbl hd hf => rfl), (fun f W hst hbl hd hf => rfl), (fun f W hst hbl hd hf => rfl), (fun f W hst hbl hd hf => rfl), (fun f W hst hbl hd hf => stp_pick_f (v := .bool false) (hd 2 18 rfl rfl) rfl ⟨Below.refl _ _, rfl⟩), trivial⟩ ?_
    intro f14 W15 st16 hb17 hv18 hf19
    refine sx_f (hv18 27 43 (by decide) rfl) rfl ?_
    refine wp_exit ?_
    refine wp_seq ?_
    refine wp_seq ?_
    refine sx_region ?_
    refine sx rfl (stp_move (v := I ((c0 : Int) - 1)) ((hf19 7 rfl).trans hs12_7) ?_)
    refine sx rfl (stp_lss rfl rfl ?_)
    refine sx_nil ?_
    refine sx_if rfl (fun h20 => ?_) (fun h20 => ?_)
    · skip
      have h20p := of_decide_eq_true h20
      refine wp_seq ?_
      refine sx_region ?_
      refine sx rfl (stp_assign (v := .bool true) rfl ?_)
      refine sx_nil ?_
      refine wp_ret ?_; repeat (first | refine then_ret ?_ | refine blk_ret ?_)
      refine ret1 Try.results23 rfl ?_
      exact ⟨(congrArg (fun z => Ending.returned (.bool z)) (by rw [early_neg (by rw [hL, show c0 = 0 by omega]; show (-1 : Int) < 0; decide)])), st16.bare⟩
    · skip
      have h20p := of_decide_eq_false h20
      omega
  · skip
    have h13p := of_decide_eq_true h13
    have hi94ffa : ((c0 : Int) - 1).toNat < ds.length := (by omega)
    rcases bd (!decide ((ds[((c0 : Int) - 1).toNat]'hi94ffa).kind = 1)) with h23 | h23
    · skip
      have h23p := of_decide_eq_true (bnot_f h23)
      have hi94ffa : ((c0 : Int) - 1).toNat < ds.length := (by omega)
      rcases bd (!decide ((ds[((c0 : Int) - 1).toNat]'hi94ffa).run = x.run)) with h26 | h26
      · skip
        have h26p := of_decide_eq_true (bnot_f h26)
        have hi94ffa : ((c0 : Int) - 1).toNat < ds.length := (by omega)
        have hq_ := idx h (i := ((c0 : Int) - 1).toNat) hi94ffa
        obtain ⟨b27, o27, cs27, f27, hp27, hr27, hc27, hm27⟩ := hq_
        have hk28 := hc27
        obtain ⟨v28_0, g28_0, rfl, hok28, h28_0, rfl⟩ := hk28
        have hie1539 : ((c0 : Int) - 1).toNat < rs.length := (by omega)
        have hq_ := idx g (i := ((c0 : Int) - 1).toNat) hie1539
        obtain ⟨b29, o29, cs29, f29, hp29, hr29, hc29, hm29⟩ := hq_
        have hk30 := hc29
        obtain ⟨he30, rfl, hok30⟩ := hk30
        have he30 : _ = [I (rs[((c0 : Int) - 1).toNat]'hie1539).code, I (rs[((c0 : Int) - 1).toNat]'hie1539).run, I (rs[((c0 : Int) - 1).toNat]'hie1539).task, I (rs[((c0 : Int) - 1).toNat]'hie1539).try_] := he30
        subst he30
        refine sx_any [Pl.is (I ((c0 : Int) - 1)), Pl.bool true, Pl.bool true, Pl.is (v) (Sl.yl h), Pl.is (I ((c0 : Int) - 1)), Pl.is (.pointer (some ⟨b27, o27, none⟩)), Pl.is (.pointer (some ⟨b27, o27 + 0, none⟩)), Pl.is (I (ds[((c0 : Int) - 1).toNat]'hi94ffa).kind), Pl.bool false, Pl.bool false, Pl.is (v) (Sl.yl h), Pl.is (I ((c0 : Int) - 1)), Pl.is (.pointer (some ⟨b27, o27, none⟩)), Pl.is (.pointer (some ⟨b27, o27 + 1, none⟩)), Pl.is (I (ds[((c0 : Int) - 1).toNat]'hi94ffa).run), Pl.is (.pointer (some ⟨b1, 0 + 0, none⟩)), Pl.is (I x.run), Pl.bool false, Pl.bool false, Pl.bool false, Pl.is (u) (Sl.yl g), Pl.is (I ((c0 : Int) - 1)), Pl.is (.pointer (some ⟨b29, o29, none⟩)), Pl.is (.pointer (some ⟨b29, o29 + 0, none⟩)), Pl.is (I (rs[((c0 : Int) - 1).toNat]'hie1539).code), Pl.bool (!decide ((rs[((c0 : Int) - 1).toNat]'hie1539).code = 0)), Pl.bool (!decide ((rs[((c0 : Int) - 1).toNat]'hie1539).code = 0)), Pl.bool (!decide ((rs[((c0 : Int) - 1).toNat]'hie1539).code = 0))] mix (by rfl) st11 ⟨(fun f W hst hbl hd hf => stp_move (v := I ((c0 : Int) - 1)) ((hf 7 rfl).trans hs12_7) ⟨Below.refl _ _, rfl⟩), (fun f W hst hbl hd hf => stp_geq (hd 0 16 rfl rfl) rfl ⟨Below.refl _ _, congrArg Value.bool h13⟩), (fun f W hst hbl hd hf => stp_move (v := .bool true) (hd 1 17 rfl rfl) ⟨Below.refl _ _, rfl⟩), (fun f W hst hbl hd hf => stp_move (v := v) ((hf 0 rfl).trans hs12_0) ⟨Below.refl _ _, rfl⟩), (fun f W hst hbl hd hf => stp_move (v := I ((c0 : Int) - 1)) ((hf 7 rfl).trans hs12_7) ⟨Below.refl _ _, rfl⟩), (fun f W hst hbl hd hf => stp_indexAddr sl_DeedS (hd 3 19 rfl rfl) hp27 (hd 4 20 rfl rfl) (by omega) ⟨Below.refl _ _, rfl⟩), (fun f W hst hbl hd hf => stp_fieldAddr fa_Deed_0 (hd 5 21 rfl rfl) ⟨Below.refl _ _, rfl⟩), (fun f W hst hbl hd hf => stp_load_rg ld_int rfl (hd 6 22 rfl rfl) hr27 hst.below (i := 0) rfl rfl ⟨Below.refl _ _, rfl⟩), (fun f W hst hbl hd hf => stp_neq (hd 7 23 rfl rfl) rfl ⟨Below.refl _ _, congrArg Value.bool h23⟩), (fun f W hst hbl hd hf => stp_move (v := .bool false) (hd 8 24 rfl rfl) ⟨Below.refl _ _, rfl⟩), (fun f W hst hbl hd hf => stp_move (v := v) ((hf 0 rfl).trans hs12_0) ⟨Below.refl _ _, rfl⟩), (fun f W hst hbl hd hf => stp_move (v := I ((c0 : Int) - 1)) ((hf 7 rfl).trans hs12_7) ⟨Below.refl _ _, rfl⟩), (fun f W hst hbl hd hf => stp_indexAddr sl_DeedS (hd 10 26 rfl rfl) hp27 (hd 11 27 rfl rfl) (by omega) ⟨Below.refl _ _, rfl⟩), (fun f W hst hbl hd hf => stp_fieldAddr fa_Deed_1 (hd 12 28 rfl rfl) ⟨Below.refl _ _, rfl⟩), (fun f W hst hbl hd hf => stp_load_rg ld_int rfl (hd 13 29 rfl rfl) hr27 hst.below (i := 1) rfl rfl ⟨Below.refl _ _, rfl⟩), (fun f W hst hbl hd hf => stp_fieldAddr fa_Hand_0 ((hf 5 rfl).trans hs12_5) ⟨Below.refl _ _, rfl⟩), (fun f W hst hbl hd hf => stp_load_bx ld_int rfl (hd 15 31 rfl rfl) (hst.get 0 rfl) (i := 0) rfl rfl ⟨Below.refl _ _, rfl⟩), (fun f W hst hbl hd hf => stp_neq (hd 14 30 rfl rfl) (hd 16 32 rfl rfl) ⟨Below.refl _ _, congrArg Value.bool h26⟩), (fun f W hst hbl hd hf => stp_pick_f (v := .bool false) (hd 9 25 rfl rfl) (hd 17 33 rfl rfl) ⟨Below.refl _ _, rfl⟩), (fun f W hst hbl hd hf => stp_move (v := .bool false) (hd 18 34 rfl rfl) ⟨Below.refl _ _, rfl⟩), (fun f W hst hbl hd hf => stp_move (v := u) ((hf 1 rfl).trans hs12_1) ⟨Below.refl _ _, rfl⟩), (fun f W hst hbl hd hf => stp_move (v := I ((c0 : Int) - 1)) ((hf 7 rfl).trans hs12_7) ⟨Below.refl _ _, rfl⟩), (fun f W hst hbl hd hf => stp_indexAddr sl_ReplyS (hd 20 36 rfl rfl) hp29 (hd 21 37 rfl rfl) (by omega) ⟨Below.refl _ _, rfl⟩), (fun f W hst hbl hd hf => stp_fieldAddr fa_Reply_0 (hd 22 38 rfl rfl) ⟨Below.refl _ _, rfl⟩), (fun f W hst hbl hd hf => stp_load_rg ld_int rfl (hd 23 39 rfl rfl) hr29 hst.below (i := 0) rfl rfl ⟨Below.refl _ _, rfl⟩), (fun f W hst hbl hd hf => stp_neq (hd 24 40 rfl rfl) rfl ⟨Below.refl _ _, rfl⟩), (fun f W hst hbl hd hf => stp_pick_f (v := .bool (!decide ((rs[((c0 : Int) - 1).toNat]'hie1539).code = 0))) (hd 19 35 rfl rfl) (hd 25 41 rfl rfl) ⟨Below.refl _ _, rfl⟩), (fun f W hst hbl hd hf => stp_pick_t (v := .bool (!decide ((rs[((c0 : Int) - 1).toNat]'hie1539).code = 0))) (hd 2 18 rfl rfl) (hd 26 42 rfl rfl) ⟨Below.refl _ _, rfl⟩), trivial⟩ ?_
        intro f31 W32 st33 hb34 hv35 hf36
        refine sx_if (hv35 27 43 (by decide) rfl) (fun h37 => ?_) (fun h37 => ?_)
        · skip
          have h37p := of_decide_eq_false (bnot_t h37)
          refine wp_skip ?_
          refine wp_block ?_
          refine sx_region ?_
          refine sx rfl (stp_move (v := I ((c0 : Int) - 1)) ((hf36 7 rfl).trans hs12_7) ?_)
          refine sx rfl (stp_sub rfl rfl (by (simp only [I64] at *; omega)) ?_)
          refine sx rfl (stp_assign (v := I (((c0 : Int) - 1) - 1)) rfl ?_)
          refine sx_nil ?_
          exact ⟨_, 1 + (c0 - 1), (by omega), rfl, c0 - 1, (by rw [show c0 - 1 = ((c0 : Int) - 1).toNat by omega, ← lastSub_f (k := ((c0 : Int) - 1).toNat) (by rw [subAt_eq (by omega) (by omega)]; simp only [decide_true, decide_false, Bool.and_true, Bool.true_and, Bool.and_false, Bool.false_and, Bool.or_false, Bool.or_true, Bool.false_or, Bool.true_or, h23p, h26p, h37p]), show ((c0 : Int) - 1).toNat + 1 = c0 by omega]; exact hL), (by omega), rfl, ((hf36 0 rfl).trans hs12_0), ((hf36 1 rfl).trans hs12_1), ((hf36 5 rfl).trans hs12_5), (Eq.trans (show _ = I (((c0 : Int) - 1) - 1) from rfl) (congrArg I (by omega))), st33⟩
        · skip
          have h37p := of_decide_eq_true (bnot_f h37)
          refine wp_exit ?_
          refine wp_seq ?_
          refine wp_seq ?_
          refine sx_region ?_
          refine sx rfl (stp_move (v := I ((c0 : Int) - 1)) ((hf36 7 rfl).trans hs12_7) ?_)
          refine sx rfl (stp_lss rfl rfl ?_)
          refine sx_nil ?_
          refine sx_if rfl (fun h38 => ?_) (fun h38 => ?_)
          · skip
            have h38p := of_decide_eq_true h38
            omega
          · skip
            have h38p := of_decide_eq_false h38
            refine wp_skip ?_
            refine wp_seq ?_
            refine wp_seq ?_
            have hsub : subAt ds rs x.run (((c0 : Int) - 1).toNat) = true := by rw [subAt_eq (by omega) (by omega)]; simp only [decide_true, decide_false, Bool.and_true, Bool.true_and, Bool.and_false, Bool.false_and, Bool.or_false, Bool.or_true, Bool.false_or, Bool.true_or, h23p, h26p, h37p]
            have hj : lastSub ds rs x.run x.at_.toNat = ((((c0 : Int) - 1).toNat : Nat) : Int) := hL.trans ((congrArg (lastSub ds rs x.run) (show c0 = ((c0 : Int) - 1).toNat + 1 by omega)).trans (lastSub_t hsub))
            have htold : ∀ {run' task' : Int}, toldAt ds rs run' task' (((c0 : Int) - 1).toNat) = false := fun {_ _} => told_not_sub hsub
            have h0t : ∀ b, toldTo ds rs x.run b (((c0 : Int) - 1).toNat) (((c0 : Int) - 1).toNat + 1) = false := fun b => by rw [← toldTo_next htold]; exact toldTo_lo _ (Nat.le_refl _)
            refine sx_any [Pl.is (v) (Sl.yl h), Pl.is (I ((c0 : Int) - 1)), Pl.is (.pointer (some ⟨b27, o27, none⟩)), Pl.is (.pointer (some ⟨b27, o27 + 2, none⟩)), Pl.is (.agg #[I (ds[((c0 : Int) - 1).toNat]'hi94ffa).plan.prio, I (ds[((c0 : Int) - 1).toNat]'hi94ffa).plan.most, I (ds[((c0 : Int) - 1).toNat]'hi94ffa).plan.wait, I (ds[((c0 : Int) - 1).toNat]'hi94ffa).plan.tasks, v28_0]), Pl.is (.pointer (some ⟨b1, 0 + 1, none⟩)), Pl.is (I x.task), Pl.ssl (α := Int) (beforeOf (ds[((c0 : Int) - 1).toNat]'hi94ffa).plan x.task), Pl.is (I ((beforeOf (ds[((c0 : Int) - 1).toNat]'hi94ffa).plan x.task).length : Int)), Pl.is (I 0)] mix (by rfl) st33 ⟨(fun f W hst hbl hd hf => stp_move (v := v) ((hf 0 rfl).trans ((hf36 0 rfl).trans hs12_0)) ⟨Below.refl _ _, rfl⟩), (fun f W hst hbl hd hf => stp_move (v := I ((c0 : Int) - 1)) ((hf 7 rfl).trans ((hf36 7 rfl).trans hs12_7)) ⟨Below.refl _ _, rfl⟩), (fun f W hst hbl hd hf => stp_indexAddr sl_DeedS (hd 0 48 rfl rfl) hp27 (hd 1 49 rfl rfl) (by omega) ⟨Below.refl _ _, rfl⟩), (fun f W hst hbl hd hf => stp_fieldAddr fa_Deed_2 (hd 2 50 rfl rfl) ⟨Below.refl _ _, rfl⟩), (fun f W hst hbl hd hf => stp_load_rgs (cs := [I (ds[((c0 : Int) - 1).toNat]'hi94ffa).plan.prio, I (ds[((c0 : Int) - 1).toNat]'hi94ffa).plan.most, I (ds[((c0 : Int) - 1).toNat]'hi94ffa).plan.wait, I (ds[((c0 : Int) - 1).toNat]'hi94ffa).plan.tasks, v28_0]) ld_Plan rfl (hd 3 51 rfl rfl) hr27 hst.below (i := 2) rfl rfl rfl ⟨Below.refl _ _, rfl⟩), (fun f W hst hbl hd hf => stp_fieldAddr fa_Hand_1 ((hf 5 rfl).trans ((hf36 5 rfl).trans hs12_5)) ⟨Below.refl _ _, rfl⟩), (fun f W hst hbl hd hf => stp_load_bx ld_int rfl (hd 5 53 rfl rfl) (hst.get 0 rfl) (i := 1) rfl rfl ⟨Below.refl _ _, rfl⟩), (fun f W hst hbl hd hf => stp_call2 Try.func30 rfl (hd 4 52 rfl rfl) (hd 6 54 rfl rfl) ((BeforeOfI W (show Shape.C _ [I (ds[((c0 : Int) - 1).toNat]'hi94ffa).plan.prio, I (ds[((c0 : Int) - 1).toNat]'hi94ffa).plan.most, I (ds[((c0 : Int) - 1).toNat]'hi94ffa).plan.wait, I (ds[((c0 : Int) - 1).toNat]'hi94ffa).plan.tasks, v28_0] (ds[((c0 : Int) - 1).toNat]'hi94ffa).plan _ from ⟨_, _, rfl, (by first | exact True.intro | (simp only [Edge.ok, Plan.ok, Entry.ok, Task.ok, Run.ok, Yard.ok, Reply.ok, Deed.ok, Note.ok, Wait.ok, File.ok, Disk.ok, Engine.ok, WorldD.ok, ActD.ok, Hand.ok, Span.ok, Crew.ok, View.ok, I64] at *; omega)), (h28_0.below hst.below), rfl⟩) x.task).mono (by rintro e W2 ⟨v, fp, rfl, hk⟩; exact ⟨_, rfl, hk.below, fp, own_Sl (hk.get 0 rfl)⟩))), (fun f W hst hbl hd hf => by obtain ⟨fp41, h41⟩ := hd 7 55 rfl rfl; exact stp_len sl_IntS rfl h41 ⟨Below.refl _ _, rfl⟩), (fun f W hst hbl hd hf => stp_move (v := I 0) rfl ⟨Below.refl _ _, rfl⟩), trivial⟩ ?_
            intro f42 W43 st44 hb45 hv46 hf47
            have hq_ := hv46 7 55 (by decide) rfl
            obtain ⟨fp48, h48⟩ := hq_
            refine wp_block ?_
            refine sx_loop (fun (m : Nat) (f : Nat → Value) (W : World) => ∃ (k : Nat), k ≤ (beforeOf (ds[((c0 : Int) - 1).toNat]'(by omega)).plan x.task).length ∧ ((beforeOf (ds[((c0 : Int) - 1).toNat]'(by omega)).plan x.task).take k).any (fun b => !toldTo ds rs x.run b (((c0 : Int) - 1).toNat) x.at_.toNat) = false ∧ m = (beforeOf (ds[((c0 : Int) - 1).toNat]'(by omega)).plan x.task).length - k ∧ f 0 = v ∧ f 1 = u ∧ f 5 = .pointer (some ⟨b1, 0, none⟩) ∧ f 7 = I ((c0 : Int) - 1) ∧ f 55 = (f42 55) ∧ f 56 = I ((beforeOf (ds[((c0 : Int) - 1).toNat]'hi94ffa).plan x.task).length : Int) ∧ f 57 = I (k : Int) ∧ St W43 W ([])) ((beforeOf (ds[((c0 : Int) - 1).toNat]'(by omega)).plan x.task).length - 0) ?_ ?_
            · exact ⟨0, (by omega), rfl, rfl, ((hf47 0 rfl).trans ((hf36 0 rfl).trans hs12_0)), ((hf47 1 rfl).trans ((hf36 1 rfl).trans hs12_1)), ((hf47 5 rfl).trans ((hf36 5 rfl).trans hs12_5)), ((hf47 7 rfl).trans ((hf36 7 rfl).trans hs12_7)), rfl, (hv46 8 56 (by decide) rfl), (hv46 9 57 (by decide) rfl), (St.start W43)⟩
            intro m49 f50 W51 hJ52
            obtain ⟨k, hk, hany, rfl, hs54_0, hs54_1, hs54_5, hs54_7, hs54_55, hs54_56, hs54_57, st53⟩ := hJ52
            have hbl := before_len (ds[((c0 : Int) - 1).toNat]'(by omega)).plan x.task
            refine wp_seq ?_
            refine sx_region ?_
            refine sx rfl (stp_lss hs54_57 hs54_56 ?_)
            refine sx_nil ?_
            refine wp_seq ?_
            refine sx_if rfl (fun h55 => ?_) (fun h55 => ?_)
            · skip
              have h55p := of_decide_eq_true h55
              refine wp_skip ?_
              refine wp_seq ?_
              refine wp_block ?_
              refine wp_seq ?_
              refine sx_region ?_
              have hib3edd : k < (beforeOf (ds[((c0 : Int) - 1).toNat]'hi94ffa).plan x.task).length := (by omega)
              have hq_ := idx h48 (i := k) hib3edd
              obtain ⟨b56, o56, cs56, f56, hp56, hr56, hc56, hm56⟩ := hq_
              have hk56 := hc56
              obtain ⟨rfl, rfl, hok56⟩ := hk56
              refine sx rfl (stp_indexAddr sl_IntS hs54_55 hp56 hs54_57 rfl ?_)
              refine sx rfl (stp_load_rg ld_int rfl rfl hr56 st53.below (i := 0) rfl rfl ?_)
              refine sx rfl (stp_assign (v := I ((beforeOf (ds[((c0 : Int) - 1).toNat]'hi94ffa).plan x.task)[k]'hib3edd)) rfl ?_)
              refine sx_nil ?_
              refine wp_seq ?_
              refine sx_region ?_
              refine sx rfl (stp_assign (v := .bool false) rfl ?_)
              refine sx_nil ?_
              refine wp_seq ?_
              refine wp_seq ?_
              refine sx_region ?_
              refine sx rfl (stp_move (v := I ((c0 : Int) - 1)) hs54_7 ?_)
              refine sx rfl (stp_add rfl rfl (by (simp only [I64] at *; omega)) ?_)
              refine sx rfl (stp_assign (v := I (((c0 : Int) - 1) + 1)) rfl ?_)
              refine sx_nil ?_
              refine wp_block ?_
              refine sx_loop (fun (m : Nat) (f : Nat → Value) (W : World) => ∃ (i : Nat), (((c0 : Int) - 1).toNat + 1) ≤ i ∧ i ≤ x.at_.toNat ∧ m = x.at_.toNat - i ∧ f 0 = v ∧ f 1 = u ∧ f 5 = .pointer (some ⟨b1, 0, none⟩) ∧ f 7 = I ((c0 : Int) - 1) ∧ f 9 = I ((beforeOf (ds[((c0 : Int) - 1).toNat]'hi94ffa).plan x.task)[k]'hib3edd) ∧ f 10 = .bool (toldTo ds rs x.run ((beforeOf (ds[((c0 : Int) - 1).toNat]'(by omega)).plan x.task)[k]'(by omega)) (((c0 : Int) - 1).toNat) i) ∧ f 11 = I (i : Int) ∧ f 55 = (f42 55) ∧ f 56 = I ((beforeOf (ds[((c0 : Int) - 1).toNat]'hi94ffa).plan x.task).length : Int) ∧ f 57 = I (k : Int) ∧ St W43 W ([])) (x.at_.toNat - (((c0 : Int) - 1).toNat + 1)) ?_ ?_
              · exact ⟨(((c0 : Int) - 1).toNat + 1), (by omega), (by omega), rfl, hs54_0, hs54_1, hs54_5, hs54_7, rfl, (Eq.trans (show _ = (.bool false : Value) from rfl) (congrArg Value.bool (h0t _).symm)), (Eq.trans (show _ = I (((c0 : Int) - 1) + 1) from rfl) (congrArg I (by omega))), hs54_55, hs54_56, hs54_57, st53⟩
              intro m57 f58 W59 hJ60
              obtain ⟨i, hi0, hi, rfl, hs62_0, hs62_1, hs62_5, hs62_7, hs62_9, hs62_10, hs62_11, hs62_55, hs62_56, hs62_57, st61⟩ := hJ60
              refine wp_seq ?_
              refine wp_seq ?_
              refine sx_region ?_
              refine sx rfl (stp_move (v := I (i : Int)) hs62_11 ?_)
              refine sx rfl (stp_fieldAddr fa_Hand_3 hs62_5 ?_)
              refine sx rfl (stp_load_rg ld_int rfl rfl (range_of_heap (st44.get 0 rfl)) st61.below (i := 3) rfl rfl ?_)
              refine sx rfl (stp_lss rfl rfl ?_)
              refine sx_nil ?_
              refine sx_if rfl (fun h63 => ?_) (fun h63 => ?_)
              · skip
                have h63p := of_decide_eq_true h63
                refine wp_skip ?_
                refine wp_seq ?_
                refine wp_block ?_
                refine wp_seq ?_
                refine sx_region ?_
                refine sx rfl (stp_move (v := v) hs62_0 ?_)
                refine sx rfl (stp_move (v := I (i : Int)) hs62_11 ?_)
                have hib17c1 : i < ds.length := (by omega)
                have hq_ := idx h (i := i) hib17c1
                obtain ⟨b64, o64, cs64, f64, hp64, hr64, hc64, hm64⟩ := hq_
                refine sx rfl (stp_indexAddr sl_DeedS rfl hp64 rfl rfl ?_)
                refine sx rfl (stp_load_rga ld_Deed rfl rfl hr64 (st44.below.trans (st61.below.mono st44.below.size)) (Shape.len hc64) ?_)
                refine sx rfl (stp_alloc zz_Deed st61 ?_); intro b65 W66 hb67 st68
                refine sx rfl (stp_store_all (cs := cs64) ld_Deed hc64 rfl rfl st68 rfl ?_); intro W70 st71
                refine sx_nil ?_
                refine sx_region ?_
                refine sx rfl (stp_move (v := .bool (toldTo ds rs x.run ((beforeOf (ds[((c0 : Int) - 1).toNat]'(by omega)).plan x.task)[k]'(by omega)) (((c0 : Int) - 1).toNat) i)) hs62_10 ?_)
                refine sx rfl (stp_move (v := .bool (toldTo ds rs x.run ((beforeOf (ds[((c0 : Int) - 1).toNat]'(by omega)).plan x.task)[k]'(by omega)) (((c0 : Int) - 1).toNat) i)) rfl ?_)
                rcases bd (toldTo ds rs x.run ((beforeOf (ds[((c0 : Int) - 1).toNat]'(by omega)).plan x.task)[k]'(by omega)) (((c0 : Int) - 1).toNat) i) with h72 | h72
                · skip
                  refine sx_on (j := 1) (dd := 74) rfl rfl (by decide) (yl_on (e := toldTo ds rs x.run ((beforeOf (ds[((c0 : Int) - 1).toNat]'(by omega)).plan x.task)[k]'(by omega)) (((c0 : Int) - 1).toNat) i) rfl h72) (stp_fieldAddr fa_Deed_0 rfl ?_)
                  have hk73 := hc64
                  obtain ⟨v73_0, g73_0, rfl, hok73, h73_0, rfl⟩ := hk73
                  refine sx_on (j := 1) (dd := 74) rfl rfl (by decide) (yl_on (e := toldTo ds rs x.run ((beforeOf (ds[((c0 : Int) - 1).toNat]'(by omega)).plan x.task)[k]'(by omega)) (((c0 : Int) - 1).toNat) i) rfl h72) (stp_load_bx ld_int rfl rfl (st71.get 0 rfl) (i := 0) rfl rfl ?_)
                  refine sx_on (j := 1) (dd := 74) rfl rfl (by decide) (yl_on (e := toldTo ds rs x.run ((beforeOf (ds[((c0 : Int) - 1).toNat]'(by omega)).plan x.task)[k]'(by omega)) (((c0 : Int) - 1).toNat) i) rfl h72) (stp_eql rfl rfl ?_)
                  refine sx_on (j := 1) (dd := 74) rfl rfl (by decide) (yl_on (e := toldTo ds rs x.run ((beforeOf (ds[((c0 : Int) - 1).toNat]'(by omega)).plan x.task)[k]'(by omega)) (((c0 : Int) - 1).toNat) i) rfl h72) (stp_move (v := .bool (decide ((ds[i]'hib17c1).kind = 3))) rfl ?_)
                  rcases bd (decide ((ds[i]'hib17c1).kind = 3)) with h74 | h74
                  · skip
                    have h74p := of_decide_eq_false h74
                    iterate 5 refine sx_off (j := 5) (dd := 78) rfl rfl (by decide) (yl_off (e := decide ((ds[i]'hib17c1).kind = 3)) rfl h74) ?_
                    refine sx_on (j := 1) (dd := 74) rfl rfl (by decide) (yl_on (e := toldTo ds rs x.run ((beforeOf (ds[((c0 : Int) - 1).toNat]'(by omega)).plan x.task)[k]'(by omega)) (((c0 : Int) - 1).toNat) i) rfl h72) (stp_pick_f (v := .bool false) ((rfl : _ = (.bool (decide ((ds[i]'hib17c1).kind = 3)) : Value)).trans (congrArg Value.bool h74)) rfl ?_)
                    refine sx_on (j := 1) (dd := 74) rfl rfl (by decide) (yl_on (e := toldTo ds rs x.run ((beforeOf (ds[((c0 : Int) - 1).toNat]'(by omega)).plan x.task)[k]'(by omega)) (((c0 : Int) - 1).toNat) i) rfl h72) (stp_move (v := .bool false) rfl ?_)
                    iterate 4 refine sx_off (j := 12) (dd := 85) rfl rfl (by decide) (yl_off (e := false) rfl rfl) ?_
                    refine sx_on (j := 1) (dd := 74) rfl rfl (by decide) (yl_on (e := toldTo ds rs x.run ((beforeOf (ds[((c0 : Int) - 1).toNat]'(by omega)).plan x.task)[k]'(by omega)) (((c0 : Int) - 1).toNat) i) rfl h72) (stp_pick_f (v := .bool false) rfl rfl ?_)
                    refine sx_on (j := 1) (dd := 74) rfl rfl (by decide) (yl_on (e := toldTo ds rs x.run ((beforeOf (ds[((c0 : Int) - 1).toNat]'(by omega)).plan x.task)[k]'(by omega)) (((c0 : Int) - 1).toNat) i) rfl h72) (stp_move (v := .bool false) rfl ?_)
                    iterate 6 refine sx_off (j := 18) (dd := 91) rfl rfl (by decide) (yl_off (e := false) rfl rfl) ?_
                    refine sx_on (j := 1) (dd := 74) rfl rfl (by decide) (yl_on (e := toldTo ds rs x.run ((beforeOf (ds[((c0 : Int) - 1).toNat]'(by omega)).plan x.task)[k]'(by omega)) (((c0 : Int) - 1).toNat) i) rfl h72) (stp_pick_f (v := .bool false) rfl rfl ?_)
                    refine sx rfl (stp_pick_f (v := .bool false) ((rfl : _ = (.bool (toldTo ds rs x.run ((beforeOf (ds[((c0 : Int) - 1).toNat]'(by omega)).plan x.task)[k]'(by omega)) (((c0 : Int) - 1).toNat) i) : Value)).trans (congrArg Value.bool h72)) rfl ?_)
                    refine sx rfl (stp_assign (v := .bool false) rfl ?_)
                    refine sx_nil ?_
                    refine sx_region ?_
                    refine sx rfl (stp_move (v := I (i : Int)) hs62_11 ?_)
                    refine sx rfl (stp_add rfl rfl (by (simp only [I64] at *; omega)) ?_)
                    refine sx rfl (stp_assign (v := I ((i : Int) + 1)) rfl ?_)
                    refine sx_nil ?_
                    have st75 := st71.d0
                    exact ⟨_, x.at_.toNat - (i + 1), (by omega), rfl, i + 1, (by omega), (by omega), rfl, hs62_0, hs62_1, hs62_5, hs62_7, hs62_9, (Eq.trans (show _ = (.bool false : Value) from rfl) (congrArg Value.bool (by rw [toldTo_step (by omega), toldAt_eq (by omega) (by omega)]; simp only [decide_true, decide_false, Bool.and_true, Bool.true_and, Bool.and_false, Bool.false_and, Bool.or_false, Bool.or_true, Bool.false_or, Bool.true_or, h26p, h37p, h72, h74p]))), rfl, hs62_55, hs62_56, hs62_57, st75⟩
                  · skip
                    have h74p := of_decide_eq_true h74
                    refine sx_on (j := 5) (dd := 78) rfl rfl (by decide) (yl_on (e := decide ((ds[i]'hib17c1).kind = 3)) rfl h74) (stp_fieldAddr fa_Deed_1 rfl ?_)
                    refine sx_on (j := 5) (dd := 78) rfl rfl (by decide) (yl_on (e := decide ((ds[i]'hib17c1).kind = 3)) rfl h74) (stp_load_bx ld_int rfl rfl (st71.get 0 rfl) (i := 1) rfl rfl ?_)
                    refine sx_on (j := 5) (dd := 78) rfl rfl (by decide) (yl_on (e := decide ((ds[i]'hib17c1).kind = 3)) rfl h74) (stp_fieldAddr fa_Hand_0 hs62_5 ?_)
                    refine sx_on (j := 5) (dd := 78) rfl rfl (by decide) (yl_on (e := decide ((ds[i]'hib17c1).kind = 3)) rfl h74) (stp_load_rg ld_int rfl rfl (range_of_heap (st44.get 0 rfl)) st71.below (i := 0) rfl rfl ?_)
                    refine sx_on (j := 5) (dd := 78) rfl rfl (by decide) (yl_on (e := decide ((ds[i]'hib17c1).kind = 3)) rfl h74) (stp_eql rfl rfl ?_)
                    refine sx_on (j := 1) (dd := 74) rfl rfl (by decide) (yl_on (e := toldTo ds rs x.run ((beforeOf (ds[((c0 : Int) - 1).toNat]'(by omega)).plan x.task)[k]'(by omega)) (((c0 : Int) - 1).toNat) i) rfl h72) (stp_pick_t (v := .bool (decide ((ds[i]'hib17c1).run = x.run))) ((rfl : _ = (.bool (decide ((ds[i]'hib17c1).kind = 3)) : Value)).trans (congrArg Value.bool h74)) rfl ?_)
                    refine sx_on (j := 1) (dd := 74) rfl rfl (by decide) (yl_on (e := toldTo ds rs x.run ((beforeOf (ds[((c0 : Int) - 1).toNat]'(by omega)).plan x.task)[k]'(by omega)) (((c0 : Int) - 1).toNat) i) rfl h72) (stp_move (v := .bool (decide ((ds[i]'hib17c1).run = x.run))) rfl ?_)
                    rcases bd (decide ((ds[i]'hib17c1).run = x.run)) with h76 | h76
                    · skip
                      have h76p := of_decide_eq_false h76
                      iterate 4 refine sx_off (j := 12) (dd := 85) rfl rfl (by decide) (yl_off (e := decide ((ds[i]'hib17c1).run = x.run)) rfl h76) ?_
                      refine sx_on (j := 1) (dd := 74) rfl rfl (by decide) (yl_on (e := toldTo ds rs x.run ((beforeOf (ds[((c0 : Int) - 1).toNat]'(by omega)).plan x.task)[k]'(by omega)) (((c0 : Int) - 1).toNat) i) rfl h72) (stp_pick_f (v := .bool false) ((rfl : _ = (.bool (decide ((ds[i]'hib17c1).run = x.run)) : Value)).trans (congrArg Value.bool h76)) rfl ?_)
                      refine sx_on (j := 1) (dd := 74) rfl rfl (by decide) (yl_on (e := toldTo ds rs x.run ((beforeOf (ds[((c0 : Int) - 1).toNat]'(by omega)).plan x.task)[k]'(by omega)) (((c0 : Int) - 1).toNat) i) rfl h72) (stp_move (v := .bool false) rfl ?_)
                      iterate 6 refine sx_off (j := 18) (dd := 91) rfl rfl (by decide) (yl_off (e := false) rfl rfl) ?_
                      refine sx_on (j := 1) (dd := 74) rfl rfl (by decide) (yl_on (e := toldTo ds rs x.run ((beforeOf (ds[((c0 : Int) - 1).toNat]'(by omega)).plan x.task)[k]'(by omega)) (((c0 : Int) - 1).toNat) i) rfl h72) (stp_pick_f (v := .bool false) rfl rfl ?_)
                      refine sx rfl (stp_pick_f (v := .bool false) ((rfl : _ = (.bool (toldTo ds rs x.run ((beforeOf (ds[((c0 : Int) - 1).toNat]'(by omega)).plan x.task)[k]'(by omega)) (((c0 : Int) - 1).toNat) i) : Value)).trans (congrArg Value.bool h72)) rfl ?_)
                      refine sx rfl (stp_assign (v := .bool false) rfl ?_)
                      refine sx_nil ?_
                      refine sx_region ?_
                      refine sx rfl (stp_move (v := I (i : Int)) hs62_11 ?_)
                      refine sx rfl (stp_add rfl rfl (by (simp only [I64] at *; omega)) ?_)
                      refine sx rfl (stp_assign (v := I ((i : Int) + 1)) rfl ?_)
                      refine sx_nil ?_
                      have st77 := st71.d0
                      exact ⟨_, x.at_.toNat - (i + 1), (by omega), rfl, i + 1, (by omega), (by omega), rfl, hs62_0, hs62_1, hs62_5, hs62_7, hs62_9, (Eq.trans (show _ = (.bool false : Value) from rfl) (congrArg Value.bool (by rw [toldTo_step (by omega), toldAt_eq (by omega) (by omega)]; simp only [decide_true, decide_false, Bool.and_true, Bool.true_and, Bool.and_false, Bool.false_and, Bool.or_false, Bool.or_true, Bool.false_or, Bool.true_or, h26p, h37p, h72, h74p, h76p]))), rfl, hs62_55, hs62_56, hs62_57, st77⟩
                    · skip
                      have h76p := of_decide_eq_true h76
                      refine sx_on (j := 12) (dd := 85) rfl rfl (by decide) (yl_on (e := decide ((ds[i]'hib17c1).run = x.run)) rfl h76) (stp_fieldAddr fa_Deed_3 rfl ?_)
                      refine sx_on (j := 12) (dd := 85) rfl rfl (by decide) (yl_on (e := decide ((ds[i]'hib17c1).run = x.run)) rfl h76) (stp_load_bx ld_int rfl rfl (st71.get 0 rfl) (i := 7) rfl rfl ?_)
                      refine sx_on (j := 12) (dd := 85) rfl rfl (by decide) (yl_on (e := decide ((ds[i]'hib17c1).run = x.run)) rfl h76) (stp_move (v := I ((beforeOf (ds[((c0 : Int) - 1).toNat]'hi94ffa).plan x.task)[k]'hib3edd)) hs62_9 ?_)
                      refine sx_on (j := 12) (dd := 85) rfl rfl (by decide) (yl_on (e := decide ((ds[i]'hib17c1).run = x.run)) rfl h76) (stp_eql rfl rfl ?_)
                      refine sx_on (j := 1) (dd := 74) rfl rfl (by decide) (yl_on (e := toldTo ds rs x.run ((beforeOf (ds[((c0 : Int) - 1).toNat]'(by omega)).plan x.task)[k]'(by omega)) (((c0 : Int) - 1).toNat) i) rfl h72) (stp_pick_t (v := .bool (decide ((ds[i]'hib17c1).task = ((beforeOf (ds[((c0 : Int) - 1).toNat]'hi94ffa).plan x.task)[k]'hib3edd)))) ((rfl : _ = (.bool (decide ((ds[i]'hib17c1).run = x.run)) : Value)).trans (congrArg Value.bool h76)) rfl ?_)
                      refine sx_on (j := 1) (dd := 74) rfl rfl (by decide) (yl_on (e := toldTo ds rs x.run ((beforeOf (ds[((c0 : Int) - 1).toNat]'(by omega)).plan x.task)[k]'(by omega)) (((c0 : Int) - 1).toNat) i) rfl h72) (stp_move (v := .bool (decide ((ds[i]'hib17c1).task = ((beforeOf (ds[((c0 : Int) - 1).toNat]'hi94ffa).plan x.task)[k]'hib3edd)))) rfl ?_)
                      rcases bd (decide ((ds[i]'hib17c1).task = ((beforeOf (ds[((c0 : Int) - 1).toNat]'hi94ffa).plan x.task)[k]'hib3edd))) with h78 | h78
                      · skip
                        have h78p := of_decide_eq_false h78
                        iterate 6 refine sx_off (j := 18) (dd := 91) rfl rfl (by decide) (yl_off (e := decide ((ds[i]'hib17c1).task = ((beforeOf (ds[((c0 : Int) - 1).toNat]'hi94ffa).plan x.task)[k]'hib3edd))) rfl h78) ?_
                        refine sx_on (j := 1) (dd := 74) rfl rfl (by decide) (yl_on (e := toldTo ds rs x.run ((beforeOf (ds[((c0 : Int) - 1).toNat]'(by omega)).plan x.task)[k]'(by omega)) (((c0 : Int) - 1).toNat) i) rfl h72) (stp_pick_f (v := .bool false) ((rfl : _ = (.bool (decide ((ds[i]'hib17c1).task = ((beforeOf (ds[((c0 : Int) - 1).toNat]'hi94ffa).plan x.task)[k]'hib3edd))) : Value)).trans (congrArg Value.bool h78)) rfl ?_)
                        refine sx rfl (stp_pick_f (v := .bool false) ((rfl : _ = (.bool (toldTo ds rs x.run ((beforeOf (ds[((c0 : Int) - 1).toNat]'(by omega)).plan x.task)[k]'(by omega)) (((c0 : Int) - 1).toNat) i) : Value)).trans (congrArg Value.bool h72)) rfl ?_)
                        refine sx rfl (stp_assign (v := .bool false) rfl ?_)
                        refine sx_nil ?_
                        refine sx_region ?_
                        refine sx rfl (stp_move (v := I (i : Int)) hs62_11 ?_)
                        refine sx rfl (stp_add rfl rfl (by (simp only [I64] at *; omega)) ?_)
                        refine sx rfl (stp_assign (v := I ((i : Int) + 1)) rfl ?_)
                        refine sx_nil ?_
                        have st79 := st71.d0
                        exact ⟨_, x.at_.toNat - (i + 1), (by omega), rfl, i + 1, (by omega), (by omega), rfl, hs62_0, hs62_1, hs62_5, hs62_7, hs62_9, (Eq.trans (show _ = (.bool false : Value) from rfl) (congrArg Value.bool (by rw [toldTo_step (by omega), toldAt_eq (by omega) (by omega)]; simp only [decide_true, decide_false, Bool.and_true, Bool.true_and, Bool.and_false, Bool.false_and, Bool.or_false, Bool.or_true, Bool.false_or, Bool.true_or, h26p, h37p, h72, h74p, h76p, h78p]))), rfl, hs62_55, hs62_56, hs62_57, st79⟩
                      · skip
                        have h78p := of_decide_eq_true h78
                        refine sx_on (j := 18) (dd := 91) rfl rfl (by decide) (yl_on (e := decide ((ds[i]'hib17c1).task = ((beforeOf (ds[((c0 : Int) - 1).toNat]'hi94ffa).plan x.task)[k]'hib3edd))) rfl h78) (stp_move (v := u) hs62_1 ?_)
                        refine sx_on (j := 18) (dd := 91) rfl rfl (by decide) (yl_on (e := decide ((ds[i]'hib17c1).task = ((beforeOf (ds[((c0 : Int) - 1).toNat]'hi94ffa).plan x.task)[k]'hib3edd))) rfl h78) (stp_move (v := I (i : Int)) hs62_11 ?_)
                        have hi17d5e : i < rs.length := (by omega)
                        have hq_ := idx g (i := i) hi17d5e
                        obtain ⟨b80, o80, cs80, f80, hp80, hr80, hc80, hm80⟩ := hq_
                        refine sx_on (j := 18) (dd := 91) rfl rfl (by decide) (yl_on (e := decide ((ds[i]'hib17c1).task = ((beforeOf (ds[((c0 : Int) - 1).toNat]'hi94ffa).plan x.task)[k]'hib3edd))) rfl h78) (stp_indexAddr sl_ReplyS rfl hp80 rfl rfl ?_)
                        refine sx_on (j := 18) (dd := 91) rfl rfl (by decide) (yl_on (e := decide ((ds[i]'hib17c1).task = ((beforeOf (ds[((c0 : Int) - 1).toNat]'hi94ffa).plan x.task)[k]'hib3edd))) rfl h78) (stp_fieldAddr fa_Reply_0 rfl ?_)
                        have hk81 := hc80
                        obtain ⟨he81, rfl, hok81⟩ := hk81
                        have he81 : _ = [I (rs[i]'hi17d5e).code, I (rs[i]'hi17d5e).run, I (rs[i]'hi17d5e).task, I (rs[i]'hi17d5e).try_] := he81
                        subst he81
                        refine sx_on (j := 18) (dd := 91) rfl rfl (by decide) (yl_on (e := decide ((ds[i]'hib17c1).task = ((beforeOf (ds[((c0 : Int) - 1).toNat]'hi94ffa).plan x.task)[k]'hib3edd))) rfl h78) (stp_load_rg ld_int rfl rfl hr80 (st44.below.trans (st71.below.mono st44.below.size)) (i := 0) rfl rfl ?_)
                        refine sx_on (j := 18) (dd := 91) rfl rfl (by decide) (yl_on (e := decide ((ds[i]'hib17c1).task = ((beforeOf (ds[((c0 : Int) - 1).toNat]'hi94ffa).plan x.task)[k]'hib3edd))) rfl h78) (stp_eql rfl rfl ?_)
                        refine sx_on (j := 1) (dd := 74) rfl rfl (by decide) (yl_on (e := toldTo ds rs x.run ((beforeOf (ds[((c0 : Int) - 1).toNat]'(by omega)).plan x.task)[k]'(by omega)) (((c0 : Int) - 1).toNat) i) rfl h72) (stp_pick_t (v := .bool (decide ((rs[i]'hi17d5e).code = 0))) ((rfl : _ = (.bool (decide ((ds[i]'hib17c1).task = ((beforeOf (ds[((c0 : Int) - 1).toNat]'hi94ffa).plan x.task)[k]'hib3edd))) : Value)).trans (congrArg Value.bool h78)) rfl ?_)
                        refine sx rfl (stp_pick_f (v := .bool (decide ((rs[i]'hi17d5e).code = 0))) ((rfl : _ = (.bool (toldTo ds rs x.run ((beforeOf (ds[((c0 : Int) - 1).toNat]'(by omega)).plan x.task)[k]'(by omega)) (((c0 : Int) - 1).toNat) i) : Value)).trans (congrArg Value.bool h72)) rfl ?_)
                        refine sx rfl (stp_assign (v := .bool (decide ((rs[i]'hi17d5e).code = 0))) rfl ?_)
                        refine sx_nil ?_
                        refine sx_region ?_
                        refine sx rfl (stp_move (v := I (i : Int)) hs62_11 ?_)
                        refine sx rfl (stp_add rfl rfl (by (simp only [I64] at *; omega)) ?_)
                        refine sx rfl (stp_assign (v := I ((i : Int) + 1)) rfl ?_)
                        refine sx_nil ?_
                        have st82 := st71.d0
                        exact ⟨_, x.at_.toNat - (i + 1), (by omega), rfl, i + 1, (by omega), (by omega), rfl, hs62_0, hs62_1, hs62_5, hs62_7, hs62_9, (Eq.trans (show _ = (.bool (decide ((rs[i]'hi17d5e).code = 0)) : Value) from rfl) (congrArg Value.bool (by rw [toldTo_step (by omega), toldAt_eq (by omega) (by omega)]; simp only [decide_true, decide_false, Bool.and_true, Bool.true_and, Bool.and_false, Bool.false_and, Bool.or_false, Bool.or_true, Bool.false_or, Bool.true_or, h26p, h37p, h72, h74p, h76p, h78p]))), rfl, hs62_55, hs62_56, hs62_57, st82⟩
                · skip
                  iterate 4 refine sx_off (j := 1) (dd := 74) rfl rfl (by decide) (yl_off (e := toldTo ds rs x.run ((beforeOf (ds[((c0 : Int) - 1).toNat]'(by omega)).plan x.task)[k]'(by omega)) (((c0 : Int) - 1).toNat) i) rfl h72) ?_
                  iterate 5 refine sx_off rfl rfl (by decide) (yl_und rfl) ?_
                  iterate 2 refine sx_off (j := 1) (dd := 74) rfl rfl (by decide) (yl_off (e := toldTo ds rs x.run ((beforeOf (ds[((c0 : Int) - 1).toNat]'(by omega)).plan x.task)[k]'(by omega)) (((c0 : Int) - 1).toNat) i) rfl h72) ?_
                  iterate 4 refine sx_off rfl rfl (by decide) (yl_und rfl) ?_
                  iterate 2 refine sx_off (j := 1) (dd := 74) rfl rfl (by decide) (yl_off (e := toldTo ds rs x.run ((beforeOf (ds[((c0 : Int) - 1).toNat]'(by omega)).plan x.task)[k]'(by omega)) (((c0 : Int) - 1).toNat) i) rfl h72) ?_
                  iterate 6 refine sx_off rfl rfl (by decide) (yl_und rfl) ?_
                  refine sx_off (j := 1) (dd := 74) rfl rfl (by decide) (yl_off (e := toldTo ds rs x.run ((beforeOf (ds[((c0 : Int) - 1).toNat]'(by omega)).plan x.task)[k]'(by omega)) (((c0 : Int) - 1).toNat) i) rfl h72) ?_
                  refine sx rfl (stp_pick_t (v := .bool true) ((rfl : _ = (.bool (toldTo ds rs x.run ((beforeOf (ds[((c0 : Int) - 1).toNat]'(by omega)).plan x.task)[k]'(by omega)) (((c0 : Int) - 1).toNat) i) : Value)).trans (congrArg Value.bool h72)) rfl ?_)
                  refine sx rfl (stp_assign (v := .bool true) rfl ?_)
                  refine sx_nil ?_
                  refine sx_region ?_
                  refine sx rfl (stp_move (v := I (i : Int)) hs62_11 ?_)
                  refine sx rfl (stp_add rfl rfl (by (simp only [I64] at *; omega)) ?_)
                  refine sx rfl (stp_assign (v := I ((i : Int) + 1)) rfl ?_)
                  refine sx_nil ?_
                  have st83 := st71.d0
                  exact ⟨_, x.at_.toNat - (i + 1), (by omega), rfl, i + 1, (by omega), (by omega), rfl, hs62_0, hs62_1, hs62_5, hs62_7, hs62_9, (Eq.trans (show _ = (.bool true : Value) from rfl) (congrArg Value.bool (by rw [toldTo_step (by omega), toldAt_eq (by omega) (by omega)]; simp only [decide_true, decide_false, Bool.and_true, Bool.true_and, Bool.and_false, Bool.false_and, Bool.or_false, Bool.or_true, Bool.false_or, Bool.true_or, h26p, h37p, h72]))), rfl, hs62_55, hs62_56, hs62_57, st83⟩
              · skip
                have h63p := of_decide_eq_false h63
                refine wp_exit ?_
                refine wp_seq ?_
                refine sx_region ?_
                refine sx rfl (stp_move (v := .bool (toldTo ds rs x.run ((beforeOf (ds[((c0 : Int) - 1).toNat]'(by omega)).plan x.task)[k]'(by omega)) (((c0 : Int) - 1).toNat) i)) hs62_10 ?_)
                refine sx rfl (stp_not rfl ?_)
                refine sx_nil ?_
                refine sx_if rfl (fun h84 => ?_) (fun h84 => ?_)
                · skip
                  refine wp_seq ?_
                  refine sx_region ?_
                  refine sx rfl (stp_assign (v := .bool true) rfl ?_)
                  refine sx_nil ?_
                  refine wp_ret ?_; repeat (first | refine then_ret ?_ | refine blk_ret ?_)
                  refine ret1 Try.results23 rfl ?_
                  have st85 := St.call st44 st61
                  exact ⟨(congrArg (fun z => Ending.returned (.bool z)) (by rw [early_any hj (by omega)]; exact (any_get_t (k := k) (by omega) (by have hz := h84; rw [show i = x.at_.toNat by omega] at hz; exact hz)).symm)), st85.bare⟩
                · skip
                  refine wp_skip ?_
                  refine sx_region ?_
                  refine sx rfl (stp_add hs62_57 rfl (by (simp only [I64] at *; omega)) ?_)
                  refine sx rfl (stp_move (v := I ((k : Int) + 1)) rfl ?_)
                  refine sx_nil ?_
                  exact ⟨_, (beforeOf (ds[((c0 : Int) - 1).toNat]'(by omega)).plan x.task).length - (k + 1), (by omega), rfl, k + 1, (by omega), (any_take_f (by omega) hany (by have hz := h84; rw [show i = x.at_.toNat by omega] at hz; simpa using hz)), rfl, hs62_0, hs62_1, hs62_5, hs62_7, hs62_55, hs62_56, rfl, st61⟩
            · skip
              have h55p := of_decide_eq_false h55
              refine wp_exit ?_
              refine wp_seq ?_
              refine sx_region ?_
              refine sx rfl (stp_assign (v := .bool false) rfl ?_)
              refine sx_nil ?_
              refine wp_ret ?_; repeat (first | refine then_ret ?_ | refine blk_ret ?_)
              refine ret1 Try.results23 rfl ?_
              have st86 := St.call st44 st53
              obtain rfl : k = (beforeOf (ds[((c0 : Int) - 1).toNat]'(by omega)).plan x.task).length := by omega
              rw [List.take_length] at hany
              exact ⟨(congrArg (fun z => Ending.returned (.bool z)) (by rw [early_any hj (by omega)]; exact hany.symm)), st86.bare⟩
      · skip
        have h26p := of_decide_eq_false (bnot_t h26)
        have hi94ffa : ((c0 : Int) - 1).toNat < ds.length := (by omega)
        have hq_ := idx h (i := ((c0 : Int) - 1).toNat) hi94ffa
        obtain ⟨b87, o87, cs87, f87, hp87, hr87, hc87, hm87⟩ := hq_
        have hk88 := hc87
        obtain ⟨v88_0, g88_0, rfl, hok88, h88_0, rfl⟩ := hk88
        refine sx_any [Pl.is (I ((c0 : Int) - 1)), Pl.bool true, Pl.bool true, Pl.is (v) (Sl.yl h), Pl.is (I ((c0 : Int) - 1)), Pl.is (.pointer (some ⟨b87, o87, none⟩)), Pl.is (.pointer (some ⟨b87, o87 + 0, none⟩)), Pl.is (I (ds[((c0 : Int) - 1).toNat]'hi94ffa).kind), Pl.bool false, Pl.bool false, Pl.is (v) (Sl.yl h), Pl.is (I ((c0 : Int) - 1)), Pl.is (.pointer (some ⟨b87, o87, none⟩)), Pl.is (.pointer (some ⟨b87, o87 + 1, none⟩)), Pl.is (I (ds[((c0 : Int) - 1).toNat]'hi94ffa).run), Pl.is (.pointer (some ⟨b1, 0 + 0, none⟩)), Pl.is (I x.run), Pl.bool true, Pl.bool true, Pl.bool true, Pl.off, Pl.off, Pl.off, Pl.off, Pl.off, Pl.off, Pl.bool true, Pl.bool true] mix (by rfl) st11 ⟨(fun f W hst hbl hd hf => stp_move (v := I ((c0 : Int) - 1)) ((hf 7 rfl).trans hs12_7) ⟨Below.refl _ _, rfl⟩), (fun f W hst hbl hd hf => stp_geq (hd 0 16 rfl rfl) rfl ⟨Below.refl _ _, congrArg Value.bool h13⟩), (fun f W hst hbl hd hf => stp_move (v := .bool true) (hd 1 17 rfl rfl) ⟨Below.refl _ _, rfl⟩), (fun f W hst hbl hd hf => stp_move (v := v) ((hf 0 rfl).trans hs12_0) ⟨Below.refl _ _, rfl⟩), (fun f W hst hbl hd hf => stp_move (v := I ((c0 : Int) - 1)) ((hf 7 rfl).trans hs12_7) ⟨Below.refl _ _, rfl⟩), (fun f W hst hbl hd hf => stp_indexAddr sl_DeedS (hd 3 19 rfl rfl) hp87 (hd 4 20 rfl rfl) (by omega) ⟨Below.refl _ _, rfl⟩), (fun f W hst hbl hd hf => stp_fieldAddr fa_Deed_0 (hd 5 21 rfl rfl) ⟨Below.refl _ _, rfl⟩), (fun f W hst hbl hd hf => stp_load_rg ld_int rfl (hd 6 22 rfl rfl) hr87 hst.below (i := 0) rfl rfl ⟨Below.refl _ _, rfl⟩), (fun f W hst hbl hd hf => stp_neq (hd 7 23 rfl rfl) rfl ⟨Below.refl _ _, congrArg Value.bool h23⟩), (fun f W hst hbl hd hf => stp_move (v := .bool false) (hd 8 24 rfl rfl) ⟨Below.refl _ _, rfl⟩), (fun f W hst hbl hd hf => stp_move (v := v) ((hf 0 rfl).trans hs12_0) ⟨Below.refl _ _, rfl⟩), (fun f W hst hbl hd hf => stp_move (v := I ((c0 : Int) - 1)) ((hf 7 rfl).trans hs12_7) ⟨Below.refl _ _, rfl⟩), (fun f W hst hbl hd hf => stp_indexAddr sl_DeedS (hd 10 26 rfl rfl) hp87 (hd 11 27 rfl rfl) (by omega) ⟨Below.refl _ _, rfl⟩), (fun f W hst hbl hd hf => stp_fieldAddr fa_Deed_1 (hd 12 28 rfl rfl) ⟨Below.refl _ _, rfl⟩), (fun f W hst hbl hd hf => stp_load_rg ld_int rfl (hd 13 29 rfl rfl) hr87 hst.below (i := 1) rfl rfl ⟨Below.refl _ _, rfl⟩), (fun f W hst hbl hd hf => stp_fieldAddr fa_Hand_0 ((hf 5 rfl).trans hs12_5) ⟨Below.refl _ _, rfl⟩), (fun f W hst hbl hd hf => stp_load_bx ld_int rfl (hd 15 31 rfl rfl) (hst.get 0 rfl) (i := 0) rfl rfl ⟨Below.refl _ _, rfl⟩), (fun f W hst hbl hd hf => stp_neq (hd 14 30 rfl rfl) (hd 16 32 rfl rfl) ⟨Below.refl _ _, congrArg Value.bool h26⟩), (fun f W hst hbl hd hf => stp_pick_f (v := .bool true) (hd 9 25 rfl rfl) (hd 17 33 rfl rfl) ⟨Below.refl _ _, rfl⟩), (fun f W hst hbl hd hf => stp_move (v := .bool true) (hd 18 34 rfl rfl) ⟨Below.refl _ _, rfl⟩), (fun f W hst hbl hd hf => rfl), (fun f W hst hbl hd hf => rfl), (fun f W hst hbl hd hf => rfl), (fun f W hst hbl hd hf => rfl), (fun f W hst hbl hd hf => rfl), (fun f W hst hbl hd hf => rfl), (fun f W hst hbl hd hf => stp_pick_t (v := .bool true) (hd 19 35 rfl rfl) rfl ⟨Below.refl _ _, rfl⟩), (fun f W hst hbl hd hf => stp_pick_t (v := .bool true) (hd 2 18 rfl rfl) (hd 26 42 rfl rfl) ⟨Below.refl _ _, rfl⟩), trivial⟩ ?_
        intro f89 W90 st91 hb92 hv93 hf94
        refine sx_t (hv93 27 43 (by decide) rfl) rfl ?_
        refine wp_skip ?_
        refine wp_block ?_
        refine sx_region ?_
        refine sx rfl (stp_move (v := I ((c0 : Int) - 1)) ((hf94 7 rfl).trans hs12_7) ?_)
        refine sx rfl (stp_sub rfl rfl (by (simp only [I64] at *; omega)) ?_)
        refine sx rfl (stp_assign (v := I (((c0 : Int) - 1) - 1)) rfl ?_)
        refine sx_nil ?_
        exact ⟨_, 1 + (c0 - 1), (by omega), rfl, c0 - 1, (by rw [show c0 - 1 = ((c0 : Int) - 1).toNat by omega, ← lastSub_f (k := ((c0 : Int) - 1).toNat) (by rw [subAt_eq (by omega) (by omega)]; simp only [decide_true, decide_false, Bool.and_true, Bool.true_and, Bool.and_false, Bool.false_and, Bool.or_false, Bool.or_true, Bool.false_or, Bool.true_or, h23p, h26p]), show ((c0 : Int) - 1).toNat + 1 = c0 by omega]; exact hL), (by omega), rfl, ((hf94 0 rfl).trans hs12_0), ((hf94 1 rfl).trans hs12_1), ((hf94 5 rfl).trans hs12_5), (Eq.trans (show _ = I (((c0 : Int) - 1) - 1) from rfl) (congrArg I (by omega))), st91⟩
    · skip
      have h23p := of_decide_eq_false (bnot_t h23)
      have hi94ffa : ((c0 : Int) - 1).toNat < ds.length := (by omega)
      have hq_ := idx h (i := ((c0 : Int) - 1).toNat) hi94ffa
      obtain ⟨b95, o95, cs95, f95, hp95, hr95, hc95, hm95⟩ := hq_
      have hk96 := hc95
      obtain ⟨v96_0, g96_0, rfl, hok96, h96_0, rfl⟩ := hk96
      refine sx_any [Pl.is (I ((c0 : Int) - 1)), Pl.bool true, Pl.bool true, Pl.is (v) (Sl.yl h), Pl.is (I ((c0 : Int) - 1)), Pl.is (.pointer (some ⟨b95, o95, none⟩)), Pl.is (.pointer (some ⟨b95, o95 + 0, none⟩)), Pl.is (I (ds[((c0 : Int) - 1).toNat]'hi94ffa).kind), Pl.bool true, Pl.bool true, Pl.off, Pl.off, Pl.off, Pl.off, Pl.off, Pl.off, Pl.off, Pl.off, Pl.bool true, Pl.bool true, Pl.off, Pl.off, Pl.off, Pl.off, Pl.off, Pl.off, Pl.bool true, Pl.bool true] mix (by rfl) st11 ⟨(fun f W hst hbl hd hf => stp_move (v := I ((c0 : Int) - 1)) ((hf 7 rfl).trans hs12_7) ⟨Below.refl _ _, rfl⟩), (fun f W hst hbl hd hf => stp_geq (hd 0 16 rfl rfl) rfl ⟨Below.refl _ _, congrArg Value.bool h13⟩), (fun f W hst hbl hd hf => stp_move (v := .bool true) (hd 1 17 rfl rfl) ⟨Below.refl _ _, rfl⟩), (fun f W hst hbl hd hf => stp_move (v := v) ((hf 0 rfl).trans hs12_0) ⟨Below.refl _ _, rfl⟩), (fun f W hst hbl hd hf => stp_move (v := I ((c0 : Int) - 1)) ((hf 7 rfl).trans hs12_7) ⟨Below.refl _ _, rfl⟩), (fun f W hst hbl hd hf => stp_indexAddr sl_DeedS (hd 3 19 rfl rfl) hp95 (hd 4 20 rfl rfl) (by omega) ⟨Below.refl _ _, rfl⟩), (fun f W hst hbl hd hf => stp_fieldAddr fa_Deed_0 (hd 5 21 rfl rfl) ⟨Below.refl _ _, rfl⟩), (fun f W hst hbl hd hf => stp_load_rg ld_int rfl (hd 6 22 rfl rfl) hr95 hst.below (i := 0) rfl rfl ⟨Below.refl _ _, rfl⟩), (fun f W hst hbl hd hf => stp_neq (hd 7 23 rfl rfl) rfl ⟨Below.refl _ _, congrArg Value.bool h23⟩), (fun f W hst hbl hd hf => stp_move (v := .bool true) (hd 8 24 rfl rfl) ⟨Below.refl _ _, rfl⟩), (fun f W hst hbl hd hf => rfl), (fun f W hst hbl hd hf => rfl), (fun f W hst hbl hd hf => rfl), (fun f W hst hbl hd hf => rfl), (fun f W hst hbl hd hf => rfl), (fun f W hst hbl hd hf => rfl), (fun f W hst hbl hd hf => rfl), (fun f W hst hbl hd hf => rfl), (fun f W hst hbl hd hf => stp_pick_t (v := .bool true) (hd 9 25 rfl rfl) rfl ⟨Below.refl _ _, rfl⟩), (fun f W hst hbl hd hf => stp_move (v := .bool true) (hd 18 34 rfl rfl) ⟨Below.refl _ _, rfl⟩), (fun f W hst hbl hd hf => rfl), (fun f W hst hbl hd hf => rfl), (fun f W hst hbl hd hf => rfl), (fun f W hst hbl hd hf => rfl), (fun f W hst hbl hd hf => rfl), (fun f W hst hbl hd hf => rfl), (fun f W hst hbl hd hf => stp_pick_t (v := .bool true) (hd 19 35 rfl rfl) rfl ⟨Below.refl _ _, rfl⟩), (fun f W hst hbl hd hf => stp_pick_t (v := .bool true) (hd 2 18 rfl rfl) (hd 26 42 rfl rfl) ⟨Below.refl _ _, rfl⟩), trivial⟩ ?_
      intro f97 W98 st99 hb100 hv101 hf102
      refine sx_t (hv101 27 43 (by decide) rfl) rfl ?_
      refine wp_skip ?_
      refine wp_block ?_
      refine sx_region ?_
      refine sx rfl (stp_move (v := I ((c0 : Int) - 1)) ((hf102 7 rfl).trans hs12_7) ?_)
      refine sx rfl (stp_sub rfl rfl (by (simp only [I64] at *; omega)) ?_)
      refine sx rfl (stp_assign (v := I (((c0 : Int) - 1) - 1)) rfl ?_)
      refine sx_nil ?_
      exact ⟨_, 1 + (c0 - 1), (by omega), rfl, c0 - 1, (by rw [show c0 - 1 = ((c0 : Int) - 1).toNat by omega, ← lastSub_f (k := ((c0 : Int) - 1).toNat) (by rw [subAt_eq (by omega) (by omega)]; simp only [decide_true, decide_false, Bool.and_true, Bool.true_and, Bool.and_false, Bool.false_and, Bool.or_false, Bool.or_true, Bool.false_or, Bool.true_or, h23p]), show ((c0 : Int) - 1).toNat + 1 = c0 by omega]; exact hL), (by omega), rfl, ((hf102 0 rfl).trans hs12_0), ((hf102 1 rfl).trans hs12_1), ((hf102 5 rfl).trans hs12_5), (Eq.trans (show _ = I (((c0 : Int) - 1) - 1) from rfl) (congrArg I (by omega))), st99⟩
set_option maxHeartbeats 2000000 in
theorem EarlyS (w : World) {v u : Value} {ds : List Deed} {rs : List Reply} {fp gp : List Nat} (h : Sl w v ds fp) (g : Sl w u rs gp) {cs : List Value} {x : Hand} {fq : List Nat} (hc : Shape.C w cs x fq) (ha : 0 ≤ x.at_ ∧ x.at_ ≤ ds.length ∧ x.at_ ≤ rs.length) :
    Calls Try.prog 19 #[v, u, .agg cs.toArray] w fun e w' => e = .returned (.bool (early ds rs x)) ∧ St w w' [] := by
  have hcap := h.len_le
  have hcap2 := g.len_le
  refine enter3 Try.func19 rfl Try.ntmps19 (by decide) ?_
  refine wp_seq ?_
  refine sx_region ?_
  refine sx rfl (stp_box_agg (cs := cs) rfl (St.start w) ?_); intro b1 W2 hb3 st4
  refine sx rfl (stp_assign (v := .bool false) rfl ?_)
  refine sx_nil ?_
  refine wp_seq ?_
  refine sx_region ?_
  refine sx rfl (stp_assign (v := I (-1)) rfl ?_)
  refine sx_nil ?_
  refine wp_seq ?_
  refine wp_seq ?_
  refine sx_region ?_
  refine sx rfl (stp_assign (v := I 0) rfl ?_)
  refine sx_nil ?_
  refine wp_block ?_
  refine sx_loop (fun (m : Nat) (f : Nat → Value) (W : World) => ∃ (c0 : Nat), c0 ≤ x.at_.toNat ∧ m = x.at_.toNat - c0 ∧ f 0 = v ∧ f 1 = u ∧ f 5 = .pointer (some ⟨b1, 0, none⟩) ∧ f 7 = I (lastSub ds rs x.run c0) ∧ f 8 = I (c0 : Int) ∧ St w W ([Res.bx b1 cs 49])) (x.at_.toNat - 0) ?_ ?_
  · exact ⟨0, (by omega), rfl, rfl, rfl, rfl, rfl, rfl, st4⟩
  intro m6 f7 W8 hJ9
  obtain ⟨c0, hm, rfl, hs11_0, hs11_1, hs11_5, hs11_7, hs11_8, st10⟩ := hJ9
  refine wp_seq ?_
  refine wp_seq ?_
  refine sx_region ?_
  refine sx rfl (stp_move (v := I (c0 : Int)) hs11_8 ?_)
  refine sx rfl (stp_fieldAddr fa_Hand_3 hs11_5 ?_)
  have hk12 := hc
  obtain ⟨he12, rfl, hok12⟩ := hk12
  have he12 : _ = [I x.run, I x.task, I x.try_, I x.at_] := he12
  subst he12
  refine sx rfl (stp_load_bx ld_int rfl rfl (st10.get 0 rfl) (i := 3) rfl rfl ?_)
  refine sx rfl (stp_lss rfl rfl ?_)
  refine sx_nil ?_
  refine sx_if rfl (fun h13 => ?_) (fun h13 => ?_)
  · skip
    have h13p := of_decide_eq_true h13
    refine wp_skip ?_
    refine wp_seq ?_
    refine wp_block ?_
    refine wp_seq ?_
    have hi8dbe0 : c0 < ds.length := (by omega)
    rcases bd (decide ((ds[c0]'hi8dbe0).kind = 1)) with h16 | h16
    · skip
      have h16p := of_decide_eq_false h16
      have hi8dbe0 : c0 < ds.length := (by omega)
      have hq_ := idx h (i := c0) hi8dbe0
      obtain ⟨b17, o17, cs17, f17, hp17, hr17, hc17, hm17⟩ := hq_
      have hk18 := hc17
      obtain ⟨v18_0, g18_0, rfl, hok18, h18_0, rfl⟩ := hk18
      refine sx_any [Pl.is (v) (Sl.yl h), Pl.is (I (c0 : Int)), Pl.is (.pointer (some ⟨b17, o17, none⟩)), Pl.is (.pointer (some ⟨b17, o17 + 0, none⟩)), Pl.is (I (ds[c0]'hi8dbe0).kind), Pl.bool false, Pl.bool false, Pl.off, Pl.off, Pl.off, Pl.off, Pl.off, Pl.off, Pl.off, Pl.off, Pl.bool false, Pl.bool false, Pl.off, Pl.off, Pl.off, Pl.off, Pl.off, Pl.off, Pl.bool false] mix (by rfl) st10 ⟨(fun f W hst hbl hd hf => stp_move (v := v) ((hf 0 rfl).trans hs11_0) ⟨Below.refl _ _, rfl⟩), (fun f W hst hbl hd hf => stp_move (v := I (c0 : Int)) ((hf 8 rfl).trans hs11_8) ⟨Below.refl _ _, rfl⟩), (fun f W hst hbl hd hf => stp_indexAddr sl_DeedS (hd 0 19 rfl rfl) hp17 (hd 1 20 rfl rfl) rfl ⟨Below.refl _ _, rfl⟩), (fun f W hst hbl hd hf => stp_fieldAddr fa_Deed_0 (hd 2 21 rfl rfl) ⟨Below.refl _ _, rfl⟩), (fun f W hst hbl hd hf => stp_load_rg ld_int rfl (hd 3 22 rfl rfl) hr17 hst.below (i := 0) rfl rfl ⟨Below.refl _ _, rfl⟩), (fun f W hst hbl hd hf => stp_eql (hd 4 23 rfl rfl) rfl ⟨Below.refl _ _, congrArg Value.bool h16⟩), (fun f W hst hbl hd hf => stp_move (v := .bool false) (hd 5 24 rfl rfl) ⟨Below.refl _ _, rfl⟩), (fun f W hst hbl hd hf => rfl), (fun f W hst hbl hd hf => rfl), (fun f W hst hbl hd hf => rfl), (fun f W hst hbl hd hf => rfl), (fun f W hst hbl hd hf => rfl), (fun f W hst hbl hd hf => rfl), (fun f W hst hbl hd hf => rfl), (fun f W hst hbl hd hf => rfl), (fun f W hst hbl hd hf => stp_pick_f (v := .bool false) (hd 6 25 rfl rfl) rfl ⟨Below.refl _ _, rfl⟩), (fun f W hst hbl hd hf => stp_move (v := .bool false) (hd 15 34 rfl rfl) ⟨Below.refl _ _, rfl⟩), (fun f W hst hbl hd hf => rfl), (fun f W hst hbl hd hf => rfl), (fun f W hst hbl hd hf => rfl), (fun f W hst hbl hd hf => rfl), (fun f W hst hbl hd hf => rfl), (fun f W hst hbl hd hf => rfl), (fun f W hst hbl hd hf => stp_pick_f (v := .bool false) (hd 16 35 rfl rfl) rfl ⟨Below.refl _ _, rfl⟩), trivial⟩ ?_
      intro f19 W20 st21 hb22 hv23 hf24
      refine sx_f (hv23 23 42 (by decide) rfl) rfl ?_
      refine wp_skip ?_
      refine sx_region ?_
      refine sx rfl (stp_move (v := I (c0 : Int)) ((hf24 8 rfl).trans hs11_8) ?_)
      refine sx rfl (stp_add rfl rfl (by (simp only [I64] at *; omega)) ?_)
      refine sx rfl (stp_assign (v := I ((c0 : Int) + 1)) rfl ?_)
      refine sx_nil ?_
      exact ⟨_, x.at_.toNat - (c0 + 1), (by omega), rfl, c0 + 1, (by omega), rfl, ((hf24 0 rfl).trans hs11_0), ((hf24 1 rfl).trans hs11_1), ((hf24 5 rfl).trans hs11_5), (Eq.trans (show _ = I (lastSub ds rs x.run c0) from ((hf24 7 rfl).trans hs11_7)) (congrArg I (by rw [lastSub_f (by rw [subAt_eq (by omega) (by omega)]; simp only [decide_true, decide_false, Bool.and_true, Bool.true_and, Bool.and_false, Bool.false_and, Bool.or_false, Bool.or_true, Bool.false_or, Bool.true_or, h16p])]))), rfl, st21⟩
    · skip
      have h16p := of_decide_eq_true h16
      have hi8dbe0 : c0 < ds.length := (by omega)
      rcases bd (decide ((ds[c0]'hi8dbe0).run = x.run)) with h27 | h27
      · skip
        have h27p := of_decide_eq_false h27
        have hi8dbe0 : c0 < ds.length := (by omega)
        have hq_ := idx h (i := c0) hi8dbe0
        obtain ⟨b28, o28, cs28, f28, hp28, hr28, hc28, hm28⟩ := hq_
        have hk29 := hc28
        obtain ⟨v29_0, g29_0, rfl, hok29, h29_0, rfl⟩ := hk29
        refine sx_any [Pl.is (v) (Sl.yl h), Pl.is (I (c0 : Int)), Pl.is (.pointer (some ⟨b28, o28, none⟩)), Pl.is (.pointer (some ⟨b28, o28 + 0, none⟩)), Pl.is (I (ds[c0]'hi8dbe0).kind), Pl.bool true, Pl.bool true, Pl.is (v) (Sl.yl h), Pl.is (I (c0 : Int)), Pl.is (.pointer (some ⟨b28, o28, none⟩)), Pl.is (.pointer (some ⟨b28, o28 + 1, none⟩)), Pl.is (I (ds[c0]'hi8dbe0).run), Pl.is (.pointer (some ⟨b1, 0 + 0, none⟩)), Pl.is (I x.run), Pl.bool false, Pl.bool false, Pl.bool false, Pl.off, Pl.off, Pl.off, Pl.off, Pl.off, Pl.off, Pl.bool false] mix (by rfl) st10 ⟨(fun f W hst hbl hd hf => stp_move (v := v) ((hf 0 rfl).trans hs11_0) ⟨Below.refl _ _, rfl⟩), (fun f W hst hbl hd hf => stp_move (v := I (c0 : Int)) ((hf 8 rfl).trans hs11_8) ⟨Below.refl _ _, rfl⟩), (fun f W hst hbl hd hf => stp_indexAddr sl_DeedS (hd 0 19 rfl rfl) hp28 (hd 1 20 rfl rfl) rfl ⟨Below.refl _ _, rfl⟩), (fun f W hst hbl hd hf => stp_fieldAddr fa_Deed_0 (hd 2 21 rfl rfl) ⟨Below.refl _ _, rfl⟩), (fun f W hst hbl hd hf => stp_load_rg ld_int rfl (hd 3 22 rfl rfl) hr28 hst.below (i := 0) rfl rfl ⟨Below.refl _ _, rfl⟩), (fun f W hst hbl hd hf => stp_eql (hd 4 23 rfl rfl) rfl ⟨Below.refl _ _, congrArg Value.bool h16⟩), (fun f W hst hbl hd hf => stp_move (v := .bool true) (hd 5 24 rfl rfl) ⟨Below.refl _ _, rfl⟩), (fun f W hst hbl hd hf => stp_move (v := v) ((hf 0 rfl).trans hs11_0) ⟨Below.refl _ _, rfl⟩), (fun f W hst hbl hd hf => stp_move (v := I (c0 : Int)) ((hf 8 rfl).trans hs11_8) ⟨Below.refl _ _, rfl⟩), (fun f W hst hbl hd hf => stp_indexAddr sl_DeedS (hd 7 26 rfl rfl) hp28 (hd 8 27 rfl rfl) rfl ⟨Below.refl _ _, rfl⟩), (fun f W hst hbl hd hf => stp_fieldAddr fa_Deed_1 (hd 9 28 rfl rfl) ⟨Below.refl _ _, rfl⟩), (fun f W hst hbl hd hf => stp_load_rg ld_int rfl (hd 10 29 rfl rfl) hr28 hst.below (i := 1) rfl rfl ⟨Below.refl _ _, rfl⟩), (fun f W hst hbl hd hf => stp_fieldAddr fa_Hand_0 ((hf 5 rfl).trans hs11_5) ⟨Below.refl _ _, rfl⟩), (fun f W hst hbl hd hf => stp_load_bx ld_int rfl (hd 12 31 rfl rfl) (hst.get 0 rfl) (i := 0) rfl rfl ⟨Below.refl _ _, rfl⟩), (fun f W hst hbl hd hf => stp_eql (hd 11 30 rfl rfl) (hd 13 32 rfl rfl) ⟨Below.refl _ _, congrArg Value.bool h27⟩), (fun f W hst hbl hd hf => stp_pick_t (v := .bool false) (hd 6 25 rfl rfl) (hd 14 33 rfl rfl) ⟨Below.refl _ _, rfl⟩), (fun f W hst hbl hd hf => stp_move (v := .bool false) (hd 15 34 rfl rfl) ⟨Below.refl _ _, rfl⟩), (fun f W hst hbl hd hf => rfl), (fun f W hst hbl hd hf => rfl), (fun f W hst hbl hd hf => rfl), (fun f W hst hbl hd hf => rfl), (fun f W hst hbl hd hf => rfl), (fun f W hst hbl hd hf => rfl), (fun f W hst hbl hd hf => stp_pick_f (v := .bool false) (hd 16 35 rfl rfl) rfl ⟨Below.refl _ _, rfl⟩), trivial⟩ ?_
        intro f30 W31 st32 hb33 hv34 hf35
        refine sx_f (hv34 23 42 (by decide) rfl) rfl ?_
        refine wp_skip ?_
        refine sx_region ?_
        refine sx rfl (stp_move (v := I (c0 : Int)) ((hf35 8 rfl).trans hs11_8) ?_)
        refine sx rfl (stp_add rfl rfl (by (simp only [I64] at *; omega)) ?_)
        refine sx rfl (stp_assign (v := I ((c0 : Int) + 1)) rfl ?_)
        refine sx_nil ?_
        exact ⟨_, x.at_.toNat - (c0 + 1), (by omega), rfl, c0 + 1, (by omega), rfl, ((hf35 0 rfl).trans hs11_0), ((hf35 1 rfl).trans hs11_1), ((hf35 5 rfl).trans hs11_5), (Eq.trans (show _ = I (lastSub ds rs x.run c0) from ((hf35 7 rfl).trans hs11_7)) (congrArg I (by rw [lastSub_f (by rw [subAt_eq (by omega) (by omega)]; simp only [decide_true, decide_false, Bool.and_true, Bool.true_and, Bool.and_false, Bool.false_and, Bool.or_false, Bool.or_true, Bool.false_or, Bool.true_or, h16p, h27p])]))), rfl, st32⟩
      · skip
        have h27p := of_decide_eq_true h27
        have hi8dbe0 : c0 < ds.length := (by omega)
        have hq_ := idx h (i := c0) hi8dbe0
        obtain ⟨b36, o36, cs36, f36, hp36, hr36, hc36, hm36⟩ := hq_
        have hk37 := hc36
        obtain ⟨v37_0, g37_0, rfl, hok37, h37_0, rfl⟩ := hk37
        have hi611d2 : c0 < rs.length := (by omega)
        have hq_ := idx g (i := c0) hi611d2
        obtain ⟨b38, o38, cs38, f38, hp38, hr38, hc38, hm38⟩ := hq_
        have hk39 := hc38
        obtain ⟨he39, rfl, hok39⟩ := hk39
        have he39 : _ = [I (rs[c0]'hi611d2).code, I (rs[c0]'hi611d2).run, I (rs[c0]'hi611d2).task, I (rs[c0]'hi611d2).try_] := he39
        subst he39
        refine sx_any [Pl.is (v) (Sl.yl h), Pl.is (I (c0 : Int)), Pl.is (.pointer (some ⟨b36, o36, none⟩)), Pl.is (.pointer (some ⟨b36, o36 + 0, none⟩)), Pl.is (I (ds[c0]'hi8dbe0).kind), Pl.bool true, Pl.bool true, Pl.is (v) (Sl.yl h), Pl.is (I (c0 : Int)), Pl.is (.pointer (some ⟨b36, o36, none⟩)), Pl.is (.pointer (some ⟨b36, o36 + 1, none⟩)), Pl.is (I (ds[c0]'hi8dbe0).run), Pl.is (.pointer (some ⟨b1, 0 + 0, none⟩)), Pl.is (I x.run), Pl.bool true, Pl.bool true, Pl.bool true, Pl.is (u) (Sl.yl g), Pl.is (I (c0 : Int)), Pl.is (.pointer (some ⟨b38, o38, none⟩)), Pl.is (.pointer (some ⟨b38, o38 + 0, none⟩)), Pl.is (I (rs[c0]'hi611d2).code), Pl.bool (decide ((rs[c0]'hi611d2).code = 0)), Pl.bool (decide ((rs[c0]'hi611d2).code = 0))] mix (by rfl) st10 ⟨(fun f W hst hbl hd hf => stp_move (v := v) ((hf 0 rfl).trans hs11_0) ⟨Below.refl _ _, rfl⟩), (fun f W hst hbl hd hf => stp_move (v := I (c0 : Int)) ((hf 8 rfl).trans hs11_8) ⟨Below.refl _ _, rfl⟩), (fun f W hst hbl hd hf => stp_indexAddr sl_DeedS (hd 0 19 rfl rfl) hp36 (hd 1 20 rfl rfl) rfl ⟨Below.refl _ _, rfl⟩), (fun f W hst hbl hd hf => stp_fieldAddr fa_Deed_0 (hd 2 21 rfl rfl) ⟨Below.refl _ _, rfl⟩), (fun f W hst hbl hd hf => stp_load_rg ld_int rfl (hd 3 22 rfl rfl) hr36 hst.below (i := 0) rfl rfl ⟨Below.refl _ _, rfl⟩), (fun f W hst hbl hd hf => stp_eql (hd 4 23 rfl rfl) rfl ⟨Below.refl _ _, congrArg Value.bool h16⟩), (fun f W hst hbl hd hf => stp_move (v := .bool true) (hd 5 24 rfl rfl) ⟨Below.refl _ _, rfl⟩), (fun f W hst hbl hd hf => stp_move (v := v) ((hf 0 rfl).trans hs11_0) ⟨Below.refl _ _, rfl⟩), (fun f W hst hbl hd hf => stp_move (v := I (c0 : Int)) ((hf 8 rfl).trans hs11_8) ⟨Below.refl _ _, rfl⟩), (fun f W hst hbl hd hf => stp_indexAddr sl_DeedS (hd 7 26 rfl rfl) hp36 (hd 8 27 rfl rfl) rfl ⟨Below.refl _ _, rfl⟩), (fun f W hst hbl hd hf => stp_fieldAddr fa_Deed_1 (hd 9 28 rfl rfl) ⟨Below.refl _ _, rfl⟩), (fun f W hst hbl hd hf => stp_load_rg ld_int rfl (hd 10 29 rfl rfl) hr36 hst.below (i := 1) rfl rfl ⟨Below.refl _ _, rfl⟩), (fun f W hst hbl hd hf => stp_fieldAddr fa_Hand_0 ((hf 5 rfl).trans hs11_5) ⟨Below.refl _ _, rfl⟩), (fun f W hst hbl hd hf => stp_load_bx ld_int rfl (hd 12 31 rfl rfl) (hst.get 0 rfl) (i := 0) rfl rfl ⟨Below.refl _ _, rfl⟩), (fun f W hst hbl hd hf => stp_eql (hd 11 30 rfl rfl) (hd 13 32 rfl rfl) ⟨Below.refl _ _, congrArg Value.bool h27⟩), (fun f W hst hbl hd hf => stp_pick_t (v := .bool true) (hd 6 25 rfl rfl) (hd 14 33 rfl rfl) ⟨Below.refl _ _, rfl⟩), (fun f W hst hbl hd hf => stp_move (v := .bool true) (hd 15 34 rfl rfl) ⟨Below.refl _ _, rfl⟩), (fun f W hst hbl hd hf => stp_move (v := u) ((hf 1 rfl).trans hs11_1) ⟨Below.refl _ _, rfl⟩), (fun f W hst hbl hd hf => stp_move (v := I (c0 : Int)) ((hf 8 rfl).trans hs11_8) ⟨Below.refl _ _, rfl⟩), (fun f W hst hbl hd hf => stp_indexAddr sl_ReplyS (hd 17 36 rfl rfl) hp38 (hd 18 37 rfl rfl) rfl ⟨Below.refl _ _, rfl⟩), (fun f W hst hbl hd hf => stp_fieldAddr fa_Reply_0 (hd 19 38 rfl rfl) ⟨Below.refl _ _, rfl⟩), (fun f W hst hbl hd hf => stp_load_rg ld_int rfl (hd 20 39 rfl rfl) hr38 hst.below (i := 0) rfl rfl ⟨Below.refl _ _, rfl⟩), (fun f W hst hbl hd hf => stp_eql (hd 21 40 rfl rfl) rfl ⟨Below.refl _ _, rfl⟩), (fun f W hst hbl hd hf => stp_pick_t (v := .bool (decide ((rs[c0]'hi611d2).code = 0))) (hd 16 35 rfl rfl) (hd 22 41 rfl rfl) ⟨Below.refl _ _, rfl⟩), trivial⟩ ?_
        intro f40 W41 st42 hb43 hv44 hf45
        refine sx_if (hv44 23 42 (by decide) rfl) (fun h46 => ?_) (fun h46 => ?_)
        · skip
          have h46p := of_decide_eq_true h46
          refine sx_region ?_
          refine sx rfl (stp_move (v := I (c0 : Int)) ((hf45 8 rfl).trans hs11_8) ?_)
          refine sx rfl (stp_assign (v := I (c0 : Int)) rfl ?_)
          refine sx_nil ?_
          refine sx_region ?_
          refine sx rfl (stp_move (v := I (c0 : Int)) ((hf45 8 rfl).trans hs11_8) ?_)
          refine sx rfl (stp_add rfl rfl (by (simp only [I64] at *; omega)) ?_)
          refine sx rfl (stp_assign (v := I ((c0 : Int) + 1)) rfl ?_)
          refine sx_nil ?_
          exact ⟨_, x.at_.toNat - (c0 + 1), (by omega), rfl, c0 + 1, (by omega), rfl, ((hf45 0 rfl).trans hs11_0), ((hf45 1 rfl).trans hs11_1), ((hf45 5 rfl).trans hs11_5), (Eq.trans (show _ = I (c0 : Int) from rfl) (congrArg I (by rw [lastSub_t (by rw [subAt_eq (by omega) (by omega)]; simp only [decide_true, decide_false, Bool.and_true, Bool.true_and, Bool.and_false, Bool.false_and, Bool.or_false, Bool.or_true, Bool.false_or, Bool.true_or, h16p, h27p, h46p])]))), rfl, st42⟩
        · skip
          have h46p := of_decide_eq_false h46
          refine wp_skip ?_
          refine sx_region ?_
          refine sx rfl (stp_move (v := I (c0 : Int)) ((hf45 8 rfl).trans hs11_8) ?_)
          refine sx rfl (stp_add rfl rfl (by (simp only [I64] at *; omega)) ?_)
          refine sx rfl (stp_assign (v := I ((c0 : Int) + 1)) rfl ?_)
          refine sx_nil ?_
          exact ⟨_, x.at_.toNat - (c0 + 1), (by omega), rfl, c0 + 1, (by omega), rfl, ((hf45 0 rfl).trans hs11_0), ((hf45 1 rfl).trans hs11_1), ((hf45 5 rfl).trans hs11_5), (Eq.trans (show _ = I (lastSub ds rs x.run c0) from ((hf45 7 rfl).trans hs11_7)) (congrArg I (by rw [lastSub_f (by rw [subAt_eq (by omega) (by omega)]; simp only [decide_true, decide_false, Bool.and_true, Bool.true_and, Bool.and_false, Bool.false_and, Bool.or_false, Bool.or_true, Bool.false_or, Bool.true_or, h16p, h27p, h46p])]))), rfl, st42⟩
  · skip
    have h13p := of_decide_eq_false h13
    refine wp_exit ?_
    refine wp_seq ?_
    refine wp_seq ?_
    refine sx_region ?_
    refine sx rfl (stp_move (v := I (lastSub ds rs x.run c0)) hs11_7 ?_)
    refine sx rfl (stp_lss rfl rfl ?_)
    refine sx_nil ?_
    refine sx_if rfl (fun h47 => ?_) (fun h47 => ?_)
    · skip
      have h47p := of_decide_eq_true h47
      refine wp_seq ?_
      refine sx_region ?_
      refine sx rfl (stp_assign (v := .bool true) rfl ?_)
      refine sx_nil ?_
      refine wp_ret ?_; repeat (first | refine then_ret ?_ | refine blk_ret ?_)
      refine ret1 Try.results19 rfl ?_
      exact ⟨(congrArg (fun z => Ending.returned (.bool z)) (by rw [early_neg (by rw [show x.at_.toNat = c0 by omega]; omega)])), st10.bare⟩
    · skip
      have h47p := of_decide_eq_false h47
      refine wp_skip ?_
      refine wp_seq ?_
      have hll := lastSub_lt ds rs x.run c0
      have hc0 : c0 = x.at_.toNat := by omega
      have hj : lastSub ds rs x.run x.at_.toNat = (((lastSub ds rs x.run c0).toNat : Nat) : Int) := by rw [← hc0]; omega
      have h0t : ∀ b, toldTo ds rs x.run b ((lastSub ds rs x.run c0).toNat) ((lastSub ds rs x.run c0).toNat) = false := fun b => toldTo_lo _ (Nat.le_refl _)
      have hic8253 : (lastSub ds rs x.run c0).toNat < ds.length := (by omega)
      have hq_ := idx h (i := (lastSub ds rs x.run c0).toNat) hic8253
      obtain ⟨b48, o48, cs48, f48, hp48, hr48, hc48, hm48⟩ := hq_
      have hk49 := hc48
      obtain ⟨v49_0, g49_0, rfl, hok49, h49_0, rfl⟩ := hk49
      refine sx_any [Pl.is (v) (Sl.yl h), Pl.is (I (lastSub ds rs x.run c0)), Pl.is (.pointer (some ⟨b48, o48, none⟩)), Pl.is (.pointer (some ⟨b48, o48 + 2, none⟩)), Pl.is (.agg #[I (ds[(lastSub ds rs x.run c0).toNat]'hic8253).plan.prio, I (ds[(lastSub ds rs x.run c0).toNat]'hic8253).plan.most, I (ds[(lastSub ds rs x.run c0).toNat]'hic8253).plan.wait, I (ds[(lastSub ds rs x.run c0).toNat]'hic8253).plan.tasks, v49_0]), Pl.is (.pointer (some ⟨b1, 0 + 1, none⟩)), Pl.is (I x.task), Pl.ssl (α := Int) (beforeOf (ds[(lastSub ds rs x.run c0).toNat]'hic8253).plan x.task), Pl.ssl (α := Int) (beforeOf (ds[(lastSub ds rs x.run c0).toNat]'hic8253).plan x.task)] mix (by rfl) st10 ⟨(fun f W hst hbl hd hf => stp_move (v := v) ((hf 0 rfl).trans hs11_0) ⟨Below.refl _ _, rfl⟩), (fun f W hst hbl hd hf => stp_move (v := I (lastSub ds rs x.run c0)) ((hf 7 rfl).trans hs11_7) ⟨Below.refl _ _, rfl⟩), (fun f W hst hbl hd hf => stp_indexAddr sl_DeedS (hd 0 46 rfl rfl) hp48 (hd 1 47 rfl rfl) (by omega) ⟨Below.refl _ _, rfl⟩), (fun f W hst hbl hd hf => stp_fieldAddr fa_Deed_2 (hd 2 48 rfl rfl) ⟨Below.refl _ _, rfl⟩), (fun f W hst hbl hd hf => stp_load_rgs (cs := [I (ds[(lastSub ds rs x.run c0).toNat]'hic8253).plan.prio, I (ds[(lastSub ds rs x.run c0).toNat]'hic8253).plan.most, I (ds[(lastSub ds rs x.run c0).toNat]'hic8253).plan.wait, I (ds[(lastSub ds rs x.run c0).toNat]'hic8253).plan.tasks, v49_0]) ld_Plan rfl (hd 3 49 rfl rfl) hr48 hst.below (i := 2) rfl rfl rfl ⟨Below.refl _ _, rfl⟩), (fun f W hst hbl hd hf => stp_fieldAddr fa_Hand_1 ((hf 5 rfl).trans hs11_5) ⟨Below.refl _ _, rfl⟩), (fun f W hst hbl hd hf => stp_load_bx ld_int rfl (hd 5 51 rfl rfl) (hst.get 0 rfl) (i := 1) rfl rfl ⟨Below.refl _ _, rfl⟩), (fun f W hst hbl hd hf => stp_call2 Try.func28 rfl (hd 4 50 rfl rfl) (hd 6 52 rfl rfl) ((BeforeOfS W (show Shape.C _ [I (ds[(lastSub ds rs x.run c0).toNat]'hic8253).plan.prio, I (ds[(lastSub ds rs x.run c0).toNat]'hic8253).plan.most, I (ds[(lastSub ds rs x.run c0).toNat]'hic8253).plan.wait, I (ds[(lastSub ds rs x.run c0).toNat]'hic8253).plan.tasks, v49_0] (ds[(lastSub ds rs x.run c0).toNat]'hic8253).plan _ from ⟨_, _, rfl, (by first | exact True.intro | (simp only [Edge.ok, Plan.ok, Entry.ok, Task.ok, Run.ok, Yard.ok, Reply.ok, Deed.ok, Note.ok, Wait.ok, File.ok, Disk.ok, Engine.ok, WorldD.ok, ActD.ok, Hand.ok, Span.ok, Crew.ok, View.ok, I64] at *; omega)), (h49_0.below hst.below), rfl⟩) x.task).mono (by rintro e W2 ⟨v, fp, rfl, hk⟩; exact ⟨_, rfl, hk.below, fp, own_Sl (hk.get 0 rfl)⟩))), (fun f W hst hbl hd hf => by obtain ⟨fp52, h52⟩ := hd 7 53 rfl rfl; exact stp_assign (v := (f 53)) rfl ⟨Below.refl _ _, _, h52⟩), trivial⟩ ?_
      intro f54 W55 st56 hb57 hv58 hf59
      have hq_ := hv58 7 53 (by decide) rfl
      obtain ⟨fp60, h60⟩ := hq_
      have hq_ := hv58 8 9 (by decide) rfl
      obtain ⟨fp61, h61⟩ := hq_
      refine wp_seq ?_
      refine wp_seq ?_
      refine sx_region ?_
      refine sx rfl (stp_assign (v := I 0) rfl ?_)
      refine sx_nil ?_
      refine wp_block ?_
      refine sx_loop (fun (m : Nat) (f : Nat → Value) (W : World) => ∃ (k : Nat), k ≤ (beforeOf (ds[(lastSub ds rs x.run c0).toNat]'(by omega)).plan x.task).length ∧ ((beforeOf (ds[(lastSub ds rs x.run c0).toNat]'(by omega)).plan x.task).take k).any (fun b => !toldTo ds rs x.run b ((lastSub ds rs x.run c0).toNat) x.at_.toNat) = false ∧ m = (beforeOf (ds[(lastSub ds rs x.run c0).toNat]'(by omega)).plan x.task).length - k ∧ f 0 = v ∧ f 1 = u ∧ f 5 = .pointer (some ⟨b1, 0, none⟩) ∧ f 7 = I (lastSub ds rs x.run c0) ∧ f 9 = (f54 9) ∧ f 10 = I (k : Int) ∧ St W55 W ([])) ((beforeOf (ds[(lastSub ds rs x.run c0).toNat]'(by omega)).plan x.task).length - 0) ?_ ?_
      · exact ⟨0, (by omega), rfl, rfl, ((hf59 0 rfl).trans hs11_0), ((hf59 1 rfl).trans hs11_1), ((hf59 5 rfl).trans hs11_5), ((hf59 7 rfl).trans hs11_7), rfl, rfl, (St.start W55)⟩
      intro m62 f63 W64 hJ65
      obtain ⟨k, hk, hany, rfl, hs67_0, hs67_1, hs67_5, hs67_7, hs67_9, hs67_10, st66⟩ := hJ65
      have hbl := before_len (ds[(lastSub ds rs x.run c0).toNat]'(by omega)).plan x.task
      refine wp_seq ?_
      refine wp_seq ?_
      refine sx_region ?_
      refine sx rfl (stp_move (v := I (k : Int)) hs67_10 ?_)
      refine sx rfl (stp_move (v := (f54 9)) hs67_9 ?_)
      refine sx rfl (stp_len sl_IntS rfl h61 ?_)
      refine sx rfl (stp_lss rfl rfl ?_)
      refine sx_nil ?_
      refine sx_if rfl (fun h68 => ?_) (fun h68 => ?_)
      · skip
        have h68p := of_decide_eq_true h68
        refine wp_skip ?_
        refine wp_seq ?_
        refine wp_block ?_
        refine wp_seq ?_
        refine sx_region ?_
        refine sx rfl (stp_assign (v := .bool false) rfl ?_)
        refine sx_nil ?_
        refine wp_seq ?_
        refine wp_seq ?_
        refine sx_region ?_
        refine sx rfl (stp_move (v := I (lastSub ds rs x.run c0)) hs67_7 ?_)
        refine sx rfl (stp_assign (v := I (lastSub ds rs x.run c0)) rfl ?_)
        refine sx_nil ?_
        refine wp_block ?_
        refine sx_loop (fun (m : Nat) (f : Nat → Value) (W : World) => ∃ (i : Nat), (lastSub ds rs x.run c0).toNat ≤ i ∧ i ≤ x.at_.toNat ∧ m = x.at_.toNat - i ∧ f 0 = v ∧ f 1 = u ∧ f 5 = .pointer (some ⟨b1, 0, none⟩) ∧ f 7 = I (lastSub ds rs x.run c0) ∧ f 9 = (f54 9) ∧ f 10 = I (k : Int) ∧ f 11 = .bool (toldTo ds rs x.run ((beforeOf (ds[(lastSub ds rs x.run c0).toNat]'(by omega)).plan x.task)[k]'(by omega)) ((lastSub ds rs x.run c0).toNat) i) ∧ f 12 = I (i : Int) ∧ St W55 W ([])) (x.at_.toNat - (lastSub ds rs x.run c0).toNat) ?_ ?_
        · exact ⟨(lastSub ds rs x.run c0).toNat, (by omega), (by omega), rfl, hs67_0, hs67_1, hs67_5, hs67_7, hs67_9, hs67_10, (Eq.trans (show _ = (.bool false : Value) from rfl) (congrArg Value.bool (h0t _).symm)), (Eq.trans (show _ = I (lastSub ds rs x.run c0) from rfl) (congrArg I (by omega))), st66⟩
        intro m69 f70 W71 hJ72
        obtain ⟨i, hi0, hi, rfl, hs74_0, hs74_1, hs74_5, hs74_7, hs74_9, hs74_10, hs74_11, hs74_12, st73⟩ := hJ72
        refine wp_seq ?_
        refine wp_seq ?_
        refine sx_region ?_
        refine sx rfl (stp_move (v := I (i : Int)) hs74_12 ?_)
        refine sx rfl (stp_fieldAddr fa_Hand_3 hs74_5 ?_)
        refine sx rfl (stp_load_rg ld_int rfl rfl (range_of_heap (st56.get 0 rfl)) st73.below (i := 3) rfl rfl ?_)
        refine sx rfl (stp_lss rfl rfl ?_)
        refine sx_nil ?_
        refine sx_if rfl (fun h75 => ?_) (fun h75 => ?_)
        · skip
          have h75p := of_decide_eq_true h75
          refine wp_skip ?_
          refine wp_seq ?_
          refine wp_block ?_
          rcases bd (toldTo ds rs x.run ((beforeOf (ds[(lastSub ds rs x.run c0).toNat]'(by omega)).plan x.task)[k]'(by omega)) ((lastSub ds rs x.run c0).toNat) i) with h76 | h76
          · skip
            have hib17c1 : i < ds.length := (by omega)
            rcases bd (decide ((ds[i]'hib17c1).kind = 3)) with h79 | h79
            · skip
              have h79p := of_decide_eq_false h79
              have hib17c1 : i < ds.length := (by omega)
              have hq_ := idx h (i := i) hib17c1
              obtain ⟨b80, o80, cs80, f80, hp80, hr80, hc80, hm80⟩ := hq_
              have hk81 := hc80
              obtain ⟨v81_0, g81_0, rfl, hok81, h81_0, rfl⟩ := hk81
              refine sx_any [Pl.bool false, Pl.bool false, Pl.is (v) (Sl.yl h), Pl.is (I (i : Int)), Pl.is (.pointer (some ⟨b80, o80, none⟩)), Pl.is (.pointer (some ⟨b80, o80 + 0, none⟩)), Pl.is (I (ds[i]'hib17c1).kind), Pl.bool false, Pl.bool false, Pl.off, Pl.off, Pl.off, Pl.off, Pl.off, Pl.off, Pl.off, Pl.off, Pl.bool false, Pl.bool false, Pl.off, Pl.off, Pl.off, Pl.off, Pl.off, Pl.off, Pl.off, Pl.off, Pl.off, Pl.off, Pl.bool false, Pl.bool false, Pl.off, Pl.off, Pl.off, Pl.off, Pl.off, Pl.off, Pl.bool false, Pl.bool false, Pl.bool false] mix (by rfl) st73 ⟨(fun f W hst hbl hd hf => stp_move (v := .bool (toldTo ds rs x.run ((beforeOf (ds[(lastSub ds rs x.run c0).toNat]'(by omega)).plan x.task)[k]'(by omega)) ((lastSub ds rs x.run c0).toNat) i)) ((hf 11 rfl).trans hs74_11) ⟨Below.refl _ _, congrArg Value.bool h76⟩), (fun f W hst hbl hd hf => stp_move (v := .bool false) (hd 0 67 rfl rfl) ⟨Below.refl _ _, rfl⟩), (fun f W hst hbl hd hf => stp_move (v := v) ((hf 0 rfl).trans hs74_0) ⟨Below.refl _ _, rfl⟩), (fun f W hst hbl hd hf => stp_move (v := I (i : Int)) ((hf 12 rfl).trans hs74_12) ⟨Below.refl _ _, rfl⟩), (fun f W hst hbl hd hf => stp_indexAddr sl_DeedS (hd 2 69 rfl rfl) hp80 (hd 3 70 rfl rfl) rfl ⟨Below.refl _ _, rfl⟩), (fun f W hst hbl hd hf => stp_fieldAddr fa_Deed_0 (hd 4 71 rfl rfl) ⟨Below.refl _ _, rfl⟩), (fun f W hst hbl hd hf => stp_load_rg ld_int rfl (hd 5 72 rfl rfl) hr80 (st56.below.trans (hst.below.mono st56.below.size)) (i := 0) rfl rfl ⟨Below.refl _ _, rfl⟩), (fun f W hst hbl hd hf => stp_eql (hd 6 73 rfl rfl) rfl ⟨Below.refl _ _, congrArg Value.bool h79⟩), (fun f W hst hbl hd hf => stp_move (v := .bool false) (hd 7 74 rfl rfl) ⟨Below.refl _ _, rfl⟩), (fun f W hst hbl hd hf => rfl), (fun f W hst hbl hd hf => rfl), (fun f W hst hbl hd hf => rfl), (fun f W hst hbl hd hf => rfl), (fun f W hst hbl hd hf => rfl), (fun f W hst hbl hd hf => rfl), (fun f W hst hbl hd hf => rfl), (fun f W hst hbl hd hf => rfl), (fun f W hst hbl hd hf => stp_pick_f (v := .bool false) (hd 8 75 rfl rfl) rfl ⟨Below.refl _ _, rfl⟩), (fun f W hst hbl hd hf => stp_move (v := .bool false) (hd 17 84 rfl rfl) ⟨Below.refl _ _, rfl⟩), (fun f W hst hbl hd hf => rfl), (fun f W hst hbl hd hf => rfl), (fun f W hst hbl hd hf => rfl), (fun f W hst hbl hd hf => rfl), (fun f W hst hbl hd hf => rfl), (fun f W hst hbl hd hf => rfl), (fun f W hst hbl hd hf => rfl), (fun f W hst hbl hd hf => rfl), (fun f W hst hbl hd hf => rfl), (fun f W hst hbl hd hf => rfl), (fun f W hst hbl hd hf => stp_pick_f (v := .bool false) (hd 18 85 rfl rfl) rfl ⟨Below.refl _ _, rfl⟩), (fun f W hst hbl hd hf => stp_move (v := .bool false) (hd 29 96 rfl rfl) ⟨Below.refl _ _, rfl⟩), (fun f W hst hbl hd hf => rfl), (fun f W hst hbl hd hf => rfl), (fun f W hst hbl hd hf => rfl), (fun f W hst hbl hd hf => rfl), (fun f W hst hbl hd hf => rfl), (fun f W hst hbl hd hf => rfl), (fun f W hst hbl hd hf => stp_pick_f (v := .bool false) (hd 30 97 rfl rfl) rfl ⟨Below.refl _ _, rfl⟩), (fun f W hst hbl hd hf => stp_pick_f (v := .bool false) (hd 1 68 rfl rfl) (hd 37 104 rfl rfl) ⟨Below.refl _ _, rfl⟩), (fun f W hst hbl hd hf => stp_assign (v := .bool false) (hd 38 105 rfl rfl) ⟨Below.refl _ _, rfl⟩), trivial⟩ ?_
              intro f82 W83 st84 hb85 hv86 hf87
              refine sx_region ?_
              refine sx rfl (stp_move (v := I (i : Int)) ((hf87 12 rfl).trans hs74_12) ?_)
              refine sx rfl (stp_add rfl rfl (by (simp only [I64] at *; omega)) ?_)
              refine sx rfl (stp_assign (v := I ((i : Int) + 1)) rfl ?_)
              refine sx_nil ?_
              exact ⟨_, x.at_.toNat - (i + 1), (by omega), rfl, i + 1, (by omega), (by omega), rfl, ((hf87 0 rfl).trans hs74_0), ((hf87 1 rfl).trans hs74_1), ((hf87 5 rfl).trans hs74_5), ((hf87 7 rfl).trans hs74_7), ((hf87 9 rfl).trans hs74_9), ((hf87 10 rfl).trans hs74_10), (Eq.trans (show _ = (.bool false : Value) from (hv86 39 11 (by decide) rfl)) (congrArg Value.bool (by rw [toldTo_step (by omega), toldAt_eq (by omega) (by omega)]; simp only [decide_true, decide_false, Bool.and_true, Bool.true_and, Bool.and_false, Bool.false_and, Bool.or_false, Bool.or_true, Bool.false_or, Bool.true_or, h76, h79p]))), rfl, st84⟩
            · skip
              have h79p := of_decide_eq_true h79
              have hib17c1 : i < ds.length := (by omega)
              rcases bd (decide ((ds[i]'hib17c1).run = x.run)) with h90 | h90
              · skip
                have h90p := of_decide_eq_false h90
                have hib17c1 : i < ds.length := (by omega)
                have hq_ := idx h (i := i) hib17c1
                obtain ⟨b91, o91, cs91, f91, hp91, hr91, hc91, hm91⟩ := hq_
                have hk92 := hc91
                obtain ⟨v92_0, g92_0, rfl, hok92, h92_0, rfl⟩ := hk92
                refine sx_any [Pl.bool false, Pl.bool false, Pl.is (v) (Sl.yl h), Pl.is (I (i : Int)), Pl.is (.pointer (some ⟨b91, o91, none⟩)), Pl.is (.pointer (some ⟨b91, o91 + 0, none⟩)), Pl.is (I (ds[i]'hib17c1).kind), Pl.bool true, Pl.bool true, Pl.is (v) (Sl.yl h), Pl.is (I (i : Int)), Pl.is (.pointer (some ⟨b91, o91, none⟩)), Pl.is (.pointer (some ⟨b91, o91 + 1, none⟩)), Pl.is (I (ds[i]'hib17c1).run), Pl.is (.pointer (some ⟨b1, 0 + 0, none⟩)), Pl.is (I x.run), Pl.bool false, Pl.bool false, Pl.bool false, Pl.off, Pl.off, Pl.off, Pl.off, Pl.off, Pl.off, Pl.off, Pl.off, Pl.off, Pl.off, Pl.bool false, Pl.bool false, Pl.off, Pl.off, Pl.off, Pl.off, Pl.off, Pl.off, Pl.bool false, Pl.bool false, Pl.bool false] mix (by rfl) st73 ⟨(fun f W hst hbl hd hf => stp_move (v := .bool (toldTo ds rs x.run ((beforeOf (ds[(lastSub ds rs x.run c0).toNat]'(by omega)).plan x.task)[k]'(by omega)) ((lastSub ds rs x.run c0).toNat) i)) ((hf 11 rfl).trans hs74_11) ⟨Below.refl _ _, congrArg Value.bool h76⟩), (fun f W hst hbl hd hf => stp_move (v := .bool false) (hd 0 67 rfl rfl) ⟨Below.refl _ _, rfl⟩), (fun f W hst hbl hd hf => stp_move (v := v) ((hf 0 rfl).trans hs74_0) ⟨Below.refl _ _, rfl⟩), (fun f W hst hbl hd hf => stp_move (v := I (i : Int)) ((hf 12 rfl).trans hs74_12) ⟨Below.refl _ _, rfl⟩), (fun f W hst hbl hd hf => stp_indexAddr sl_DeedS (hd 2 69 rfl rfl) hp91 (hd 3 70 rfl rfl) rfl ⟨Below.refl _ _, rfl⟩), (fun f W hst hbl hd hf => stp_fieldAddr fa_Deed_0 (hd 4 71 rfl rfl) ⟨Below.refl _ _, rfl⟩), (fun f W hst hbl hd hf => stp_load_rg ld_int rfl (hd 5 72 rfl rfl) hr91 (st56.below.trans (hst.below.mono st56.below.size)) (i := 0) rfl rfl ⟨Below.refl _ _, rfl⟩), (fun f W hst hbl hd hf => stp_eql (hd 6 73 rfl rfl) rfl ⟨Below.refl _ _, congrArg Value.bool h79⟩), (fun f W hst hbl hd hf => stp_move (v := .bool true) (hd 7 74 rfl rfl) ⟨Below.refl _ _, rfl⟩), (fun f W hst hbl hd hf => stp_move (v := v) ((hf 0 rfl).trans hs74_0) ⟨Below.refl _ _, rfl⟩), (fun f W hst hbl hd hf => stp_move (v := I (i : Int)) ((hf 12 rfl).trans hs74_12) ⟨Below.refl _ _, rfl⟩), (fun f W hst hbl hd hf => stp_indexAddr sl_DeedS (hd 9 76 rfl rfl) hp91 (hd 10 77 rfl rfl) rfl ⟨Below.refl _ _, rfl⟩), (fun f W hst hbl hd hf => stp_fieldAddr fa_Deed_1 (hd 11 78 rfl rfl) ⟨Below.refl _ _, rfl⟩), (fun f W hst hbl hd hf => stp_load_rg ld_int rfl (hd 12 79 rfl rfl) hr91 (st56.below.trans (hst.below.mono st56.below.size)) (i := 1) rfl rfl ⟨Below.refl _ _, rfl⟩), (fun f W hst hbl hd hf => stp_fieldAddr fa_Hand_0 ((hf 5 rfl).trans hs74_5) ⟨Below.refl _ _, rfl⟩), (fun f W hst hbl hd hf => stp_load_rg ld_int rfl (hd 14 81 rfl rfl) (range_of_heap (st56.get 0 rfl)) hst.below (i := 0) rfl rfl ⟨Below.refl _ _, rfl⟩), (fun f W hst hbl hd hf => stp_eql (hd 13 80 rfl rfl) (hd 15 82 rfl rfl) ⟨Below.refl _ _, congrArg Value.bool h90⟩), (fun f W hst hbl hd hf => stp_pick_t (v := .bool false) (hd 8 75 rfl rfl) (hd 16 83 rfl rfl) ⟨Below.refl _ _, rfl⟩), (fun f W hst hbl hd hf => stp_move (v := .bool false) (hd 17 84 rfl rfl) ⟨Below.refl _ _, rfl⟩), (fun f W hst hbl hd hf => rfl), (fun f W hst hbl hd hf => rfl), (fun f W hst hbl hd hf => rfl), (fun f W hst hbl hd hf => rfl), (fun f W hst hbl hd hf => rfl), (fun f W hst hbl hd hf => rfl), (fun f W hst hbl hd hf => rfl), (fun f W hst hbl hd hf => rfl), (fun f W hst hbl hd hf => rfl), (fun f W hst hbl hd hf => rfl), (fun f W hst hbl hd hf => stp_pick_f (v := .bool false) (hd 18 85 rfl rfl) rfl ⟨Below.refl _ _, rfl⟩), (fun f W hst hbl hd hf => stp_move (v := .bool false) (hd 29 96 rfl rfl) ⟨Below.refl _ _, rfl⟩), (fun f W hst hbl hd hf => rfl), (fun f W hst hbl hd hf => rfl), (fun f W hst hbl hd hf => rfl), (fun f W hst hbl hd hf => rfl), (fun f W hst hbl hd hf => rfl), (fun f W hst hbl hd hf => rfl), (fun f W hst hbl hd hf => stp_pick_f (v := .bool false) (hd 30 97 rfl rfl) rfl ⟨Below.refl _ _, rfl⟩), (fun f W hst hbl hd hf => stp_pick_f (v := .bool false) (hd 1 68 rfl rfl) (hd 37 104 rfl rfl) ⟨Below.refl _ _, rfl⟩), (fun f W hst hbl hd hf => stp_assign (v := .bool false) (hd 38 105 rfl rfl) ⟨Below.refl _ _, rfl⟩), trivial⟩ ?_
                intro f93 W94 st95 hb96 hv97 hf98
                refine sx_region ?_
                refine sx rfl (stp_move (v := I (i : Int)) ((hf98 12 rfl).trans hs74_12) ?_)
                refine sx rfl (stp_add rfl rfl (by (simp only [I64] at *; omega)) ?_)
                refine sx rfl (stp_assign (v := I ((i : Int) + 1)) rfl ?_)
                refine sx_nil ?_
                exact ⟨_, x.at_.toNat - (i + 1), (by omega), rfl, i + 1, (by omega), (by omega), rfl, ((hf98 0 rfl).trans hs74_0), ((hf98 1 rfl).trans hs74_1), ((hf98 5 rfl).trans hs74_5), ((hf98 7 rfl).trans hs74_7), ((hf98 9 rfl).trans hs74_9), ((hf98 10 rfl).trans hs74_10), (Eq.trans (show _ = (.bool false : Value) from (hv97 39 11 (by decide) rfl)) (congrArg Value.bool (by rw [toldTo_step (by omega), toldAt_eq (by omega) (by omega)]; simp only [decide_true, decide_false, Bool.and_true, Bool.true_and, Bool.and_false, Bool.false_and, Bool.or_false, Bool.or_true, Bool.false_or, Bool.true_or, h76, h79p, h90p]))), rfl, st95⟩
              · skip
                have h90p := of_decide_eq_true h90
                have hib17c1 : i < ds.length := (by omega)
                have hi59e71 : k < (beforeOf (ds[(lastSub ds rs x.run c0).toNat]'hic8253).plan x.task).length := (by omega)
                rcases bd (decide ((ds[i]'hib17c1).task = ((beforeOf (ds[(lastSub ds rs x.run c0).toNat]'hic8253).plan x.task)[k]'hi59e71))) with h102 | h102
                · skip
                  have h102p := of_decide_eq_false h102
                  have hib17c1 : i < ds.length := (by omega)
                  have hq_ := idx h (i := i) hib17c1
                  obtain ⟨b103, o103, cs103, f103, hp103, hr103, hc103, hm103⟩ := hq_
                  have hk104 := hc103
                  obtain ⟨v104_0, g104_0, rfl, hok104, h104_0, rfl⟩ := hk104
                  have hi59e71 : k < (beforeOf (ds[(lastSub ds rs x.run c0).toNat]'hic8253).plan x.task).length := (by omega)
                  have hq_ := idx h61 (i := k) hi59e71
                  obtain ⟨b105, o105, cs105, f105, hp105, hr105, hc105, hm105⟩ := hq_
                  have hk105 := hc105
                  obtain ⟨rfl, rfl, hok105⟩ := hk105
                  refine sx_any [Pl.bool false, Pl.bool false, Pl.is (v) (Sl.yl h), Pl.is (I (i : Int)), Pl.is (.pointer (some ⟨b103, o103, none⟩)), Pl.is (.pointer (some ⟨b103, o103 + 0, none⟩)), Pl.is (I (ds[i]'hib17c1).kind), Pl.bool true, Pl.bool true, Pl.is (v) (Sl.yl h), Pl.is (I (i : Int)), Pl.is (.pointer (some ⟨b103, o103, none⟩)), Pl.is (.pointer (some ⟨b103, o103 + 1, none⟩)), Pl.is (I (ds[i]'hib17c1).run), Pl.is (.pointer (some ⟨b1, 0 + 0, none⟩)), Pl.is (I x.run), Pl.bool true, Pl.bool true, Pl.bool true, Pl.is (v) (Sl.yl h), Pl.is (I (i : Int)), Pl.is (.pointer (some ⟨b103, o103, none⟩)), Pl.is (.pointer (some ⟨b103, o103 + 7, none⟩)), Pl.is (I (ds[i]'hib17c1).task), Pl.is ((f54 9)) (Sl.yl h61), Pl.is (I (k : Int)), Pl.is (.pointer (some ⟨b105, o105, none⟩)), Pl.is (I ((beforeOf (ds[(lastSub ds rs x.run c0).toNat]'hic8253).plan x.task)[k]'hi59e71)), Pl.bool false, Pl.bool false, Pl.bool false, Pl.off, Pl.off, Pl.off, Pl.off, Pl.off, Pl.off, Pl.bool false, Pl.bool false, Pl.bool false] mix (by rfl) st73 ⟨(fun f W hst hbl hd hf => stp_move (v := .bool (toldTo ds rs x.run ((beforeOf (ds[(lastSub ds rs x.run c0).toNat]'(by omega)).plan x.task)[k]'(by omega)) ((lastSub ds rs x.run c0).toNat) i)) ((hf 11 rfl).trans hs74_11) ⟨Below.refl _ _, congrArg Value.bool h76⟩), (fun f W hst hbl hd hf => stp_move (v := .bool false) (hd 0 67 rfl rfl) ⟨Below.refl _ _, rfl⟩), (fun f W hst hbl hd hf => stp_move (v := v) ((hf 0 rfl).trans hs74_0) ⟨Below.refl _ _, rfl⟩), (fun f W hst hbl hd hf => stp_move (v := I (i : Int)) ((hf 12 rfl).trans hs74_12) ⟨Below.refl _ _, rfl⟩), (fun f W hst hbl hd hf => stp_indexAddr sl_DeedS (hd 2 69 rfl rfl) hp103 (hd 3 70 rfl rfl) rfl ⟨Below.refl _ _, rfl⟩), (fun f W hst hbl hd hf => stp_fieldAddr fa_Deed_0 (hd 4 71 rfl rfl) ⟨Below.refl _ _, rfl⟩), (fun f W hst hbl hd hf => stp_load_rg ld_int rfl (hd 5 72 rfl rfl) hr103 (st56.below.trans (hst.below.mono st56.below.size)) (i := 0) rfl rfl ⟨Below.refl _ _, rfl⟩), (fun f W hst hbl hd hf => stp_eql (hd 6 73 rfl rfl) rfl ⟨Below.refl _ _, congrArg Value.bool h79⟩), (fun f W hst hbl hd hf => stp_move (v := .bool true) (hd 7 74 rfl rfl) ⟨Below.refl _ _, rfl⟩), (fun f W hst hbl hd hf => stp_move (v := v) ((hf 0 rfl).trans hs74_0) ⟨Below.refl _ _, rfl⟩), (fun f W hst hbl hd hf => stp_move (v := I (i : Int)) ((hf 12 rfl).trans hs74_12) ⟨Below.refl _ _, rfl⟩), (fun f W hst hbl hd hf => stp_indexAddr sl_DeedS (hd 9 76 rfl rfl) hp103 (hd 10 77 rfl rfl) rfl ⟨Below.refl _ _, rfl⟩), (fun f W hst hbl hd hf => stp_fieldAddr fa_Deed_1 (hd 11 78 rfl rfl) ⟨Below.refl _ _, rfl⟩), (fun f W hst hbl hd hf => stp_load_rg ld_int rfl (hd 12 79 rfl rfl) hr103 (st56.below.trans (hst.below.mono st56.below.size)) (i := 1) rfl rfl ⟨Below.refl _ _, rfl⟩), (fun f W hst hbl hd hf => stp_fieldAddr fa_Hand_0 ((hf 5 rfl).trans hs74_5) ⟨Below.refl _ _, rfl⟩), (fun f W hst hbl hd hf => stp_load_rg ld_int rfl (hd 14 81 rfl rfl) (range_of_heap (st56.get 0 rfl)) hst.below (i := 0) rfl rfl ⟨Below.refl _ _, rfl⟩), (fun f W hst hbl hd hf => stp_eql (hd 13 80 rfl rfl) (hd 15 82 rfl rfl) ⟨Below.refl _ _, congrArg Value.bool h90⟩), (fun f W hst hbl hd hf => stp_pick_t (v := .bool true) (hd 8 75 rfl rfl) (hd 16 83 rfl rfl) ⟨Below.refl _ _, rfl⟩), (fun f W hst hbl hd hf => stp_move (v := .bool true) (hd 17 84 rfl rfl) ⟨Below.refl _ _, rfl⟩), (fun f W hst hbl hd hf => stp_move (v := v) ((hf 0 rfl).trans hs74_0) ⟨Below.refl _ _, rfl⟩), (fun f W hst hbl hd hf => stp_move (v := I (i : Int)) ((hf 12 rfl).trans hs74_12) ⟨Below.refl _ _, rfl⟩), (fun f W hst hbl hd hf => stp_indexAddr sl_DeedS (hd 19 86 rfl rfl) hp103 (hd 20 87 rfl rfl) rfl ⟨Below.refl _ _, rfl⟩), (fun f W hst hbl hd hf => stp_fieldAddr fa_Deed_3 (hd 21 88 rfl rfl) ⟨Below.refl _ _, rfl⟩), (fun f W hst hbl hd hf => stp_load_rg ld_int rfl (hd 22 89 rfl rfl) hr103 (st56.below.trans (hst.below.mono st56.below.size)) (i := 7) rfl rfl ⟨Below.refl _ _, rfl⟩), (fun f W hst hbl hd hf => stp_move (v := (f54 9)) ((hf 9 rfl).trans hs74_9) ⟨Below.refl _ _, rfl⟩), (fun f W hst hbl hd hf => stp_move (v := I (k : Int)) ((hf 10 rfl).trans hs74_10) ⟨Below.refl _ _, rfl⟩), (fun f W hst hbl hd hf => stp_indexAddr sl_IntS (hd 24 91 rfl rfl) hp105 (hd 25 92 rfl rfl) rfl ⟨Below.refl _ _, rfl⟩), (fun f W hst hbl hd hf => stp_load_rg ld_int rfl (hd 26 93 rfl rfl) hr105 hst.below (i := 0) rfl rfl ⟨Below.refl _ _, rfl⟩), (fun f W hst hbl hd hf => stp_eql (hd 23 90 rfl rfl) (hd 27 94 rfl rfl) ⟨Below.refl _ _, congrArg Value.bool h102⟩), (fun f W hst hbl hd hf => stp_pick_t (v := .bool false) (hd 18 85 rfl rfl) (hd 28 95 rfl rfl) ⟨Below.refl _ _, rfl⟩), (fun f W hst hbl hd hf => stp_move (v := .bool false) (hd 29 96 rfl rfl) ⟨Below.refl _ _, rfl⟩), (fun f W hst hbl hd hf => rfl), (fun f W hst hbl hd hf => rfl), (fun f W hst hbl hd hf => rfl), (fun f W hst hbl hd hf => rfl), (fun f W hst hbl hd hf => rfl), (fun f W hst hbl hd hf => rfl), (fun f W hst hbl hd hf => stp_pick_f (v := .bool false) (hd 30 97 rfl rfl) rfl ⟨Below.refl _ _, rfl⟩), (fun f W hst hbl hd hf => stp_pick_f (v := .bool false) (hd 1 68 rfl rfl) (hd 37 104 rfl rfl) ⟨Below.refl _ _, rfl⟩), (fun f W hst hbl hd hf => stp_assign (v := .bool false) (hd 38 105 rfl rfl) ⟨Below.refl _ _, rfl⟩), trivial⟩ ?_
                  intro f106 W107 st108 hb109 hv110 hf111
                  refine sx_region ?_
                  refine sx rfl (stp_move (v := I (i : Int)) ((hf111 12 rfl).trans hs74_12) ?_)
                  refine sx rfl (stp_add rfl rfl (by (simp only [I64] at *; omega)) ?_)
                  refine sx rfl (stp_assign (v := I ((i : Int) + 1)) rfl ?_)
                  refine sx_nil ?_
                  exact ⟨_, x.at_.toNat - (i + 1), (by omega), rfl, i + 1, (by omega), (by omega), rfl, ((hf111 0 rfl).trans hs74_0), ((hf111 1 rfl).trans hs74_1), ((hf111 5 rfl).trans hs74_5), ((hf111 7 rfl).trans hs74_7), ((hf111 9 rfl).trans hs74_9), ((hf111 10 rfl).trans hs74_10), (Eq.trans (show _ = (.bool false : Value) from (hv110 39 11 (by decide) rfl)) (congrArg Value.bool (by rw [toldTo_step (by omega), toldAt_eq (by omega) (by omega)]; simp only [decide_true, decide_false, Bool.and_true, Bool.true_and, Bool.and_false, Bool.false_and, Bool.or_false, Bool.or_true, Bool.false_or, Bool.true_or, h76, h79p, h90p, h102p]))), rfl, st108⟩
                · skip
                  have h102p := of_decide_eq_true h102
                  have hib17c1 : i < ds.length := (by omega)
                  have hq_ := idx h (i := i) hib17c1
                  obtain ⟨b112, o112, cs112, f112, hp112, hr112, hc112, hm112⟩ := hq_
                  have hk113 := hc112
                  obtain ⟨v113_0, g113_0, rfl, hok113, h113_0, rfl⟩ := hk113
                  have hi59e71 : k < (beforeOf (ds[(lastSub ds rs x.run c0).toNat]'hic8253).plan x.task).length := (by omega)
                  have hq_ := idx h61 (i := k) hi59e71
                  obtain ⟨b114, o114, cs114, f114, hp114, hr114, hc114, hm114⟩ := hq_
                  have hk114 := hc114
                  obtain ⟨rfl, rfl, hok114⟩ := hk114
                  have hi17d5e : i < rs.length := (by omega)
                  have hq_ := idx g (i := i) hi17d5e
                  obtain ⟨b115, o115, cs115, f115, hp115, hr115, hc115, hm115⟩ := hq_
                  have hk116 := hc115
                  obtain ⟨he116, rfl, hok116⟩ := hk116
                  have he116 : _ = [I (rs[i]'hi17d5e).code, I (rs[i]'hi17d5e).run, I (rs[i]'hi17d5e).task, I (rs[i]'hi17d5e).try_] := he116
                  subst he116
                  refine sx_any [Pl.bool false, Pl.bool false, Pl.is (v) (Sl.yl h), Pl.is (I (i : Int)), Pl.is (.pointer (some ⟨b112, o112, none⟩)), Pl.is (.pointer (some ⟨b112, o112 + 0, none⟩)), Pl.is (I (ds[i]'hib17c1).kind), Pl.bool true, Pl.bool true, Pl.is (v) (Sl.yl h), Pl.is (I (i : Int)), Pl.is (.pointer (some ⟨b112, o112, none⟩)), Pl.is (.pointer (some ⟨b112, o112 + 1, none⟩)), Pl.is (I (ds[i]'hib17c1).run), Pl.is (.pointer (some ⟨b1, 0 + 0, none⟩)), Pl.is (I x.run), Pl.bool true, Pl.bool true, Pl.bool true, Pl.is (v) (Sl.yl h), Pl.is (I (i : Int)), Pl.is (.pointer (some ⟨b112, o112, none⟩)), Pl.is (.pointer (some ⟨b112, o112 + 7, none⟩)), Pl.is (I (ds[i]'hib17c1).task), Pl.is ((f54 9)) (Sl.yl h61), Pl.is (I (k : Int)), Pl.is (.pointer (some ⟨b114, o114, none⟩)), Pl.is (I ((beforeOf (ds[(lastSub ds rs x.run c0).toNat]'hic8253).plan x.task)[k]'hi59e71)), Pl.bool true, Pl.bool true, Pl.bool true, Pl.is (u) (Sl.yl g), Pl.is (I (i : Int)), Pl.is (.pointer (some ⟨b115, o115, none⟩)), Pl.is (.pointer (some ⟨b115, o115 + 0, none⟩)), Pl.is (I (rs[i]'hi17d5e).code), Pl.bool (decide ((rs[i]'hi17d5e).code = 0)), Pl.bool (decide ((rs[i]'hi17d5e).code = 0)), Pl.bool (decide ((rs[i]'hi17d5e).code = 0)), Pl.bool (decide ((rs[i]'hi17d5e).code = 0))] mix (by rfl) st73 ⟨(fun f W hst hbl hd hf => stp_move (v := .bool (toldTo ds rs x.run ((beforeOf (ds[(lastSub ds rs x.run c0).toNat]'(by omega)).plan x.task)[k]'(by omega)) ((lastSub ds rs x.run c0).toNat) i)) ((hf 11 rfl).trans hs74_11) ⟨Below.refl _ _, congrArg Value.bool h76⟩), (fun f W hst hbl hd hf => stp_move (v := .bool false) (hd 0 67 rfl rfl) ⟨Below.refl _ _, rfl⟩), (fun f W hst hbl hd hf => stp_move (v := v) ((hf 0 rfl).trans hs74_0) ⟨Below.refl _ _, rfl⟩), (fun f W hst hbl hd hf => stp_move (v := I (i : Int)) ((hf 12 rfl).trans hs74_12) ⟨Below.refl _ _, rfl⟩), (fun f W hst hbl hd hf => stp_indexAddr sl_DeedS (hd 2 69 rfl rfl) hp112 (hd 3 70 rfl rfl) rfl ⟨Below.refl _ _, rfl⟩), (fun f W hst hbl hd hf => stp_fieldAddr fa_Deed_0 (hd 4 71 rfl rfl) ⟨Below.refl _ _, rfl⟩), (fun f W hst hbl hd hf => stp_load_rg ld_int rfl (hd 5 72 rfl rfl) hr112 (st56.below.trans (hst.below.mono st56.below.size)) (i := 0) rfl rfl ⟨Below.refl _ _, rfl⟩), (fun f W hst hbl hd hf => stp_eql (hd 6 73 rfl rfl) rfl ⟨Below.refl _ _, congrArg Value.bool h79⟩), (fun f W hst hbl hd hf => stp_move (v := .bool true) (hd 7 74 rfl rfl) ⟨Below.refl _ _, rfl⟩), (fun f W hst hbl hd hf => stp_move (v := v) ((hf 0 rfl).trans hs74_0) ⟨Below.refl _ _, rfl⟩), (fun f W hst hbl hd hf => stp_move (v := I (i : Int)) ((hf 12 rfl).trans hs74_12) ⟨Below.refl _ _, rfl⟩), (fun f W hst hbl hd hf => stp_indexAddr sl_DeedS (hd 9 76 rfl rfl) hp112 (hd 10 77 rfl rfl) rfl ⟨Below.refl _ _, rfl⟩), (fun f W hst hbl hd hf => stp_fieldAddr fa_Deed_1 (hd 11 78 rfl rfl) ⟨Below.refl _ _, rfl⟩), (fun f W hst hbl hd hf => stp_load_rg ld_int rfl (hd 12 79 rfl rfl) hr112 (st56.below.trans (hst.below.mono st56.below.size)) (i := 1) rfl rfl ⟨Below.refl _ _, rfl⟩), (fun f W hst hbl hd hf => stp_fieldAddr fa_Hand_0 ((hf 5 rfl).trans hs74_5) ⟨Below.refl _ _, rfl⟩), (fun f W hst hbl hd hf => stp_load_rg ld_int rfl (hd 14 81 rfl rfl) (range_of_heap (st56.get 0 rfl)) hst.below (i := 0) rfl rfl ⟨Below.refl _ _, rfl⟩), (fun f W hst hbl hd hf => stp_eql (hd 13 80 rfl rfl) (hd 15 82 rfl rfl) ⟨Below.refl _ _, congrArg Value.bool h90⟩), (fun f W hst hbl hd hf => stp_pick_t (v := .bool true) (hd 8 75 rfl rfl) (hd 16 83 rfl rfl) ⟨Below.refl _ _, rfl⟩), (fun f W hst hbl hd hf => stp_move (v := .bool true) (hd 17 84 rfl rfl) ⟨Below.refl _ _, rfl⟩), (fun f W hst hbl hd hf => stp_move (v := v) ((hf 0 rfl).trans hs74_0) ⟨Below.refl _ _, rfl⟩), (fun f W hst hbl hd hf => stp_move (v := I (i : Int)) ((hf 12 rfl).trans hs74_12) ⟨Below.refl _ _, rfl⟩), (fun f W hst hbl hd hf => stp_indexAddr sl_DeedS (hd 19 86 rfl rfl) hp112 (hd 20 87 rfl rfl) rfl ⟨Below.refl _ _, rfl⟩), (fun f W hst hbl hd hf => stp_fieldAddr fa_Deed_3 (hd 21 88 rfl rfl) ⟨Below.refl _ _, rfl⟩), (fun f W hst hbl hd hf => stp_load_rg ld_int rfl (hd 22 89 rfl rfl) hr112 (st56.below.trans (hst.below.mono st56.below.size)) (i := 7) rfl rfl ⟨Below.refl _ _, rfl⟩), (fun f W hst hbl hd hf => stp_move (v := (f54 9)) ((hf 9 rfl).trans hs74_9) ⟨Below.refl _ _, rfl⟩), (fun f W hst hbl hd hf => stp_move (v := I (k : Int)) ((hf 10 rfl).trans hs74_10) ⟨Below.refl _ _, rfl⟩), (fun f W hst hbl hd hf => stp_indexAddr sl_IntS (hd 24 91 rfl rfl) hp114 (hd 25 92 rfl rfl) rfl ⟨Below.refl _ _, rfl⟩), (fun f W hst hbl hd hf => stp_load_rg ld_int rfl (hd 26 93 rfl rfl) hr114 hst.below (i := 0) rfl rfl ⟨Below.refl _ _, rfl⟩), (fun f W hst hbl hd hf => stp_eql (hd 23 90 rfl rfl) (hd 27 94 rfl rfl) ⟨Below.refl _ _, congrArg Value.bool h102⟩), (fun f W hst hbl hd hf => stp_pick_t (v := .bool true) (hd 18 85 rfl rfl) (hd 28 95 rfl rfl) ⟨Below.refl _ _, rfl⟩), (fun f W hst hbl hd hf => stp_move (v := .bool true) (hd 29 96 rfl rfl) ⟨Below.refl _ _, rfl⟩), (fun f W hst hbl hd hf => stp_move (v := u) ((hf 1 rfl).trans hs74_1) ⟨Below.refl _ _, rfl⟩), (fun f W hst hbl hd hf => stp_move (v := I (i : Int)) ((hf 12 rfl).trans hs74_12) ⟨Below.refl _ _, rfl⟩), (fun f W hst hbl hd hf => stp_indexAddr sl_ReplyS (hd 31 98 rfl rfl) hp115 (hd 32 99 rfl rfl) rfl ⟨Below.refl _ _, rfl⟩), (fun f W hst hbl hd hf => stp_fieldAddr fa_Reply_0 (hd 33 100 rfl rfl) ⟨Below.refl _ _, rfl⟩), (fun f W hst hbl hd hf => stp_load_rg ld_int rfl (hd 34 101 rfl rfl) hr115 (st56.below.trans (hst.below.mono st56.below.size)) (i := 0) rfl rfl ⟨Below.refl _ _, rfl⟩), (fun f W hst hbl hd hf => stp_eql (hd 35 102 rfl rfl) rfl ⟨Below.refl _ _, rfl⟩), (fun f W hst hbl hd hf => stp_pick_t (v := .bool (decide ((rs[i]'hi17d5e).code = 0))) (hd 30 97 rfl rfl) (hd 36 103 rfl rfl) ⟨Below.refl _ _, rfl⟩), (fun f W hst hbl hd hf => stp_pick_f (v := .bool (decide ((rs[i]'hi17d5e).code = 0))) (hd 1 68 rfl rfl) (hd 37 104 rfl rfl) ⟨Below.refl _ _, rfl⟩), (fun f W hst hbl hd hf => stp_assign (v := .bool (decide ((rs[i]'hi17d5e).code = 0))) (hd 38 105 rfl rfl) ⟨Below.refl _ _, rfl⟩), trivial⟩ ?_
                  intro f117 W118 st119 hb120 hv121 hf122
                  refine sx_region ?_
                  refine sx rfl (stp_move (v := I (i : Int)) ((hf122 12 rfl).trans hs74_12) ?_)
                  refine sx rfl (stp_add rfl rfl (by (simp only [I64] at *; omega)) ?_)
                  refine sx rfl (stp_assign (v := I ((i : Int) + 1)) rfl ?_)
                  refine sx_nil ?_
                  exact ⟨_, x.at_.toNat - (i + 1), (by omega), rfl, i + 1, (by omega), (by omega), rfl, ((hf122 0 rfl).trans hs74_0), ((hf122 1 rfl).trans hs74_1), ((hf122 5 rfl).trans hs74_5), ((hf122 7 rfl).trans hs74_7), ((hf122 9 rfl).trans hs74_9), ((hf122 10 rfl).trans hs74_10), (Eq.trans (show _ = (.bool (decide ((rs[i]'hi17d5e).code = 0)) : Value) from (hv121 39 11 (by decide) rfl)) (congrArg Value.bool (by rw [toldTo_step (by omega), toldAt_eq (by omega) (by omega)]; simp only [decide_true, decide_false, Bool.and_true, Bool.true_and, Bool.and_false, Bool.false_and, Bool.or_false, Bool.or_true, Bool.false_or, Bool.true_or, h76, h79p, h90p, h102p]))), rfl, st119⟩
          · skip
            refine sx_any [Pl.bool true, Pl.bool true, Pl.off, Pl.off, Pl.off, Pl.off, Pl.off, Pl.off, Pl.off, Pl.off, Pl.off, Pl.off, Pl.off, Pl.off, Pl.off, Pl.off, Pl.off, Pl.off, Pl.off, Pl.off, Pl.off, Pl.off, Pl.off, Pl.off, Pl.off, Pl.off, Pl.off, Pl.off, Pl.off, Pl.off, Pl.off, Pl.off, Pl.off, Pl.off, Pl.off, Pl.off, Pl.off, Pl.off, Pl.bool true, Pl.bool true] mix (by rfl) st73 ⟨(fun f W hst hbl hd hf => stp_move (v := .bool (toldTo ds rs x.run ((beforeOf (ds[(lastSub ds rs x.run c0).toNat]'(by omega)).plan x.task)[k]'(by omega)) ((lastSub ds rs x.run c0).toNat) i)) ((hf 11 rfl).trans hs74_11) ⟨Below.refl _ _, congrArg Value.bool h76⟩), (fun f W hst hbl hd hf => stp_move (v := .bool true) (hd 0 67 rfl rfl) ⟨Below.refl _ _, rfl⟩), (fun f W hst hbl hd hf => rfl), (fun f W hst hbl hd hf => rfl), (fun f W hst hbl hd hf => rfl), (fun f W hst hbl hd hf => rfl), (fun f W hst hbl hd hf => rfl), (fun f W hst hbl hd hf => rfl), (fun f W hst hbl hd hf => rfl), (fun f W hst hbl hd hf => rfl), (fun f W hst hbl hd hf => rfl), (fun f W hst hbl hd hf => rfl), (fun f W hst hbl hd hf => rfl), (fun f W hst hbl hd hf => rfl), (fun f W hst hbl hd hf => rfl), (fun f W hst hbl hd hf => rfl), (fun f W hst hbl hd hf => rfl), (fun f W hst hbl hd hf => rfl), (fun f W hst hbl hd hf => rfl), (fun f W hst hbl hd hf => rfl), (fun f W hst hbl hd hf => rfl), (fun f W hst hbl hd hf => rfl), (fun f W hst hbl hd hf => rfl), (fun f W hst hbl hd hf => rfl), (fun f W hst hbl hd hf => rfl), (fun f W hst hbl hd hf => rfl), (fun f W hst hbl hd hf => rfl), (fun f W hst hbl hd hf => rfl), (fun f W hst hbl hd hf => rfl), (fun f W hst hbl hd hf => rfl), (fun f W hst hbl hd hf => rfl), (fun f W hst hbl hd hf => rfl), (fun f W hst hbl hd hf => rfl), (fun f W hst hbl hd hf => rfl), (fun f W hst hbl hd hf => rfl), (fun f W hst hbl hd hf => rfl), (fun f W hst hbl hd hf => rfl), (fun f W hst hbl hd hf => rfl), (fun f W hst hbl hd hf => stp_pick_t (v := .bool true) (hd 1 68 rfl rfl) rfl ⟨Below.refl _ _, rfl⟩), (fun f W hst hbl hd hf => stp_assign (v := .bool true) (hd 38 105 rfl rfl) ⟨Below.refl _ _, rfl⟩), trivial⟩ ?_
            intro f123 W124 st125 hb126 hv127 hf128
            refine sx_region ?_
            refine sx rfl (stp_move (v := I (i : Int)) ((hf128 12 rfl).trans hs74_12) ?_)
            refine sx rfl (stp_add rfl rfl (by (simp only [I64] at *; omega)) ?_)
            refine sx rfl (stp_assign (v := I ((i : Int) + 1)) rfl ?_)
            refine sx_nil ?_
            exact ⟨_, x.at_.toNat - (i + 1), (by omega), rfl, i + 1, (by omega), (by omega), rfl, ((hf128 0 rfl).trans hs74_0), ((hf128 1 rfl).trans hs74_1), ((hf128 5 rfl).trans hs74_5), ((hf128 7 rfl).trans hs74_7), ((hf128 9 rfl).trans hs74_9), ((hf128 10 rfl).trans hs74_10), (Eq.trans (show _ = (.bool true : Value) from (hv127 39 11 (by decide) rfl)) (congrArg Value.bool (by rw [toldTo_step (by omega), toldAt_eq (by omega) (by omega)]; simp only [decide_true, decide_false, Bool.and_true, Bool.true_and, Bool.and_false, Bool.false_and, Bool.or_false, Bool.or_true, Bool.false_or, Bool.true_or, h76]))), rfl, st125⟩
        · skip
          have h75p := of_decide_eq_false h75
          refine wp_exit ?_
          refine wp_seq ?_
          refine sx_region ?_
          refine sx rfl (stp_move (v := .bool (toldTo ds rs x.run ((beforeOf (ds[(lastSub ds rs x.run c0).toNat]'(by omega)).plan x.task)[k]'(by omega)) ((lastSub ds rs x.run c0).toNat) i)) hs74_11 ?_)
          refine sx rfl (stp_not rfl ?_)
          refine sx_nil ?_
          refine sx_if rfl (fun h129 => ?_) (fun h129 => ?_)
          · skip
            refine wp_seq ?_
            refine sx_region ?_
            refine sx rfl (stp_assign (v := .bool true) rfl ?_)
            refine sx_nil ?_
            refine wp_ret ?_; repeat (first | refine then_ret ?_ | refine blk_ret ?_)
            refine ret1 Try.results19 rfl ?_
            have st130 := St.call st56 st73
            exact ⟨(congrArg (fun z => Ending.returned (.bool z)) (by rw [early_any hj (by omega)]; exact (any_get_t (k := k) (by omega) (by have hz := h129; rw [show i = x.at_.toNat by omega] at hz; exact hz)).symm)), st130.bare⟩
          · skip
            refine wp_skip ?_
            refine sx_region ?_
            refine sx rfl (stp_move (v := I (k : Int)) hs74_10 ?_)
            refine sx rfl (stp_add rfl rfl (by (simp only [I64] at *; omega)) ?_)
            refine sx rfl (stp_assign (v := I ((k : Int) + 1)) rfl ?_)
            refine sx_nil ?_
            exact ⟨_, (beforeOf (ds[(lastSub ds rs x.run c0).toNat]'(by omega)).plan x.task).length - (k + 1), (by omega), rfl, k + 1, (by omega), (any_take_f (by omega) hany (by have hz := h129; rw [show i = x.at_.toNat by omega] at hz; simpa using hz)), rfl, hs74_0, hs74_1, hs74_5, hs74_7, hs74_9, rfl, st73⟩
      · skip
        have h68p := of_decide_eq_false h68
        refine wp_exit ?_
        refine wp_seq ?_
        refine sx_region ?_
        refine sx rfl (stp_assign (v := .bool false) rfl ?_)
        refine sx_nil ?_
        refine wp_ret ?_; repeat (first | refine then_ret ?_ | refine blk_ret ?_)
        refine ret1 Try.results19 rfl ?_
        have st131 := St.call st56 st66
        obtain rfl : k = (beforeOf (ds[(lastSub ds rs x.run c0).toNat]'(by omega)).plan x.task).length := by omega
        rw [List.take_length] at hany
        exact ⟨(congrArg (fun z => Ending.returned (.bool z)) (by rw [early_any hj (by omega)]; exact hany.symm)), st131.bare⟩
set_option maxHeartbeats 2000000 in
theorem SoonI (w : World) {v u : Value} {ds : List Deed} {rs : List Reply} {fp gp : List Nat} (h : Sl w v ds fp) (g : Sl w u rs gp) :
    Calls Try.prog 9 #[v, u] w fun e w' => ∃ (v : Value) (fp' : List Nat), e = .returned v ∧ St w w' [Res.own v (soonOf ds rs) fp'] := by
  have hcap := h.len_le
  have hcap2 := g.len_le
  refine enter2 Try.func9 rfl Try.ntmps9 (by decide) ?_
  refine wp_seq ?_
  refine sx_region ?_
  refine sx rfl (stp_assign (v := .slice none 0 0) rfl ?_)
  refine sx_nil ?_
  refine wp_seq ?_
  refine wp_seq ?_
  refine sx_region ?_
  refine sx rfl (stp_move (v := v) rfl ?_)
  refine sx rfl (stp_len sl_DeedS rfl h ?_)
  refine sx rfl (stp_gtr rfl rfl ?_)
  refine sx_nil ?_
  refine sx_if rfl (fun h1 => ?_) (fun h1 => ?_)
  · skip
    have h1p := of_decide_eq_true h1
    refine wp_seq ?_
    refine sx_region ?_
    refine sx rfl (stp_assign (v := .slice none 0 0) rfl ?_)
    refine sx_nil ?_
    refine wp_ret ?_; repeat (first | refine then_ret ?_ | refine blk_ret ?_)
    refine ret1 Try.results9 rfl ?_
    have hb : soonOf ds rs = [] := by unfold soonOf; rw [if_neg (by omega)]
    rw [hb]
    exact ⟨_, [], rfl, (St.own_nil (α := Int) (St.start w)).only 0 rfl⟩
  · skip
    have h1p := of_decide_eq_false h1
    refine wp_skip ?_
    refine wp_seq ?_
    refine sx_region ?_
    refine sx rfl (stp_assign (v := .slice none 0 0) rfl ?_)
    refine sx_nil ?_
    refine wp_seq ?_
    refine wp_seq ?_
    refine sx_region ?_
    refine sx rfl (stp_move (v := v) rfl ?_)
    refine sx rfl (stp_move (v := u) rfl ?_)
    refine sx rfl (stp_call2 Try.func22 rfl rfl rfl ((HandsOfI w (h.below (Below.refl _ _)) (g.below (Below.refl _ _)) (by omega)).mono ?_)); rintro _ W4 ⟨v2, fp2, rfl, hk5⟩; refine ⟨_, rfl, ?_⟩
    have st6 := St.call (St.start w) hk5
    have hhl := handsTo_len ds rs (min ds.length rs.length)
    refine sx rfl (stp_len sl_HandS rfl (own_Sl (st6.get 0 rfl)) ?_)
    refine sx rfl (stp_move (v := I 0) rfl ?_)
    refine sx_nil ?_
    refine wp_block ?_
    have st9 := st6.row_nil (α := Int) 3
    refine sx_loop (fun (m : Nat) (f : Nat → Value) (W : World) => ∃ (k : Nat) (v8 : Value), k ≤ (handsTo ds rs (min ds.length rs.length)).length ∧ m = (handsTo ds rs (min ds.length rs.length)).length - k ∧ f 0 = v ∧ f 1 = u ∧ f 5 = v8 ∧ f 13 = v2 ∧ f 14 = I ((handsTo ds rs (min ds.length rs.length)).length : Int) ∧ f 15 = I (k : Int) ∧ St w W ([Res.row (α := Int) 3 v8 (soonTo ds rs ((handsTo ds rs (min ds.length rs.length)).take k)) [], Res.own (α := List Hand) v2 (handsTo ds rs (min ds.length rs.length)) fp2])) ((handsTo ds rs (min ds.length rs.length)).length - 0) ?_ ?_
    · exact ⟨0, (.slice none 0 0), (by omega), rfl, rfl, rfl, rfl, rfl, rfl, rfl, st9⟩
    intro m11 f12 W13 hJ14
    obtain ⟨k, v8, hk, rfl, hs16_0, hs16_1, hs16_5, hs16_13, hs16_14, hs16_15, st15⟩ := hJ14
    have hsl := soonTo_len ds rs ((handsTo ds rs (min ds.length rs.length)).take k)
    have htl := List.length_take_le k (handsTo ds rs (min ds.length rs.length))
    refine wp_seq ?_
    refine sx_region ?_
    refine sx rfl (stp_lss hs16_15 hs16_14 ?_)
    refine sx_nil ?_
    refine wp_seq ?_
    refine sx_if rfl (fun h17 => ?_) (fun h17 => ?_)
    · skip
      have h17p := of_decide_eq_true h17
      refine wp_skip ?_
      refine wp_seq ?_
      refine wp_block ?_
      refine wp_seq ?_
      refine sx_region ?_
      have hhk := hands_at (ds := ds) (rs := rs) _ (List.getElem_mem (l := (handsTo ds rs (min ds.length rs.length))) (n := k) (by omega))
      have hibbe42 : k < (handsTo ds rs (min ds.length rs.length)).length := (by omega)
      have hq_ := idx (own_Sl (st15.get 1 rfl)) (i := k) hibbe42
      obtain ⟨b18, o18, cs18, f18, hp18, hr18, hc18, hm18⟩ := hq_
      refine sx rfl (stp_indexAddr sl_HandS hs16_13 hp18 hs16_15 rfl ?_)
      refine sx rfl (stp_load_rga ld_Hand rfl rfl hr18 (Below.refl _ _) (Shape.len hc18) ?_)
      refine sx rfl (stp_alloc zz_Hand st15 ?_); intro b19 W20 hb21 st22
      refine sx rfl (stp_store_all (cs := cs18) ld_Hand hc18 rfl rfl st22 rfl ?_); intro W24 st25
      refine sx_nil ?_
      refine wp_seq ?_
      refine sx_region ?_
      refine sx rfl (stp_move (v := v) hs16_0 ?_)
      refine sx rfl (stp_move (v := u) hs16_1 ?_)
      refine sx rfl (stp_load_bxa ld_Hand rfl rfl (st25.get 0 rfl) (Shape.len hc18) ?_)
      refine sx rfl (stp_call3 Try.func23 rfl rfl rfl rfl ((TooSoonI W24 (h.below st25.below) (g.below st25.below) hc18 (by omega)).mono ?_)); rintro _ W26 ⟨rfl, hk27⟩; refine ⟨_, rfl, ?_⟩
      have st28 := St.call st25 hk27
      refine sx_nil ?_
      refine sx_if rfl (fun h30 => ?_) (fun h30 => ?_)
      · skip
        refine sx_region ?_
        refine sx rfl (stp_move (v := v8) hs16_5 ?_)
        refine sx rfl (stp_fieldAddr fa_Hand_3 rfl ?_)
        have hk31 := hc18
        obtain ⟨he31, rfl, hok31⟩ := hk31
        have he31 : _ = [I ((handsTo ds rs (min ds.length rs.length))[k]'hibbe42).run, I ((handsTo ds rs (min ds.length rs.length))[k]'hibbe42).task, I ((handsTo ds rs (min ds.length rs.length))[k]'hibbe42).try_, I ((handsTo ds rs (min ds.length rs.length))[k]'hibbe42).at_] := he31
        subst he31
        refine sx rfl (stp_load_bx ld_int rfl rfl (st28.get 0 rfl) (i := 3) rfl rfl ?_)
        refine sx rfl (stp_buildSlice (cs := [I ((handsTo ds rs (min ds.length rs.length))[k]'hibbe42).at_]) (e := 3) (pcons (v := I ((handsTo ds rs (min ds.length rs.length))[k]'hibbe42).at_) rfl pnil) (run_buildSlice1 ap_IntS _ _ rfl rfl (by decide)) st28 ?_); intro b32 W33 hb34 st35
        have st37 := st35.f2
        refine sx rfl (stp_append_bx (ys := [((handsTo ds rs (min ds.length rs.length))[k]'hibbe42).at_]) ap_IntS rfl rfl rfl st37 (Elems.ic (by simp only [I64]; omega) Elems.i0) (by unfold maxLen; omega) (by omega) ?_); intro v38 W39 st40
        refine sx rfl (stp_assign (v := v38) rfl ?_)
        refine sx_nil ?_
        refine sx_region ?_
        refine sx rfl (stp_add hs16_15 rfl (by (simp only [I64] at *; omega)) ?_)
        refine sx rfl (stp_move (v := I ((k : Int) + 1)) rfl ?_)
        refine sx_nil ?_
        have st41 := st40.f2
        have st42 := st41.f1
        have st43 := st42.d2
        exact ⟨_, (handsTo ds rs (min ds.length rs.length)).length - (k + 1), (by omega), rfl, k + 1, v38, (by omega), rfl, hs16_0, hs16_1, rfl, hs16_13, hs16_14, rfl, (by rw [soonTo_t (by omega) h30]; exact st43)⟩
      · skip
        refine wp_skip ?_
        refine sx_region ?_
        refine sx rfl (stp_add hs16_15 rfl (by (simp only [I64] at *; omega)) ?_)
        refine sx rfl (stp_move (v := I ((k : Int) + 1)) rfl ?_)
        refine sx_nil ?_
        have st44 := st28.f2
        have st45 := st44.f2
        have st46 := st45.d2
        exact ⟨_, (handsTo ds rs (min ds.length rs.length)).length - (k + 1), (by omega), rfl, k + 1, v8, (by omega), rfl, hs16_0, hs16_1, hs16_5, hs16_13, hs16_14, rfl, (by rw [soonTo_f (by omega) h30]; exact st46)⟩
    · skip
      have h17p := of_decide_eq_false h17
      refine wp_exit ?_
      refine wp_seq ?_
      refine sx_region ?_
      refine sx rfl (stp_move (v := v8) hs16_5 ?_)
      refine sx rfl (stp_assign (v := v8) rfl ?_)
      refine sx_nil ?_
      refine wp_ret ?_; repeat (first | refine then_ret ?_ | refine blk_ret ?_)
      refine ret1 Try.results9 rfl ?_
      obtain rfl : k = (handsTo ds rs (min ds.length rs.length)).length := by omega
      rw [List.take_length] at st15
      have hb : soonOf ds rs = soonTo ds rs (handsTo ds rs (min ds.length rs.length)) := by unfold soonOf; rw [if_pos (by omega)]
      rw [hb]
      have hq_ := st15.shut
      obtain ⟨fpz, stz⟩ := hq_
      exact ⟨_, fpz, rfl, stz.only 0 rfl⟩
set_option maxHeartbeats 2000000 in
theorem SoonS (w : World) {v u : Value} {ds : List Deed} {rs : List Reply} {fp gp : List Nat} (h : Sl w v ds fp) (g : Sl w u rs gp) :
    Calls Try.prog 6 #[v, u] w fun e w' => ∃ (v : Value) (fp' : List Nat), e = .returned v ∧ St w w' [Res.own v (soonOf ds rs) fp'] := by
  have hcap := h.len_le
  have hcap2 := g.len_le
  refine enter2 Try.func6 rfl Try.ntmps6 (by decide) ?_
  refine wp_seq ?_
  refine sx_region ?_
  refine sx rfl (stp_assign (v := .slice none 0 0) rfl ?_)
  refine sx_nil ?_
  refine wp_seq ?_
  refine sx_region ?_
  refine sx rfl (stp_buildSlice (cs := []) (e := 3) pnil (run_buildSlice0 ap_IntS _) (St.start w) ?_); intro b1 W2 hb3 st4
  have st4 := st4.row_empty (α := Int)
  refine sx rfl (stp_assign (v := (.slice (some ⟨b1, 0, none⟩) 0 0)) rfl ?_)
  refine sx_nil ?_
  refine wp_seq ?_
  refine wp_seq ?_
  refine sx_region ?_
  refine sx rfl (stp_move (v := v) rfl ?_)
  refine sx rfl (stp_len sl_DeedS rfl h ?_)
  refine sx rfl (stp_gtr rfl rfl ?_)
  refine sx_nil ?_
  refine sx_if rfl (fun h6 => ?_) (fun h6 => ?_)
  · skip
    have h6p := of_decide_eq_true h6
    refine wp_seq ?_
    refine sx_region ?_
    refine sx rfl (stp_move (v := (.slice (some ⟨b1, 0, none⟩) 0 0)) rfl ?_)
    refine sx rfl (stp_assign (v := (.slice (some ⟨b1, 0, none⟩) 0 0)) rfl ?_)
    refine sx_nil ?_
    refine wp_ret ?_; repeat (first | refine then_ret ?_ | refine blk_ret ?_)
    refine ret1 Try.results6 rfl ?_
    have hb : soonOf ds rs = [] := by unfold soonOf; rw [if_neg (by omega)]
    rw [hb]
    have hq_ := st4.shut
    obtain ⟨fpz, stz⟩ := hq_
    exact ⟨_, fpz, rfl, stz.only 0 rfl⟩
  · skip
    have h6p := of_decide_eq_false h6
    refine wp_skip ?_
    refine wp_seq ?_
    refine sx_region ?_
    refine sx rfl (stp_move (v := v) rfl ?_)
    refine sx rfl (stp_move (v := u) rfl ?_)
    refine sx rfl (stp_call2 Try.func18 rfl rfl rfl ((HandsOfS W2 (h.below st4.below) (g.below st4.below) (by omega)).mono ?_)); rintro _ W9 ⟨v7, fp7, rfl, hk10⟩; refine ⟨_, rfl, ?_⟩
    have st11 := St.call st4 hk10
    refine sx rfl (stp_assign (v := v7) rfl ?_)
    refine sx_nil ?_
    refine wp_seq ?_
    refine wp_seq ?_
    refine sx_region ?_
    have hhl := handsTo_len ds rs (min ds.length rs.length)
    refine sx rfl (stp_assign (v := I 0) rfl ?_)
    refine sx_nil ?_
    refine wp_block ?_
    refine sx_loop (fun (m : Nat) (f : Nat → Value) (W : World) => ∃ (k : Nat) (v13 : Value), k ≤ (handsTo ds rs (min ds.length rs.length)).length ∧ m = (handsTo ds rs (min ds.length rs.length)).length - k ∧ f 0 = v ∧ f 1 = u ∧ f 5 = v13 ∧ f 6 = v7 ∧ f 7 = I (k : Int) ∧ St w W ([Res.own (α := List Hand) v7 (handsTo ds rs (min ds.length rs.length)) fp7, Res.row (α := Int) 3 v13 (soonTo ds rs ((handsTo ds rs (min ds.length rs.length)).take k)) []])) ((handsTo ds rs (min ds.length rs.length)).length - 0) ?_ ?_
    · exact ⟨0, (.slice (some ⟨b1, 0, none⟩) 0 0), (by omega), rfl, rfl, rfl, rfl, rfl, rfl, st11⟩
    intro m14 f15 W16 hJ17
    obtain ⟨k, v13, hk, rfl, hs19_0, hs19_1, hs19_5, hs19_6, hs19_7, st18⟩ := hJ17
    have hsl := soonTo_len ds rs ((handsTo ds rs (min ds.length rs.length)).take k)
    have htl := List.length_take_le k (handsTo ds rs (min ds.length rs.length))
    refine wp_seq ?_
    refine wp_seq ?_
    refine sx_region ?_
    refine sx rfl (stp_move (v := I (k : Int)) hs19_7 ?_)
    refine sx rfl (stp_move (v := v7) hs19_6 ?_)
    refine sx rfl (stp_len sl_HandS rfl (own_Sl (st18.get 0 rfl)) ?_)
    refine sx rfl (stp_lss rfl rfl ?_)
    refine sx_nil ?_
    refine sx_if rfl (fun h20 => ?_) (fun h20 => ?_)
    · skip
      have h20p := of_decide_eq_true h20
      refine wp_skip ?_
      refine wp_seq ?_
      refine wp_block ?_
      refine wp_seq ?_
      refine sx_region ?_
      have hhk := hands_at (ds := ds) (rs := rs) _ (List.getElem_mem (l := (handsTo ds rs (min ds.length rs.length))) (n := k) (by omega))
      refine sx rfl (stp_move (v := v) hs19_0 ?_)
      refine sx rfl (stp_move (v := u) hs19_1 ?_)
      refine sx rfl (stp_move (v := v7) hs19_6 ?_)
      refine sx rfl (stp_move (v := I (k : Int)) hs19_7 ?_)
      have hibbe42 : k < (handsTo ds rs (min ds.length rs.length)).length := (by omega)
      have hq_ := idx (own_Sl (st18.get 0 rfl)) (i := k) hibbe42
      obtain ⟨b21, o21, cs21, f21, hp21, hr21, hc21, hm21⟩ := hq_
      refine sx rfl (stp_indexAddr sl_HandS rfl hp21 rfl rfl ?_)
      refine sx rfl (stp_load_rga ld_Hand rfl rfl hr21 (Below.refl _ _) (Shape.len hc21) ?_)
      refine sx rfl (stp_call3 Try.func19 rfl rfl rfl rfl ((EarlyS W16 (h.below st18.below) (g.below st18.below) hc21 (by omega)).mono ?_)); rintro _ W22 ⟨rfl, hk23⟩; refine ⟨_, rfl, ?_⟩
      have st24 := St.call st18 hk23
      refine sx_nil ?_
      refine sx_if rfl (fun h26 => ?_) (fun h26 => ?_)
      · skip
        refine sx_region ?_
        refine sx rfl (stp_move (v := v13) hs19_5 ?_)
        refine sx rfl (stp_move (v := v7) hs19_6 ?_)
        refine sx rfl (stp_move (v := I (k : Int)) hs19_7 ?_)
        have hibbe42 : k < (handsTo ds rs (min ds.length rs.length)).length := (by omega)
        have hq_ := idx (own_Sl (st24.get 0 rfl)) (i := k) hibbe42
        obtain ⟨b27, o27, cs27, f27, hp27, hr27, hc27, hm27⟩ := hq_
        refine sx rfl (stp_indexAddr sl_HandS rfl hp27 rfl rfl ?_)
        refine sx rfl (stp_fieldAddr fa_Hand_3 rfl ?_)
        have hk28 := hc27
        obtain ⟨he28, rfl, hok28⟩ := hk28
        have he28 : _ = [I ((handsTo ds rs (min ds.length rs.length))[k]'hibbe42).run, I ((handsTo ds rs (min ds.length rs.length))[k]'hibbe42).task, I ((handsTo ds rs (min ds.length rs.length))[k]'hibbe42).try_, I ((handsTo ds rs (min ds.length rs.length))[k]'hibbe42).at_] := he28
        subst he28
        refine sx rfl (stp_load_rg ld_int rfl rfl hr27 (Below.refl _ _) (i := 3) rfl rfl ?_)
        refine sx rfl (stp_buildSlice (cs := [I ((handsTo ds rs (min ds.length rs.length))[k]'hibbe42).at_]) (e := 3) (pcons (v := I ((handsTo ds rs (min ds.length rs.length))[k]'hibbe42).at_) rfl pnil) (run_buildSlice1 ap_IntS _ _ rfl rfl (by decide)) st24 ?_); intro b29 W30 hb31 st32
        have st34 := st32.f2
        refine sx rfl (stp_append_bx (ys := [((handsTo ds rs (min ds.length rs.length))[k]'hibbe42).at_]) ap_IntS rfl rfl rfl st34 (Elems.ic (by simp only [I64]; omega) Elems.i0) (by unfold maxLen; omega) (by omega) ?_); intro v35 W36 st37
        refine sx rfl (stp_assign (v := v35) rfl ?_)
        refine sx_nil ?_
        refine sx_region ?_
        refine sx rfl (stp_move (v := I (k : Int)) hs19_7 ?_)
        refine sx rfl (stp_add rfl rfl (by (simp only [I64] at *; omega)) ?_)
        have hhl := handsTo_len ds rs (min ds.length rs.length)
        refine sx rfl (stp_assign (v := I ((k : Int) + 1)) rfl ?_)
        refine sx_nil ?_
        have st38 := st37.f1
        exact ⟨_, (handsTo ds rs (min ds.length rs.length)).length - (k + 1), (by omega), rfl, k + 1, v35, (by omega), rfl, hs19_0, hs19_1, rfl, hs19_6, rfl, (by rw [soonTo_t (by omega) h26]; exact st38)⟩
      · skip
        refine wp_skip ?_
        refine sx_region ?_
        refine sx rfl (stp_move (v := I (k : Int)) hs19_7 ?_)
        refine sx rfl (stp_add rfl rfl (by (simp only [I64] at *; omega)) ?_)
        have hhl := handsTo_len ds rs (min ds.length rs.length)
        refine sx rfl (stp_assign (v := I ((k : Int) + 1)) rfl ?_)
        refine sx_nil ?_
        exact ⟨_, (handsTo ds rs (min ds.length rs.length)).length - (k + 1), (by omega), rfl, k + 1, v13, (by omega), rfl, hs19_0, hs19_1, hs19_5, hs19_6, rfl, (by rw [soonTo_f (by omega) h26]; exact st24)⟩
    · skip
      have h20p := of_decide_eq_false h20
      refine wp_exit ?_
      refine wp_seq ?_
      refine sx_region ?_
      refine sx rfl (stp_move (v := v13) hs19_5 ?_)
      refine sx rfl (stp_assign (v := v13) rfl ?_)
      refine sx_nil ?_
      refine wp_ret ?_; repeat (first | refine then_ret ?_ | refine blk_ret ?_)
      refine ret1 Try.results6 rfl ?_
      have st39 := st18.f1
      obtain rfl : k = (handsTo ds rs (min ds.length rs.length)).length := by omega
      rw [List.take_length] at st39
      have hb : soonOf ds rs = soonTo ds rs (handsTo ds rs (min ds.length rs.length)) := by unfold soonOf; rw [if_pos (by omega)]
      rw [hb]
      have hq_ := st39.shut
      obtain ⟨fpz, stz⟩ := hq_
      exact ⟨_, fpz, rfl, stz.only 0 rfl⟩
end Go.Proofs.Ytchnllpegfbleaa
