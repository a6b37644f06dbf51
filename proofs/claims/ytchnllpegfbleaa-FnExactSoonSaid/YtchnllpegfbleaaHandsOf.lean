/-
  HandsOf, of the program and of the reference. (Printed by a program of this project's.)
-/
import Derived.Test.YtchnllpegfbleaaSxMin
import Derived.Test.YtchnllpegfbleaaKBase
namespace Go.Proofs.Ytchnllpegfbleaa
set_option linter.unusedSimpArgs false
set_option linter.unusedVariables false
set_option maxRecDepth 100000
open Go.RowKit


def handAt (ds : List Deed) (rs : List Reply) (i : Nat) : Option Hand :=
  match ds[i]?, rs[i]? with
  | some d, some r => if d.kind = 2 ∧ r.code = 0 then some ⟨r.run, r.task, r.try_, i⟩ else none
  | _, _ => none
/-- What was handed out, up to a place. -/
def handsTo (ds : List Deed) (rs : List Reply) (k : Nat) : List Hand := (List.range k).filterMap (handAt ds rs)
theorem handsTo_len (ds : List Deed) (rs : List Reply) (k : Nat) : (handsTo ds rs k).length ≤ k := by
  unfold handsTo
  have := List.length_filterMap_le (handAt ds rs) (List.range k)
  rwa [List.length_range] at this
theorem handsTo_t {ds : List Deed} {rs : List Reply} {k : Nat} (h1 : k < ds.length) (h2 : k < rs.length) (h : ds[k].kind = 2 ∧ rs[k].code = 0) : handsTo ds rs (k + 1) = handsTo ds rs k ++ [⟨rs[k].run, rs[k].task, rs[k].try_, k⟩] := by
  unfold handsTo
  rw [List.range_succ, List.filterMap_append]
  simp [handAt, h1, h2, h]
theorem handsTo_f {ds : List Deed} {rs : List Reply} {k : Nat} (h1 : k < ds.length) (h2 : k < rs.length) (h : ¬ (ds[k].kind = 2 ∧ rs[k].code = 0)) : handsTo ds rs (k + 1) = handsTo ds rs k := by
  unfold handsTo
  rw [List.range_succ, List.filterMap_append]
  have : handAt ds rs k = none := by simp only [handAt, List.getElem?_eq_getElem h1, List.getElem?_eq_getElem h2, if_neg h]
  simp [this]

set_option maxHeartbeats 2000000 in
theorem HandsOfI (w : World) {v u : Value} {ds : List Deed} {rs : List Reply} {fp gp : List Nat} (h : Sl w v ds fp) (g : Sl w u rs gp) (hl : ds.length ≤ 1048576) :
    Calls Try.prog 22 #[v, u] w fun e w' => ∃ v fp', e = .returned v ∧ St w w' [Res.own v (handsTo ds rs (min ds.length rs.length)) fp'] := by
  have hcap := g.len_le
  refine enter2 Try.func22 rfl Try.ntmps22 (by decide) ?_
  refine wp_seq ?_
  refine sx_region ?_
  refine sx rfl (stp_assign (v := .slice none 0 0) rfl ?_)
  refine sx_nil ?_
  refine wp_seq ?_
  refine sx_region ?_
  refine sx rfl (stp_assign (v := .slice none 0 0) rfl ?_)
  refine sx_nil ?_
  refine wp_seq ?_
  refine wp_seq ?_
  refine sx_region ?_
  refine sx rfl (stp_assign (v := I 0) rfl ?_)
  refine sx_nil ?_
  refine wp_block ?_
  have st2 := (St.start w).row_nil (α := Hand) 49
  refine sx_loop (fun (m : Nat) (f : Nat → Value) (W : World) => ∃ (k : Nat) (v1 : Value), k ≤ ds.length ∧ k ≤ rs.length ∧ m = ds.length - k ∧ f 0 = v ∧ f 1 = u ∧ f 5 = v1 ∧ f 6 = I (k : Int) ∧ St w W ([Res.row (α := Hand) 49 v1 (handsTo ds rs k) []])) (ds.length - 0) ?_ ?_
  · exact ⟨0, (.slice none 0 0), Nat.zero_le _, Nat.zero_le _, rfl, rfl, rfl, rfl, rfl, st2⟩
  intro m4 f5 W6 hJ7
  obtain ⟨k, v1, hcd9_0, hcd9_1, rfl, hs9_0, hs9_1, hs9_5, hs9_6, st8⟩ := hJ7
  have hlen := handsTo_len ds rs k
  refine wp_seq ?_
  refine wp_seq ?_
  refine sx_region ?_
  refine sx rfl (stp_move (v := I (k : Int)) hs9_6 ?_)
  refine sx rfl (stp_move (v := v) hs9_0 ?_)
  refine sx rfl (stp_len sl_DeedS rfl h ?_)
  refine sx rfl (stp_move (v := u) hs9_1 ?_)
  refine sx rfl (stp_len sl_ReplyS rfl g ?_)
  refine sx rfl (stp_min rfl rfl ?_)
  refine sx rfl (stp_lss rfl rfl ?_)
  refine sx_nil ?_
  refine sx_if rfl (fun h10 => ?_) (fun h10 => ?_)
  · skip
    have h10p := of_decide_eq_true h10
    refine wp_skip ?_
    refine wp_seq ?_
    refine wp_block ?_
    refine wp_seq ?_
    refine sx_region ?_
    refine sx rfl (stp_move (v := u) hs9_1 ?_)
    refine sx rfl (stp_move (v := I (k : Int)) hs9_6 ?_)
    have hif035d : k < rs.length := (by omega)
    have hq_ := idx g (i := k) hif035d
    obtain ⟨b11, o11, cs11, f11, hp11, hr11, hc11, hm11⟩ := hq_
    refine sx rfl (stp_indexAddr sl_ReplyS rfl hp11 rfl rfl ?_)
    refine sx rfl (stp_load_rga ld_Reply rfl rfl hr11 st8.below (Shape.len hc11) ?_)
    refine sx rfl (stp_alloc zz_Reply st8 ?_); intro b12 W13 hb14 st15
    refine sx rfl (stp_store_all (cs := cs11) ld_Reply hc11 rfl rfl st15 rfl ?_); intro W17 st18
    refine sx_nil ?_
    refine wp_seq ?_
    refine sx_region ?_
    refine sx rfl (stp_move (v := v) hs9_0 ?_)
    refine sx rfl (stp_move (v := I (k : Int)) hs9_6 ?_)
    have hi7a651 : k < ds.length := (by omega)
    have hq_ := idx h (i := k) hi7a651
    obtain ⟨b19, o19, cs19, f19, hp19, hr19, hc19, hm19⟩ := hq_
    refine sx rfl (stp_indexAddr sl_DeedS rfl hp19 rfl rfl ?_)
    refine sx rfl (stp_fieldAddr fa_Deed_0 rfl ?_)
    have hk20 := hc19
    obtain ⟨v20_0, g20_0, rfl, hok20, h20_0, rfl⟩ := hk20
    refine sx rfl (stp_load_rg ld_int rfl rfl hr19 st18.below (i := 0) rfl rfl ?_)
    refine sx rfl (stp_eql rfl rfl ?_)
    refine sx rfl (stp_move (v := .bool (decide ((ds[k]'hi7a651).kind = 2))) rfl ?_)
    rcases bd (decide ((ds[k]'hi7a651).kind = 2)) with h21 | h21
    · skip
      have h21p := of_decide_eq_false h21
      refine sx_off (j := 6) (dd := 27) rfl rfl (by decide) (yl_off (e := decide ((ds[k]'hi7a651).kind = 2)) rfl h21) ?_
      refine sx_off (j := 6) (dd := 27) rfl rfl (by decide) (yl_off (e := decide ((ds[k]'hi7a651).kind = 2)) rfl h21) ?_
      refine sx_off (j := 6) (dd := 27) rfl rfl (by decide) (yl_off (e := decide ((ds[k]'hi7a651).kind = 2)) rfl h21) ?_
      refine sx rfl (stp_pick_f (v := .bool false) ((rfl : _ = (.bool (decide ((ds[k]'hi7a651).kind = 2)) : Value)).trans (congrArg Value.bool h21)) rfl ?_)
      refine sx_nil ?_
      refine sx_f rfl rfl ?_
      refine wp_skip ?_
      refine sx_region ?_
      refine sx rfl (stp_move (v := I (k : Int)) hs9_6 ?_)
      refine sx rfl (stp_add rfl rfl (by (simp only [I64] at *; omega)) ?_)
      refine sx rfl (stp_assign (v := I ((k : Int) + 1)) rfl ?_)
      refine sx_nil ?_
      have st22 := st18.f1
      have st23 := st22.d1
      exact ⟨_, ds.length - (k + 1), (by omega), rfl, k + 1, v1, (by omega), (by omega), rfl, hs9_0, hs9_1, hs9_5, rfl, (by rw [handsTo_f (by omega) (by omega) (by omega)]; exact st23)⟩
    · skip
      have h21p := of_decide_eq_true h21
      refine sx_on (j := 6) (dd := 27) rfl rfl (by decide) (yl_on (e := decide ((ds[k]'hi7a651).kind = 2)) rfl h21) (stp_fieldAddr fa_Reply_0 rfl ?_)
      have hk24 := hc11
      obtain ⟨he24, rfl, hok24⟩ := hk24
      have he24 : _ = [I (rs[k]'hif035d).code, I (rs[k]'hif035d).run, I (rs[k]'hif035d).task, I (rs[k]'hif035d).try_] := he24
      subst he24
      refine sx_on (j := 6) (dd := 27) rfl rfl (by decide) (yl_on (e := decide ((ds[k]'hi7a651).kind = 2)) rfl h21) (stp_load_bx ld_int rfl rfl (st18.get 0 rfl) (i := 0) rfl rfl ?_)
      refine sx_on (j := 6) (dd := 27) rfl rfl (by decide) (yl_on (e := decide ((ds[k]'hi7a651).kind = 2)) rfl h21) (stp_eql rfl rfl ?_)
      refine sx rfl (stp_pick_t (v := .bool (decide ((rs[k]'hif035d).code = 0))) ((rfl : _ = (.bool (decide ((ds[k]'hi7a651).kind = 2)) : Value)).trans (congrArg Value.bool h21)) rfl ?_)
      refine sx_nil ?_
      refine sx_if rfl (fun h25 => ?_) (fun h25 => ?_)
      · skip
        have h25p := of_decide_eq_true h25
        refine sx_region ?_
        refine sx rfl (stp_move (v := v1) hs9_5 ?_)
        refine sx rfl (stp_fieldAddr fa_Reply_1 rfl ?_)
        refine sx rfl (stp_load_bx ld_int rfl rfl (st18.get 0 rfl) (i := 1) rfl rfl ?_)
        refine sx rfl (stp_fieldAddr fa_Reply_2 rfl ?_)
        refine sx rfl (stp_load_bx ld_int rfl rfl (st18.get 0 rfl) (i := 2) rfl rfl ?_)
        refine sx rfl (stp_fieldAddr fa_Reply_3 rfl ?_)
        refine sx rfl (stp_load_bx ld_int rfl rfl (st18.get 0 rfl) (i := 3) rfl rfl ?_)
        refine sx rfl (stp_move (v := I (k : Int)) hs9_6 ?_)
        refine sx rfl (stp_build (vs := [(0, I (rs[k]'hif035d).run), (1, I (rs[k]'hif035d).task), (2, I (rs[k]'hif035d).try_), (3, I (k : Int))]) (cs := [I (rs[k]'hif035d).run, I (rs[k]'hif035d).task, I (rs[k]'hif035d).try_, I (k : Int)]) (pcons (v := I (rs[k]'hif035d).run) rfl (pcons (v := I (rs[k]'hif035d).task) rfl (pcons (v := I (rs[k]'hif035d).try_) rfl (pcons (v := I (k : Int)) rfl pnil)))) (by kernel_rfl) ?_)
        refine sx rfl (stp_buildSlice (cs := [I (rs[k]'hif035d).run, I (rs[k]'hif035d).task, I (rs[k]'hif035d).try_, I (k : Int)]) (e := 49) (pcons (v := .agg #[I (rs[k]'hif035d).run, I (rs[k]'hif035d).task, I (rs[k]'hif035d).try_, I (k : Int)]) rfl pnil) (run_buildSlice1 ap_HandS _ _ rfl rfl (by decide)) st18 ?_); intro b26 W27 hb28 st29
        have st31 := st29.f2
        refine sx rfl (stp_append_bx (ys := [(⟨(rs[k]'hif035d).run, (rs[k]'hif035d).task, (rs[k]'hif035d).try_, (k : Int)⟩ : Hand)]) ap_HandS rfl rfl rfl st31 (Elems.one1 ⟨rfl, rfl, (by simp only [Hand.ok, Reply.ok, I64] at *; omega)⟩) (by unfold maxLen; omega) (by omega) ?_); intro v32 W33 st34
        refine sx rfl (stp_assign (v := v32) rfl ?_)
        refine sx_nil ?_
        refine sx_region ?_
        refine sx rfl (stp_move (v := I (k : Int)) hs9_6 ?_)
        refine sx rfl (stp_add rfl rfl (by (simp only [I64] at *; omega)) ?_)
        refine sx rfl (stp_assign (v := I ((k : Int) + 1)) rfl ?_)
        refine sx_nil ?_
        have st35 := st34.d1
        exact ⟨_, ds.length - (k + 1), (by omega), rfl, k + 1, v32, (by omega), (by omega), rfl, hs9_0, hs9_1, rfl, rfl, (by rw [handsTo_t (by omega) (by omega) (by omega)]; exact st35)⟩
      · skip
        have h25p := of_decide_eq_false h25
        refine wp_skip ?_
        refine sx_region ?_
        refine sx rfl (stp_move (v := I (k : Int)) hs9_6 ?_)
        refine sx rfl (stp_add rfl rfl (by (simp only [I64] at *; omega)) ?_)
        refine sx rfl (stp_assign (v := I ((k : Int) + 1)) rfl ?_)
        refine sx_nil ?_
        have st36 := st18.f1
        have st37 := st36.d1
        exact ⟨_, ds.length - (k + 1), (by omega), rfl, k + 1, v1, (by omega), (by omega), rfl, hs9_0, hs9_1, hs9_5, rfl, (by rw [handsTo_f (by omega) (by omega) (by omega)]; exact st37)⟩
  · skip
    have h10p := of_decide_eq_false h10
    refine wp_exit ?_
    refine wp_seq ?_
    refine sx_region ?_
    refine sx rfl (stp_move (v := v1) hs9_5 ?_)
    refine sx rfl (stp_assign (v := v1) rfl ?_)
    refine sx_nil ?_
    refine wp_ret ?_; repeat (first | refine then_ret ?_ | refine blk_ret ?_)
    refine ret1 Try.results22 rfl ?_
    obtain rfl : k = min ds.length rs.length := by omega
    have hq_ := st8.shut
    obtain ⟨fpz, stz⟩ := hq_
    exact ⟨_, fpz, rfl, stz.only 0 rfl⟩
set_option maxHeartbeats 2000000 in
theorem HandsOfS (w : World) {v u : Value} {ds : List Deed} {rs : List Reply} {fp gp : List Nat} (h : Sl w v ds fp) (g : Sl w u rs gp) (hl : ds.length ≤ 1048576) :
    Calls Try.prog 18 #[v, u] w fun e w' => ∃ v fp', e = .returned v ∧ St w w' [Res.own v (handsTo ds rs (min ds.length rs.length)) fp'] := by
  have hcap := g.len_le
  refine enter2 Try.func18 rfl Try.ntmps18 (by decide) ?_
  refine wp_seq ?_
  refine sx_region ?_
  refine sx rfl (stp_assign (v := .slice none 0 0) rfl ?_)
  refine sx_nil ?_
  refine wp_seq ?_
  refine sx_region ?_
  refine sx rfl (stp_buildSlice (cs := []) (e := 49) pnil (run_buildSlice0 ap_HandS _) (St.start w) ?_); intro b1 W2 hb3 st4
  have st4 := st4.row_empty (α := Hand)
  refine sx rfl (stp_assign (v := (.slice (some ⟨b1, 0, none⟩) 0 0)) rfl ?_)
  refine sx_nil ?_
  refine wp_seq ?_
  refine wp_seq ?_
  refine sx_region ?_
  refine sx rfl (stp_assign (v := I 0) rfl ?_)
  refine sx_nil ?_
  refine wp_block ?_
  refine sx_loop (fun (m : Nat) (f : Nat → Value) (W : World) => ∃ (k : Nat) (v6 : Value), k ≤ ds.length ∧ k ≤ rs.length ∧ m = ds.length - k ∧ f 0 = v ∧ f 1 = u ∧ f 5 = v6 ∧ f 6 = I (k : Int) ∧ St w W ([Res.row (α := Hand) 49 v6 (handsTo ds rs k) []])) (ds.length - 0) ?_ ?_
  · exact ⟨0, (.slice (some ⟨b1, 0, none⟩) 0 0), Nat.zero_le _, Nat.zero_le _, rfl, rfl, rfl, rfl, rfl, st4⟩
  intro m7 f8 W9 hJ10
  obtain ⟨k, v6, hcd12_0, hcd12_1, rfl, hs12_0, hs12_1, hs12_5, hs12_6, st11⟩ := hJ10
  have hlen := handsTo_len ds rs k
  refine wp_seq ?_
  refine wp_seq ?_
  refine sx_region ?_
  refine sx rfl (stp_move (v := I (k : Int)) hs12_6 ?_)
  refine sx rfl (stp_move (v := v) hs12_0 ?_)
  refine sx rfl (stp_len sl_DeedS rfl h ?_)
  refine sx rfl (stp_lss rfl rfl ?_)
  refine sx rfl (stp_move (v := .bool (decide ((k : Int) < (ds.length : Int)))) rfl ?_)
  rcases bd (decide ((k : Int) < (ds.length : Int))) with h13 | h13
  · skip
    have h13p := of_decide_eq_false h13
    refine sx_off (j := 4) (dd := 12) rfl rfl (by decide) (yl_off (e := decide ((k : Int) < (ds.length : Int))) rfl h13) ?_
    refine sx_off (j := 4) (dd := 12) rfl rfl (by decide) (yl_off (e := decide ((k : Int) < (ds.length : Int))) rfl h13) ?_
    refine sx_off (j := 4) (dd := 12) rfl rfl (by decide) (yl_off (e := decide ((k : Int) < (ds.length : Int))) rfl h13) ?_
    refine sx_off (j := 4) (dd := 12) rfl rfl (by decide) (yl_off (e := decide ((k : Int) < (ds.length : Int))) rfl h13) ?_
    refine sx rfl (stp_pick_f (v := .bool false) ((rfl : _ = (.bool (decide ((k : Int) < (ds.length : Int))) : Value)).trans (congrArg Value.bool h13)) rfl ?_)
    refine sx_nil ?_
    refine sx_f rfl rfl ?_
    refine wp_exit ?_
    refine wp_seq ?_
    refine sx_region ?_
    refine sx rfl (stp_move (v := v6) hs12_5 ?_)
    refine sx rfl (stp_assign (v := v6) rfl ?_)
    refine sx_nil ?_
    refine wp_ret ?_; repeat (first | refine then_ret ?_ | refine blk_ret ?_)
    refine ret1 Try.results18 rfl ?_
    obtain rfl : k = min ds.length rs.length := by omega
    have hq_ := st11.shut
    obtain ⟨fpz, stz⟩ := hq_
    exact ⟨_, fpz, rfl, stz.only 0 rfl⟩
  · skip
    have h13p := of_decide_eq_true h13
    refine sx_on (j := 4) (dd := 12) rfl rfl (by decide) (yl_on (e := decide ((k : Int) < (ds.length : Int))) rfl h13) (stp_move (v := I (k : Int)) hs12_6 ?_)
    refine sx_on (j := 4) (dd := 12) rfl rfl (by decide) (yl_on (e := decide ((k : Int) < (ds.length : Int))) rfl h13) (stp_move (v := u) hs12_1 ?_)
    refine sx_on (j := 4) (dd := 12) rfl rfl (by decide) (yl_on (e := decide ((k : Int) < (ds.length : Int))) rfl h13) (stp_len sl_ReplyS rfl g ?_)
    refine sx_on (j := 4) (dd := 12) rfl rfl (by decide) (yl_on (e := decide ((k : Int) < (ds.length : Int))) rfl h13) (stp_lss rfl rfl ?_)
    refine sx rfl (stp_pick_t (v := .bool (decide ((k : Int) < (rs.length : Int)))) ((rfl : _ = (.bool (decide ((k : Int) < (ds.length : Int))) : Value)).trans (congrArg Value.bool h13)) rfl ?_)
    refine sx_nil ?_
    refine sx_if rfl (fun h14 => ?_) (fun h14 => ?_)
    · skip
      have h14p := of_decide_eq_true h14
      refine wp_skip ?_
      refine wp_seq ?_
      refine wp_block ?_
      refine wp_seq ?_
      refine sx_region ?_
      refine sx rfl (stp_move (v := v) hs12_0 ?_)
      refine sx rfl (stp_move (v := I (k : Int)) hs12_6 ?_)
      have hi7a651 : k < ds.length := (by omega)
      have hq_ := idx h (i := k) hi7a651
      obtain ⟨b15, o15, cs15, f15, hp15, hr15, hc15, hm15⟩ := hq_
      refine sx rfl (stp_indexAddr sl_DeedS rfl hp15 rfl rfl ?_)
      refine sx rfl (stp_fieldAddr fa_Deed_0 rfl ?_)
      have hk16 := hc15
      obtain ⟨v16_0, g16_0, rfl, hok16, h16_0, rfl⟩ := hk16
      refine sx rfl (stp_load_rg ld_int rfl rfl hr15 st11.below (i := 0) rfl rfl ?_)
      refine sx rfl (stp_eql rfl rfl ?_)
      refine sx rfl (stp_move (v := .bool (decide ((ds[k]'hi7a651).kind = 2))) rfl ?_)
      rcases bd (decide ((ds[k]'hi7a651).kind = 2)) with h17 | h17
      · skip
        have h17p := of_decide_eq_false h17
        refine sx_off (j := 6) (dd := 26) rfl rfl (by decide) (yl_off (e := decide ((ds[k]'hi7a651).kind = 2)) rfl h17) ?_
        refine sx_off (j := 6) (dd := 26) rfl rfl (by decide) (yl_off (e := decide ((ds[k]'hi7a651).kind = 2)) rfl h17) ?_
        refine sx_off (j := 6) (dd := 26) rfl rfl (by decide) (yl_off (e := decide ((ds[k]'hi7a651).kind = 2)) rfl h17) ?_
        refine sx_off (j := 6) (dd := 26) rfl rfl (by decide) (yl_off (e := decide ((ds[k]'hi7a651).kind = 2)) rfl h17) ?_
        refine sx_off (j := 6) (dd := 26) rfl rfl (by decide) (yl_off (e := decide ((ds[k]'hi7a651).kind = 2)) rfl h17) ?_
        refine sx_off (j := 6) (dd := 26) rfl rfl (by decide) (yl_off (e := decide ((ds[k]'hi7a651).kind = 2)) rfl h17) ?_
        refine sx rfl (stp_pick_f (v := .bool false) ((rfl : _ = (.bool (decide ((ds[k]'hi7a651).kind = 2)) : Value)).trans (congrArg Value.bool h17)) rfl ?_)
        refine sx_nil ?_
        refine sx_f rfl rfl ?_
        refine wp_skip ?_
        refine sx_region ?_
        refine sx rfl (stp_move (v := I (k : Int)) hs12_6 ?_)
        refine sx rfl (stp_add rfl rfl (by (simp only [I64] at *; omega)) ?_)
        refine sx rfl (stp_assign (v := I ((k : Int) + 1)) rfl ?_)
        refine sx_nil ?_
        exact ⟨_, ds.length - (k + 1), (by omega), rfl, k + 1, v6, (by omega), (by omega), rfl, hs12_0, hs12_1, hs12_5, rfl, (by rw [handsTo_f (by omega) (by omega) (by omega)]; exact st11)⟩
      · skip
        have h17p := of_decide_eq_true h17
        refine sx_on (j := 6) (dd := 26) rfl rfl (by decide) (yl_on (e := decide ((ds[k]'hi7a651).kind = 2)) rfl h17) (stp_move (v := u) hs12_1 ?_)
        refine sx_on (j := 6) (dd := 26) rfl rfl (by decide) (yl_on (e := decide ((ds[k]'hi7a651).kind = 2)) rfl h17) (stp_move (v := I (k : Int)) hs12_6 ?_)
        have hif035d : k < rs.length := (by omega)
        have hq_ := idx g (i := k) hif035d
        obtain ⟨b18, o18, cs18, f18, hp18, hr18, hc18, hm18⟩ := hq_
        refine sx_on (j := 6) (dd := 26) rfl rfl (by decide) (yl_on (e := decide ((ds[k]'hi7a651).kind = 2)) rfl h17) (stp_indexAddr sl_ReplyS rfl hp18 rfl rfl ?_)
        refine sx_on (j := 6) (dd := 26) rfl rfl (by decide) (yl_on (e := decide ((ds[k]'hi7a651).kind = 2)) rfl h17) (stp_fieldAddr fa_Reply_0 rfl ?_)
        have hk19 := hc18
        obtain ⟨he19, rfl, hok19⟩ := hk19
        have he19 : _ = [I (rs[k]'hif035d).code, I (rs[k]'hif035d).run, I (rs[k]'hif035d).task, I (rs[k]'hif035d).try_] := he19
        subst he19
        refine sx_on (j := 6) (dd := 26) rfl rfl (by decide) (yl_on (e := decide ((ds[k]'hi7a651).kind = 2)) rfl h17) (stp_load_rg ld_int rfl rfl hr18 st11.below (i := 0) rfl rfl ?_)
        refine sx_on (j := 6) (dd := 26) rfl rfl (by decide) (yl_on (e := decide ((ds[k]'hi7a651).kind = 2)) rfl h17) (stp_eql rfl rfl ?_)
        refine sx rfl (stp_pick_t (v := .bool (decide ((rs[k]'hif035d).code = 0))) ((rfl : _ = (.bool (decide ((ds[k]'hi7a651).kind = 2)) : Value)).trans (congrArg Value.bool h17)) rfl ?_)
        refine sx_nil ?_
        refine sx_if rfl (fun h20 => ?_) (fun h20 => ?_)
        · skip
          have h20p := of_decide_eq_true h20
          refine sx_anyK 19 [Pl.is (v6) (Sl.yl (row_Sl (st11.get 0 rfl))), Pl.is (u) (Sl.yl g), Pl.is (I (k : Int)), Pl.is (.pointer (some ⟨b18, o18, none⟩)), Pl.is (.pointer (some ⟨b18, o18 + 1, none⟩)), Pl.is (I (rs[k]'hif035d).run), Pl.is (u) (Sl.yl g), Pl.is (I (k : Int)), Pl.is (.pointer (some ⟨b18, o18, none⟩)), Pl.is (.pointer (some ⟨b18, o18 + 2, none⟩)), Pl.is (I (rs[k]'hif035d).task), Pl.is (u) (Sl.yl g), Pl.is (I (k : Int)), Pl.is (.pointer (some ⟨b18, o18, none⟩)), Pl.is (.pointer (some ⟨b18, o18 + 3, none⟩)), Pl.is (I (rs[k]'hif035d).try_), Pl.is (I (k : Int)), Pl.is (.agg #[I (rs[k]'hif035d).run, I (rs[k]'hif035d).task, I (rs[k]'hif035d).try_, I (k : Int)]), Pl.blk W9.heap.size [I (rs[k]'hif035d).run, I (rs[k]'hif035d).task, I (rs[k]'hif035d).try_, I (k : Int)] 49 1] mix (by rfl) (by rfl) st11 ⟨(fun f W hst hbl hd hf => stp_move (v := v6) ((hf 5 rfl).trans hs12_5) ⟨Below.refl _ _, rfl⟩), (fun f W hst hbl hd hf => stp_move (v := u) ((hf 1 rfl).trans hs12_1) ⟨Below.refl _ _, rfl⟩), (fun f W hst hbl hd hf => stp_move (v := I (k : Int)) ((hf 6 rfl).trans hs12_6) ⟨Below.refl _ _, rfl⟩), (fun f W hst hbl hd hf => stp_indexAddr sl_ReplyS (hd 1 35 rfl rfl) hp18 (hd 2 36 rfl rfl) rfl ⟨Below.refl _ _, rfl⟩), (fun f W hst hbl hd hf => stp_fieldAddr fa_Reply_1 (hd 3 37 rfl rfl) ⟨Below.refl _ _, rfl⟩), (fun f W hst hbl hd hf => stp_load_rg ld_int rfl (hd 4 38 rfl rfl) hr18 hst.below (i := 1) rfl rfl ⟨Below.refl _ _, rfl⟩), (fun f W hst hbl hd hf => stp_move (v := u) ((hf 1 rfl).trans hs12_1) ⟨Below.refl _ _, rfl⟩), (fun f W hst hbl hd hf => stp_move (v := I (k : Int)) ((hf 6 rfl).trans hs12_6) ⟨Below.refl _ _, rfl⟩), (fun f W hst hbl hd hf => stp_indexAddr sl_ReplyS (hd 6 40 rfl rfl) hp18 (hd 7 41 rfl rfl) rfl ⟨Below.refl _ _, rfl⟩), (fun f W hst hbl hd hf => stp_fieldAddr fa_Reply_2 (hd 8 42 rfl rfl) ⟨Below.refl _ _, rfl⟩), (fun f W hst hbl hd hf => stp_load_rg ld_int rfl (hd 9 43 rfl rfl) hr18 hst.below (i := 2) rfl rfl ⟨Below.refl _ _, rfl⟩), (fun f W hst hbl hd hf => stp_move (v := u) ((hf 1 rfl).trans hs12_1) ⟨Below.refl _ _, rfl⟩), (fun f W hst hbl hd hf => stp_move (v := I (k : Int)) ((hf 6 rfl).trans hs12_6) ⟨Below.refl _ _, rfl⟩), (fun f W hst hbl hd hf => stp_indexAddr sl_ReplyS (hd 11 45 rfl rfl) hp18 (hd 12 46 rfl rfl) rfl ⟨Below.refl _ _, rfl⟩), (fun f W hst hbl hd hf => stp_fieldAddr fa_Reply_3 (hd 13 47 rfl rfl) ⟨Below.refl _ _, rfl⟩), (fun f W hst hbl hd hf => stp_load_rg ld_int rfl (hd 14 48 rfl rfl) hr18 hst.below (i := 3) rfl rfl ⟨Below.refl _ _, rfl⟩), (fun f W hst hbl hd hf => stp_move (v := I (k : Int)) ((hf 6 rfl).trans hs12_6) ⟨Below.refl _ _, rfl⟩), (fun f W hst hbl hd hf => stp_build (vs := [(0, I (rs[k]'hif035d).run), (1, I (rs[k]'hif035d).task), (2, I (rs[k]'hif035d).try_), (3, I (k : Int))]) (cs := [I (rs[k]'hif035d).run, I (rs[k]'hif035d).task, I (rs[k]'hif035d).try_, I (k : Int)]) (pcons (v := I (rs[k]'hif035d).run) (hd 5 39 rfl rfl) (pcons (v := I (rs[k]'hif035d).task) (hd 10 44 rfl rfl) (pcons (v := I (rs[k]'hif035d).try_) (hd 15 49 rfl rfl) (pcons (v := I (k : Int)) (hd 16 50 rfl rfl) pnil)))) (by kernel_rfl) ⟨Below.refl _ _, rfl⟩), (fun f W hst hbl hd hf => stp_blk (cs := [I (rs[k]'hif035d).run, I (rs[k]'hif035d).task, I (rs[k]'hif035d).try_, I (k : Int)]) (e := 49) (pcons (v := .agg #[I (rs[k]'hif035d).run, I (rs[k]'hif035d).task, I (rs[k]'hif035d).try_, I (k : Int)]) (hd 17 51 rfl rfl) pnil) (run_buildSlice1 ap_HandS _ _ rfl rfl (by decide)) hbl), trivial⟩ ?_
          intro f21 W22 st23 hb24 hv25 hf26
          have hq_ := hv25 18 52 (by decide) rfl
          obtain ⟨b27, hv28, hh28, hn28⟩ := hq_
          have st29 := St.add st11 st23 hh28 hn28
          have st31 := st29.f1
          refine sx rfl (stp_append_bx (ys := [(⟨(rs[k]'hif035d).run, (rs[k]'hif035d).task, (rs[k]'hif035d).try_, (k : Int)⟩ : Hand)]) ap_HandS (hv25 0 34 (by decide) rfl) hv28 rfl st31 (Elems.one1 ⟨rfl, rfl, (by simp only [Hand.ok, Reply.ok, I64] at *; omega)⟩) (by unfold maxLen; omega) (by omega) ?_); intro v32 W33 st34
          refine sx rfl (stp_assign (v := v32) rfl ?_)
          refine sx_nil ?_
          refine sx_region ?_
          refine sx rfl (stp_move (v := I (k : Int)) ((hf26 6 rfl).trans hs12_6) ?_)
          refine sx rfl (stp_add rfl rfl (by (simp only [I64] at *; omega)) ?_)
          refine sx rfl (stp_assign (v := I ((k : Int) + 1)) rfl ?_)
          refine sx_nil ?_
          exact ⟨_, ds.length - (k + 1), (by omega), rfl, k + 1, v32, (by omega), (by omega), rfl, ((hf26 0 rfl).trans hs12_0), ((hf26 1 rfl).trans hs12_1), rfl, rfl, (by rw [handsTo_t (by omega) (by omega) (by omega)]; exact st34)⟩
        · skip
          have h20p := of_decide_eq_false h20
          refine wp_skip ?_
          refine sx_region ?_
          refine sx rfl (stp_move (v := I (k : Int)) hs12_6 ?_)
          refine sx rfl (stp_add rfl rfl (by (simp only [I64] at *; omega)) ?_)
          refine sx rfl (stp_assign (v := I ((k : Int) + 1)) rfl ?_)
          refine sx_nil ?_
          exact ⟨_, ds.length - (k + 1), (by omega), rfl, k + 1, v6, (by omega), (by omega), rfl, hs12_0, hs12_1, hs12_5, rfl, (by rw [handsTo_f (by omega) (by omega) (by omega)]; exact st11)⟩
    · skip
      have h14p := of_decide_eq_false h14
      refine wp_exit ?_
      refine wp_seq ?_
      refine sx_region ?_
      refine sx rfl (stp_move (v := v6) hs12_5 ?_)
      refine sx rfl (stp_assign (v := v6) rfl ?_)
      refine sx_nil ?_
      refine wp_ret ?_; repeat (first | refine then_ret ?_ | refine blk_ret ?_)
      refine ret1 Try.results18 rfl ?_
      obtain rfl : k = min ds.length rs.length := by omega
      have hq_ := st11.shut
      obtain ⟨fpz, stz⟩ := hq_
      exact ⟨_, fpz, rfl, stz.only 0 rfl⟩
end Go.Proofs.Ytchnllpegfbleaa
