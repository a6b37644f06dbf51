/-
  When a yard is right: of the program and of the reference. (Printed by a program of this project's.)
-/
import Derived.Test.YtchnllpegfbleaaGreatShelf
import Derived.Test.YtchnllpegfbleaaGreatSlots
import Derived.Test.YtchnllpegfbleaaGreatRunOk
namespace Go.Proofs.YtchnllpegfbleaaGreat
set_option linter.unusedSimpArgs false
set_option linter.unusedVariables false
set_option maxRecDepth 100000
open Go.RowKit


def runOkAt (y : Yard) (j : Nat) : Prop := ∀ h : j < y.runs.length, runOk y.runs[j] = true ∧ runAt y y.runs[j].id = (j : Int) ∧ runsOkB y.now y.runs[j] y.shelf.flatten = true
noncomputable def yardOk (y : Yard) : Bool := pB ((0 ≤ y.now ∧ y.now ≤ 999999980) ∧ (1 ≤ y.seq ∧ y.seq ≤ 1000000000) ∧ y.shelf.length = 4 ∧ y.runs.length ≤ 8 ∧ (∀ l ∈ y.shelf, shelfOk l = true) ∧
  (∀ e ∈ y.shelf.flatten, 1 ≤ e.seq ∧ e.seq ≤ y.seq - 1) ∧ (y.shelf.flatten.map (·.seq)).Nodup ∧ (∀ j, j < y.runs.length → runOkAt y j) ∧ slotsOf y ≤ 40)
theorem runOk_wait {r : Run} (h : runOk r = true) : (0 ≤ r.plan.wait ∧ r.plan.wait ≤ 20) ∧ r.tasks.length ≤ 12 := by
  have h1 := pB_iff.1 h
  have h2 := (pf_ok h1.2.1).1
  have h3 := h1.2.2.1
  unfold planMany at h2
  omega
theorem all_step {α : Type} {p : α → Prop} {xs : List α} {k : Nat} (hk : k < xs.length) (h : ∀ x ∈ xs.take k, p x) (h1 : p xs[k]) : ∀ x ∈ xs.take (k + 1), p x := by
  intro x hx
  rw [List.take_succ_eq_append_getElem hk] at hx
  rcases List.mem_append.1 hx with hx | hx
  · exact h x hx
  · rw [List.mem_singleton] at hx; subst hx; exact h1
theorem map_step {α β : Type} (f : α → β) {xs : List α} {k : Nat} (hk : k < xs.length) : (xs.take (k + 1)).map f = (xs.take k).map f ++ [f xs[k]] := by
  rw [List.take_succ_eq_append_getElem hk, List.map_append]; rfl
theorem nodup_map_step {xs : List Entry} {k : Nat} (hk : k < xs.length) (h : ((xs.take k).map (·.seq)).Nodup) (hn : xs[k].seq ∉ (xs.take k).map (·.seq)) : ((xs.take (k + 1)).map (·.seq)).Nodup := by
  rw [map_step _ hk, List.nodup_append]
  exact ⟨h, by simp, fun a ha b hb => by simp at hb; subst hb; exact fun e => hn (e ▸ ha)⟩
theorem not_nodup_map {xs : List Entry} {k : Nat} (hk : k < xs.length) (hm : xs[k].seq ∈ (xs.take k).map (·.seq)) : ¬ (xs.map (·.seq)).Nodup := by
  intro h
  have h2 : ((xs.take (k + 1)).map (·.seq)).Nodup := h.sublist ((List.take_sublist _ _).map _)
  rw [map_step _ hk, List.nodup_append] at h2
  exact h2.2.2 _ hm _ (by simp) rfl

set_option maxHeartbeats 2000000 in
theorem YardOkI (w : World) {y : Yard} {cs : List Value} {fp : List Nat} (hc : Shape.C w cs y fp) (hw : y.wt ≤ 1048576) :
    Calls Tryz.prog 46 #[.agg cs.toArray] w fun e w' => e = .returned (.bool (yardOk y)) ∧ St w w' [] := by
  have hyr : y.runs.length ≤ y.wt := by unfold Yard.wt wtL; omega
  have hys : y.shelf.length ≤ y.wt := by unfold Yard.wt wtL; omega
  have hfw := flat_wt y
  refine enter1 Tryz.func46 rfl Tryz.ntmps46 (by decide) ?_
  refine wp_seq ?_
  refine sx_region ?_
  refine sx rfl (stp_box_agg (cs := cs) rfl (St.start w) ?_); intro b1 W2 hb3 st4
  refine sx rfl (stp_assign (v := .bool false) rfl ?_)
  refine sx_nil ?_
  refine wp_seq ?_
  refine wp_seq ?_
  refine sx_region ?_
  refine sx rfl (stp_fieldAddr fa_Yard_0 rfl ?_)
  have hk6 := hc
  obtain ⟨v6_0, v6_1, g6_0, g6_1, rfl, hok6, h6_0, h6_1, rfl⟩ := hk6
  refine sx rfl (stp_load_bx ld_int rfl rfl (st4.get 0 rfl) (i := 0) rfl rfl ?_)
  refine sx rfl (stp_call3 Tryz.func47 rfl rfl rfl rfl ((within_n W2 y.now 0 999999980).mono ?_)); rintro _ W7 ⟨rfl, hk8⟩; refine ⟨_, rfl, ?_⟩
  have st9 := St.call st4 hk8
  refine sx rfl (stp_not rfl ?_)
  refine sx rfl (stp_move (v := .bool (!(inB y.now 0 999999980))) rfl ?_)
  rcases bd (!(inB y.now 0 999999980)) with h11 | h11
  · skip
    have h11p := inB_iff'.1 (bnot_f h11)
    refine sx_on (j := 4) (dd := 15) rfl rfl (by decide) (yl_on (e := !(inB y.now 0 999999980)) rfl h11) (stp_fieldAddr fa_Yard_1 rfl ?_)
    refine sx_on (j := 4) (dd := 15) rfl rfl (by decide) (yl_on (e := !(inB y.now 0 999999980)) rfl h11) (stp_load_bx ld_int rfl rfl (st9.get 0 rfl) (i := 1) rfl rfl ?_)
    refine sx_on (j := 4) (dd := 15) rfl rfl (by decide) (yl_on (e := !(inB y.now 0 999999980)) rfl h11) (stp_call3 Tryz.func47 rfl rfl rfl rfl ((within_n W7 y.seq 1 1000000000).mono ?_)); rintro _ W12 ⟨rfl, hk13⟩; refine ⟨_, rfl, ?_⟩
    have st14 := St.call st9 hk13
    refine sx_on (j := 4) (dd := 15) rfl rfl (by decide) (yl_on (e := !(inB y.now 0 999999980)) rfl h11) (stp_not rfl ?_)
    refine sx rfl (stp_pick_f (v := .bool (!(inB y.seq 1 1000000000))) ((rfl : _ = (.bool (!(inB y.now 0 999999980)) : Value)).trans (congrArg Value.bool h11)) rfl ?_)
    refine sx rfl (stp_move (v := .bool (!(inB y.seq 1 1000000000))) rfl ?_)
    rcases bd (!(inB y.seq 1 1000000000)) with h16 | h16
    · skip
      have h16p := inB_iff'.1 (bnot_f h16)
      refine sx_on (j := 10) (dd := 21) rfl rfl (by decide) (yl_on (e := !(inB y.seq 1 1000000000)) rfl h16) (stp_fieldAddr fa_Yard_2 rfl ?_)
      refine sx_on (j := 10) (dd := 21) rfl rfl (by decide) (yl_on (e := !(inB y.seq 1 1000000000)) rfl h16) (stp_load_bx ld_EntrySS rfl rfl (st14.get 0 rfl) (i := 2) rfl rfl ?_)
      refine sx_on (j := 10) (dd := 21) rfl rfl (by decide) (yl_on (e := !(inB y.seq 1 1000000000)) rfl h16) (stp_len sl_EntrySS rfl h6_0 ?_)
      refine sx_on (j := 10) (dd := 21) rfl rfl (by decide) (yl_on (e := !(inB y.seq 1 1000000000)) rfl h16) (stp_neq rfl rfl ?_)
      refine sx rfl (stp_pick_f (v := .bool (!decide ((y.shelf.length : Int) = 4))) ((rfl : _ = (.bool (!(inB y.seq 1 1000000000)) : Value)).trans (congrArg Value.bool h16)) rfl ?_)
      refine sx rfl (stp_move (v := .bool (!decide ((y.shelf.length : Int) = 4))) rfl ?_)
      rcases bd (!decide ((y.shelf.length : Int) = 4)) with h17 | h17
      · skip
        have h17p := of_decide_eq_true (bnot_f h17)
        refine sx_on (j := 16) (dd := 27) rfl rfl (by decide) (yl_on (e := !decide ((y.shelf.length : Int) = 4)) rfl h17) (stp_fieldAddr fa_Yard_3 rfl ?_)
        refine sx_on (j := 16) (dd := 27) rfl rfl (by decide) (yl_on (e := !decide ((y.shelf.length : Int) = 4)) rfl h17) (stp_load_bx ld_RunS rfl rfl (st14.get 0 rfl) (i := 3) rfl rfl ?_)
        refine sx_on (j := 16) (dd := 27) rfl rfl (by decide) (yl_on (e := !decide ((y.shelf.length : Int) = 4)) rfl h17) (stp_len sl_RunS rfl h6_1 ?_)
        refine sx_on (j := 16) (dd := 27) rfl rfl (by decide) (yl_on (e := !decide ((y.shelf.length : Int) = 4)) rfl h17) (stp_gtr rfl rfl ?_)
        refine sx rfl (stp_pick_f (v := .bool (decide (8 < (y.runs.length : Int)))) ((rfl : _ = (.bool (!decide ((y.shelf.length : Int) = 4)) : Value)).trans (congrArg Value.bool h17)) rfl ?_)
        refine sx_nil ?_
        refine sx_if rfl (fun h18 => ?_) (fun h18 => ?_)
        · skip
          have h18p := of_decide_eq_true h18
          refine wp_seq ?_
          refine sx_region ?_
          refine sx rfl (stp_assign (v := .bool false) rfl ?_)
          refine sx_nil ?_
          refine wp_ret ?_; repeat (first | refine then_ret ?_ | refine blk_ret ?_)
          refine ret1 Tryz.results46 rfl ?_
          exact ⟨(congrArg (fun z => Ending.returned (.bool z)) (by unfold yardOk; rw [pB_f (by rintro ⟨hz1, hz2, hz3, hz4, hz5, hz6, hz7, hz8, hz9⟩; omega)])), st14.bare⟩
        · skip
          have h18p := of_decide_eq_false h18
          refine wp_skip ?_
          refine wp_seq ?_
          refine wp_seq ?_
          refine sx_region ?_
          refine sx rfl (stp_fieldAddr fa_Yard_2 rfl ?_)
          refine sx rfl (stp_load_bx ld_EntrySS rfl rfl (st14.get 0 rfl) (i := 2) rfl rfl ?_)
          refine sx rfl (stp_len sl_EntrySS rfl h6_0 ?_)
          refine sx rfl (stp_move (v := I 0) rfl ?_)
          refine sx_nil ?_
          refine wp_block ?_
          refine sx_loop (fun (m : Nat) (f : Nat → Value) (W : World) => ∃ (k : Nat), k ≤ y.shelf.length ∧ (∀ l ∈ y.shelf.take k, shelfOk l = true) ∧ m = y.shelf.length - k ∧ f 1 = .pointer (some ⟨b1, 0, none⟩) ∧ f 34 = v6_0 ∧ f 35 = I (y.shelf.length : Int) ∧ f 36 = I (k : Int) ∧ St w W ([Res.bx b1 [I y.now, I y.seq, v6_0, v6_1] 34])) (y.shelf.length - 0) ?_ ?_
          · exact ⟨0, (by omega), (by simp), rfl, rfl, rfl, rfl, rfl, st14⟩
          intro m19 f20 W21 hJ22
          obtain ⟨k, hk, hS1, rfl, hs24_1, hs24_34, hs24_35, hs24_36, st23⟩ := hJ22
          refine wp_seq ?_
          refine sx_region ?_
          refine sx rfl (stp_lss hs24_36 hs24_35 ?_)
          refine sx_nil ?_
          refine wp_seq ?_
          refine sx_if rfl (fun h25 => ?_) (fun h25 => ?_)
          · skip
            have h25p := of_decide_eq_true h25
            refine wp_skip ?_
            refine wp_seq ?_
            refine wp_block ?_
            refine wp_seq ?_
            refine sx_region ?_
            have hi019db : k < y.shelf.length := (by omega)
            have hq_ := idx h6_0 (i := k) hi019db
            obtain ⟨b26, o26, cs26, f26, hp26, hr26, hc26, hm26⟩ := hq_
            have hk26 := hc26
            obtain ⟨v27, rfl, h28⟩ := hk26
            refine sx rfl (stp_indexAddr sl_EntrySS hs24_34 hp26 hs24_36 rfl ?_)
            refine sx rfl (stp_load_rg ld_EntryS rfl rfl hr26 st23.below (i := 0) rfl rfl ?_)
            refine sx rfl (stp_assign (v := v27) rfl ?_)
            refine sx_nil ?_
            refine wp_seq ?_
            refine sx_region ?_
            refine sx rfl (stp_move (v := v27) rfl ?_)
            refine sx rfl (stp_call1 Tryz.func95 rfl rfl ((ShelfOkI W21 (h28.below st23.below)).mono ?_)); rintro _ W29 ⟨rfl, hk30⟩; refine ⟨_, rfl, ?_⟩
            have st31 := St.call st23 hk30
            refine sx rfl (stp_not rfl ?_)
            refine sx_nil ?_
            refine sx_if rfl (fun h33 => ?_) (fun h33 => ?_)
            · skip
              refine wp_seq ?_
              refine sx_region ?_
              refine sx rfl (stp_assign (v := .bool false) rfl ?_)
              refine sx_nil ?_
              refine wp_ret ?_; repeat (first | refine then_ret ?_ | refine blk_ret ?_)
              refine ret1 Tryz.results46 rfl ?_
              exact ⟨(congrArg (fun z => Ending.returned (.bool z)) (by unfold yardOk; rw [pB_f (by rintro ⟨hz1, hz2, hz3, hz4, hz5, hz6, hz7, hz8, hz9⟩; have hq := hz5 _ (List.getElem_mem (n := k) (by omega)); rw [(bnot_t h33)] at hq; cases hq)])), st31.bare⟩
            · skip
              refine wp_skip ?_
              refine sx_region ?_
              refine sx rfl (stp_add hs24_36 rfl (by (simp only [I64] at *; omega)) ?_)
              refine sx rfl (stp_move (v := I ((k : Int) + 1)) rfl ?_)
              refine sx_nil ?_
              exact ⟨_, y.shelf.length - (k + 1), (by omega), rfl, k + 1, (by omega), (all_step (by omega) hS1 (bnot_f h33)), rfl, hs24_1, hs24_34, hs24_35, rfl, st31⟩
          · skip
            have h25p := of_decide_eq_false h25
            refine wp_exit ?_
            refine wp_seq ?_
            refine sx_region ?_
            have hS1 : ∀ l ∈ y.shelf, shelfOk l = true := by rw [show k = y.shelf.length by omega, List.take_length] at hS1; exact hS1
            refine sx rfl (stp_load_bxs (cs := [I y.now, I y.seq, v6_0, v6_1]) ld_Yard rfl hs24_1 (st23.get 0 rfl) rfl rfl ?_)
            refine sx rfl (stp_call1 Tryz.func96 rfl rfl ((EntriesI W21 (C_below hc st23.below) (by omega)).mono ?_)); rintro _ W36 ⟨v34, fp34, rfl, hk37⟩; refine ⟨_, rfl, ?_⟩
            have st38 := St.call st23 hk37
            refine sx rfl (stp_assign (v := v34) rfl ?_)
            refine sx_nil ?_
            refine wp_seq ?_
            refine sx_region ?_
            refine sx rfl (stp_assign (v := .slice none 0 0) rfl ?_)
            refine sx_nil ?_
            refine wp_seq ?_
            refine wp_seq ?_
            refine sx_region ?_
            refine sx rfl (stp_move (v := v34) rfl ?_)
            refine sx rfl (stp_len sl_EntryS rfl (own_Sl (st38.get 0 rfl)) ?_)
            refine sx rfl (stp_move (v := I 0) rfl ?_)
            refine sx_nil ?_
            refine wp_block ?_
            have st41 := st38.row_nil (α := Int) 3
            refine sx_loop (fun (m : Nat) (f : Nat → Value) (W : World) => ∃ (k2 : Nat) (v40 : Value), k2 ≤ y.shelf.flatten.length ∧ (∀ e ∈ y.shelf.flatten.take k2, 1 ≤ e.seq ∧ e.seq ≤ y.seq - 1) ∧ ((y.shelf.flatten.take k2).map (·.seq)).Nodup ∧ m = y.shelf.flatten.length - k2 ∧ f 1 = .pointer (some ⟨b1, 0, none⟩) ∧ f 5 = v34 ∧ f 6 = v40 ∧ f 46 = v34 ∧ f 47 = I ((y.shelf).flatten.length : Int) ∧ f 48 = I (k2 : Int) ∧ St w W ([Res.row (α := Int) 3 v40 ((y.shelf.flatten.take k2).map (·.seq)) [], Res.own (α := List Entry) v34 (y.shelf).flatten fp34, Res.bx b1 [I y.now, I y.seq, v6_0, v6_1] 34])) (y.shelf.flatten.length - 0) ?_ ?_
            · exact ⟨0, (.slice none 0 0), (by omega), (by simp), (by simp), rfl, hs24_1, rfl, rfl, rfl, rfl, rfl, st41⟩
            intro m43 f44 W45 hJ46
            obtain ⟨k2, v40, hk2, hS2, hS3, rfl, hs48_1, hs48_5, hs48_6, hs48_46, hs48_47, hs48_48, st47⟩ := hJ46
            have hml : ((y.shelf.flatten.take k2).map (·.seq)).length ≤ y.shelf.flatten.length := by rw [List.length_map]; exact List.length_take_le' _ _
            refine wp_seq ?_
            refine sx_region ?_
            refine sx rfl (stp_lss hs48_48 hs48_47 ?_)
            refine sx_nil ?_
            refine wp_seq ?_
            refine sx_if rfl (fun h49 => ?_) (fun h49 => ?_)
            · skip
              have h49p := of_decide_eq_true h49
              refine wp_skip ?_
              refine wp_seq ?_
              refine wp_block ?_
              refine wp_seq ?_
              refine sx_region ?_
              have hi3bcf4 : k2 < (y.shelf).flatten.length := (by omega)
              have hq_ := idx (own_Sl (st47.get 1 rfl)) (i := k2) hi3bcf4
              obtain ⟨b50, o50, cs50, f50, hp50, hr50, hc50, hm50⟩ := hq_
              refine sx rfl (stp_indexAddr sl_EntryS hs48_46 hp50 hs48_48 rfl ?_)
              refine sx rfl (stp_load_rga ld_Entry rfl rfl hr50 (Below.refl _ _) (Shape.len hc50) ?_)
              refine sx rfl (stp_alloc zz_Entry st47 ?_); intro b51 W52 hb53 st54
              refine sx rfl (stp_store_all (cs := cs50) ld_Entry hc50 rfl rfl st54 rfl ?_); intro W56 st57
              refine sx_nil ?_
              refine wp_seq ?_
              refine wp_seq ?_
              refine sx_region ?_
              refine sx rfl (stp_fieldAddr fa_Entry_1 rfl ?_)
              have hk58 := hc50
              obtain ⟨he58, rfl, hok58⟩ := hk58
              have he58 : _ = [I ((y.shelf).flatten[k2]'hi3bcf4).prio, I ((y.shelf).flatten[k2]'hi3bcf4).seq, I ((y.shelf).flatten[k2]'hi3bcf4).run, I ((y.shelf).flatten[k2]'hi3bcf4).task] := he58
              subst he58
              refine sx rfl (stp_load_bx ld_int rfl rfl (st57.get 0 rfl) (i := 1) rfl rfl ?_)
              refine sx rfl (stp_fieldAddr fa_Yard_1 hs48_1 ?_)
              refine sx rfl (stp_load_bx ld_int rfl rfl (st57.get 3 rfl) (i := 1) rfl rfl ?_)
              refine sx rfl (stp_sub rfl rfl (by (simp only [I64] at *; omega)) ?_)
              refine sx rfl (stp_call3 Tryz.func47 rfl rfl rfl rfl ((within_n W56 ((y.shelf).flatten[k2]'hi3bcf4).seq 1 (y.seq - 1)).mono ?_)); rintro _ W59 ⟨rfl, hk60⟩; refine ⟨_, rfl, ?_⟩
              have st61 := St.call st57 hk60
              refine sx rfl (stp_not rfl ?_)
              refine sx rfl (stp_move (v := .bool (!(inB ((y.shelf).flatten[k2]'hi3bcf4).seq 1 (y.seq - 1)))) rfl ?_)
              rcases bd (!(inB ((y.shelf).flatten[k2]'hi3bcf4).seq 1 (y.seq - 1))) with h63 | h63
              · skip
                have h63p := inB_iff'.1 (bnot_f h63)
                refine sx_on (j := 7) (dd := 59) rfl rfl (by decide) (yl_on (e := !(inB ((y.shelf).flatten[k2]'hi3bcf4).seq 1 (y.seq - 1))) rfl h63) (stp_move (v := v40) hs48_6 ?_)
                refine sx_on (j := 7) (dd := 59) rfl rfl (by decide) (yl_on (e := !(inB ((y.shelf).flatten[k2]'hi3bcf4).seq 1 (y.seq - 1))) rfl h63) (stp_fieldAddr fa_Entry_1 rfl ?_)
                refine sx_on (j := 7) (dd := 59) rfl rfl (by decide) (yl_on (e := !(inB ((y.shelf).flatten[k2]'hi3bcf4).seq 1 (y.seq - 1))) rfl h63) (stp_load_bx ld_int rfl rfl (st61.get 0 rfl) (i := 1) rfl rfl ?_)
                refine sx_on (j := 7) (dd := 59) rfl rfl (by decide) (yl_on (e := !(inB ((y.shelf).flatten[k2]'hi3bcf4).seq 1 (y.seq - 1))) rfl h63) (stp_call2 Tryz.func75 rfl rfl rfl ((ContN W59 (row_Sl (st61.get 1 rfl)) ((y.shelf).flatten[k2]'hi3bcf4).seq).mono ?_)); rintro _ W64 ⟨rfl, hk65⟩; refine ⟨_, rfl, ?_⟩
                have st66 := St.call st61 hk65
                refine sx rfl (stp_pick_f (v := .bool (decide (((y.shelf).flatten[k2]'hi3bcf4).seq ∈ ((y.shelf.flatten.take k2).map (·.seq))))) ((rfl : _ = (.bool (!(inB ((y.shelf).flatten[k2]'hi3bcf4).seq 1 (y.seq - 1))) : Value)).trans (congrArg Value.bool h63)) rfl ?_)
                refine sx_nil ?_
                refine sx_if rfl (fun h68 => ?_) (fun h68 => ?_)
                · skip
                  have h68p := of_decide_eq_true h68
                  refine wp_seq ?_
                  refine sx_region ?_
                  refine sx rfl (stp_assign (v := .bool false) rfl ?_)
                  refine sx_nil ?_
                  refine wp_ret ?_; repeat (first | refine then_ret ?_ | refine blk_ret ?_)
                  refine ret1 Tryz.results46 rfl ?_
                  exact ⟨(congrArg (fun z => Ending.returned (.bool z)) (by unfold yardOk; rw [pB_f (by rintro ⟨hz1, hz2, hz3, hz4, hz5, hz6, hz7, hz8, hz9⟩; exact not_nodup_map (k := k2) (by omega) (of_decide_eq_true h68) hz7)])), st66.bare⟩
                · skip
                  have h68p := of_decide_eq_false h68
                  refine wp_skip ?_
                  refine sx_region ?_
                  refine sx rfl (stp_move (v := v40) hs48_6 ?_)
                  refine sx rfl (stp_fieldAddr fa_Entry_1 rfl ?_)
                  refine sx rfl (stp_load_bx ld_int rfl rfl (st66.get 0 rfl) (i := 1) rfl rfl ?_)
                  refine sx rfl (stp_buildSlice (cs := [I ((y.shelf).flatten[k2]'hi3bcf4).seq]) (e := 3) (pcons (v := I ((y.shelf).flatten[k2]'hi3bcf4).seq) rfl pnil) (run_buildSlice1 ap_IntS _ _ rfl rfl (by decide)) st66 ?_); intro b69 W70 hb71 st72
                  have st74 := st72.f2
                  refine sx rfl (stp_append_bx (ys := [((y.shelf).flatten[k2]'hi3bcf4).seq]) ap_IntS rfl rfl rfl st74 (Elems.ic (by simp only [I64]; omega) Elems.i0) (by unfold maxLen; omega) (by omega) ?_); intro v75 W76 st77
                  refine sx rfl (stp_assign (v := v75) rfl ?_)
                  refine sx_nil ?_
                  refine sx_region ?_
                  refine sx rfl (stp_add hs48_48 rfl (by (simp only [I64] at *; omega)) ?_)
                  refine sx rfl (stp_move (v := I ((k2 : Int) + 1)) rfl ?_)
                  refine sx_nil ?_
                  have st78 := st77.f3
                  have st79 := st78.f3
                  have st80 := st79.f2
                  have st81 := st80.d3
                  exact ⟨_, y.shelf.flatten.length - (k2 + 1), (by omega), rfl, k2 + 1, v75, (by omega), (all_step (by omega) hS2 (by omega)), (nodup_map_step (by omega) hS3 (of_decide_eq_false h68)), rfl, hs48_1, hs48_5, rfl, hs48_46, hs48_47, rfl, (by rw [map_step _ (by omega)]; exact st81)⟩
              · skip
                have h63p := inB_not (bnot_t h63)
                iterate 4 refine sx_off (j := 7) (dd := 59) rfl rfl (by decide) (yl_off (e := !(inB ((y.shelf).flatten[k2]'hi3bcf4).seq 1 (y.seq - 1))) rfl h63) ?_
                refine sx rfl (stp_pick_t (v := .bool true) ((rfl : _ = (.bool (!(inB ((y.shelf).flatten[k2]'hi3bcf4).seq 1 (y.seq - 1))) : Value)).trans (congrArg Value.bool h63)) rfl ?_)
                refine sx_nil ?_
                refine sx_t rfl rfl ?_
                refine wp_seq ?_
                refine sx_region ?_
                refine sx rfl (stp_assign (v := .bool false) rfl ?_)
                refine sx_nil ?_
                refine wp_ret ?_; repeat (first | refine then_ret ?_ | refine blk_ret ?_)
                refine ret1 Tryz.results46 rfl ?_
                exact ⟨(congrArg (fun z => Ending.returned (.bool z)) (by unfold yardOk; rw [pB_f (by rintro ⟨hz1, hz2, hz3, hz4, hz5, hz6, hz7, hz8, hz9⟩; have hq := hz6 _ (List.getElem_mem (n := k2) (by omega)); omega)])), st61.bare⟩
            · skip
              have h49p := of_decide_eq_false h49
              refine wp_exit ?_
              refine wp_seq ?_
              refine wp_seq ?_
              refine sx_region ?_
              have hS2 : ∀ e ∈ y.shelf.flatten, 1 ≤ e.seq ∧ e.seq ≤ y.seq - 1 := by rw [show k2 = y.shelf.flatten.length by omega, List.take_length] at hS2; exact hS2
              have hS3 : (y.shelf.flatten.map (·.seq)).Nodup := by rw [show k2 = y.shelf.flatten.length by omega, List.take_length] at hS3; exact hS3
              refine sx rfl (stp_fieldAddr fa_Yard_3 hs48_1 ?_)
              refine sx rfl (stp_load_bx ld_RunS rfl rfl (st47.get 2 rfl) (i := 3) rfl rfl ?_)
              refine sx rfl (stp_len sl_RunS rfl h6_1 ?_)
              refine sx rfl (stp_move (v := I 0) rfl ?_)
              refine sx_nil ?_
              refine wp_block ?_
              refine sx_loop (fun (m : Nat) (f : Nat → Value) (W : World) => ∃ (k3 : Nat), k3 ≤ y.runs.length ∧ (∀ j, j < k3 → runOkAt y j) ∧ m = y.runs.length - k3 ∧ f 1 = .pointer (some ⟨b1, 0, none⟩) ∧ f 5 = v34 ∧ f 72 = v6_1 ∧ f 73 = I (y.runs.length : Int) ∧ f 74 = I (k3 : Int) ∧ St w W ([Res.row (α := Int) 3 v40 ((y.shelf.flatten.take k2).map (·.seq)) [], Res.own (α := List Entry) v34 (y.shelf).flatten fp34, Res.bx b1 [I y.now, I y.seq, v6_0, v6_1] 34])) (y.runs.length - 0) ?_ ?_
              · exact ⟨0, (by omega), (fun j hj => absurd hj (Nat.not_lt_zero j)), rfl, hs48_1, hs48_5, rfl, rfl, rfl, st47⟩
              intro m82 f83 W84 hJ85
              obtain ⟨k3, hk3, hS4, rfl, hs87_1, hs87_5, hs87_72, hs87_73, hs87_74, st86⟩ := hJ85
              refine wp_seq ?_
              refine sx_region ?_
              refine sx rfl (stp_lss hs87_74 hs87_73 ?_)
              refine sx_nil ?_
              refine wp_seq ?_
              refine sx_if rfl (fun h88 => ?_) (fun h88 => ?_)
              · skip
                have h88p := of_decide_eq_true h88
                refine wp_skip ?_
                refine wp_seq ?_
                refine wp_block ?_
                refine wp_seq ?_
                refine sx_region ?_
                refine sx rfl (stp_move (v := I (k3 : Int)) hs87_74 ?_)
                have hi7dcb8 : k3 < y.runs.length := (by omega)
                have hq_ := idx h6_1 (i := k3) hi7dcb8
                obtain ⟨b89, o89, cs89, f89, hp89, hr89, hc89, hm89⟩ := hq_
                refine sx rfl (stp_indexAddr sl_RunS hs87_72 hp89 hs87_74 rfl ?_)
                refine sx rfl (stp_load_rga ld_Run rfl rfl hr89 st86.below (Shape.len hc89) ?_)
                refine sx rfl (stp_alloc zz_Run st86 ?_); intro b90 W91 hb92 st93
                refine sx rfl (stp_assign (v := I (k3 : Int)) rfl ?_)
                refine sx rfl (stp_store_all (cs := cs89) ld_Run hc89 rfl rfl st93 rfl ?_); intro W95 st96
                refine sx_nil ?_
                refine wp_seq ?_
                refine sx_region ?_
                refine sx rfl (stp_load_bxa ld_Run rfl rfl (st96.get 0 rfl) (Shape.len hc89) ?_)
                refine sx rfl (stp_call1 Tryz.func97 rfl rfl ((RunOkI W95 (C_below hc89 st96.below)).mono ?_)); rintro _ W97 ⟨rfl, hk98⟩; refine ⟨_, rfl, ?_⟩
                have st99 := St.call st96 hk98
                refine sx rfl (stp_not rfl ?_)
                refine sx rfl (stp_move (v := .bool (!(runOk (y.runs[k3]'hi7dcb8)))) rfl ?_)
                rcases bd (!(runOk (y.runs[k3]'hi7dcb8))) with h101 | h101
                · skip
                  refine sx_on (j := 3) (dd := 82) rfl rfl (by decide) (yl_on (e := !(runOk (y.runs[k3]'hi7dcb8))) rfl h101) (stp_load_bxs (cs := [I y.now, I y.seq, v6_0, v6_1]) ld_Yard rfl hs87_1 (st99.get 3 rfl) rfl rfl ?_)
                  refine sx_on (j := 3) (dd := 82) rfl rfl (by decide) (yl_on (e := !(runOk (y.runs[k3]'hi7dcb8))) rfl h101) (stp_fieldAddr fa_Run_0 rfl ?_)
                  have hk102 := hc89
                  obtain ⟨v102_0, v102_1, g102_0, g102_1, rfl, hok102, h102_0, h102_1, rfl⟩ := hk102
                  refine sx_on (j := 3) (dd := 82) rfl rfl (by decide) (yl_on (e := !(runOk (y.runs[k3]'hi7dcb8))) rfl h101) (stp_load_bx ld_int rfl rfl (st99.get 0 rfl) (i := 0) rfl rfl ?_)
                  refine sx_on (j := 3) (dd := 82) rfl rfl (by decide) (yl_on (e := !(runOk (y.runs[k3]'hi7dcb8))) rfl h101) (stp_call2 Tryz.func98 rfl rfl rfl ((RunAtI W97 (C_below hc st99.below) (y.runs[k3]'hi7dcb8).id (by omega)).mono ?_)); rintro _ W103 ⟨rfl, hk104⟩; refine ⟨_, rfl, ?_⟩
                  have st105 := St.call st99 hk104
                  refine sx_on (j := 3) (dd := 82) rfl rfl (by decide) (yl_on (e := !(runOk (y.runs[k3]'hi7dcb8))) rfl h101) (stp_move (v := I (k3 : Int)) rfl ?_)
                  refine sx_on (j := 3) (dd := 82) rfl rfl (by decide) (yl_on (e := !(runOk (y.runs[k3]'hi7dcb8))) rfl h101) (stp_neq rfl rfl ?_)
                  refine sx rfl (stp_pick_f (v := .bool (!decide ((runAt y (y.runs[k3]'hi7dcb8).id) = (k3 : Int)))) ((rfl : _ = (.bool (!(runOk (y.runs[k3]'hi7dcb8))) : Value)).trans (congrArg Value.bool h101)) rfl ?_)
                  refine sx rfl (stp_move (v := .bool (!decide ((runAt y (y.runs[k3]'hi7dcb8).id) = (k3 : Int)))) rfl ?_)
                  rcases bd (!decide ((runAt y (y.runs[k3]'hi7dcb8).id) = (k3 : Int))) with h107 | h107
                  · skip
                    have h107p := of_decide_eq_true (bnot_f h107)
                    refine sx_on (j := 11) (dd := 90) rfl rfl (by decide) (yl_on (e := !decide ((runAt y (y.runs[k3]'hi7dcb8).id) = (k3 : Int))) rfl h107) (stp_load_bxs (cs := [I y.now, I y.seq, v6_0, v6_1]) ld_Yard rfl hs87_1 (st105.get 3 rfl) rfl rfl ?_)
                    refine sx_on (j := 11) (dd := 90) rfl rfl (by decide) (yl_on (e := !decide ((runAt y (y.runs[k3]'hi7dcb8).id) = (k3 : Int))) rfl h107) (stp_load_bxs (cs := [I (y.runs[k3]'hi7dcb8).id, I (y.runs[k3]'hi7dcb8).plan.prio, I (y.runs[k3]'hi7dcb8).plan.most, I (y.runs[k3]'hi7dcb8).plan.wait, I (y.runs[k3]'hi7dcb8).plan.tasks, v102_0, I (y.runs[k3]'hi7dcb8).state, v102_1]) ld_Run rfl rfl (st105.get 0 rfl) rfl rfl ?_)
                    refine sx_on (j := 11) (dd := 90) rfl rfl (by decide) (yl_on (e := !decide ((runAt y (y.runs[k3]'hi7dcb8).id) = (k3 : Int))) rfl h107) (stp_move (v := v34) hs87_5 ?_)
                    have hwt := runOk_wait (bnot_f h101)
                    refine sx_on (j := 11) (dd := 90) rfl rfl (by decide) (yl_on (e := !decide ((runAt y (y.runs[k3]'hi7dcb8).id) = (k3 : Int))) rfl h107) (stp_call3 Tryz.func99 rfl rfl rfl rfl ((RunsOkI W103 (C_below hc st105.below) (C_below hc89 st105.below) (own_Sl (st105.get 2 rfl)) (by omega) (by omega) (by omega)).mono ?_)); rintro _ W108 ⟨rfl, hk109⟩; refine ⟨_, rfl, ?_⟩
                    have st110 := St.call st105 hk109
                    refine sx_on (j := 11) (dd := 90) rfl rfl (by decide) (yl_on (e := !decide ((runAt y (y.runs[k3]'hi7dcb8).id) = (k3 : Int))) rfl h107) (stp_not rfl ?_)
                    refine sx rfl (stp_pick_f (v := .bool (!(runsOkB y.now (y.runs[k3]'hi7dcb8) (y.shelf).flatten))) ((rfl : _ = (.bool (!decide ((runAt y (y.runs[k3]'hi7dcb8).id) = (k3 : Int))) : Value)).trans (congrArg Value.bool h107)) rfl ?_)
                    refine sx_nil ?_
                    refine sx_if rfl (fun h112 => ?_) (fun h112 => ?_)
                    · skip
                      refine wp_seq ?_
                      refine sx_region ?_
                      refine sx rfl (stp_assign (v := .bool false) rfl ?_)
                      refine sx_nil ?_
                      refine wp_ret ?_; repeat (first | refine then_ret ?_ | refine blk_ret ?_)
                      refine ret1 Tryz.results46 rfl ?_
                      exact ⟨(congrArg (fun z => Ending.returned (.bool z)) (by unfold yardOk; rw [pB_f (by rintro ⟨hz1, hz2, hz3, hz4, hz5, hz6, hz7, hz8, hz9⟩; have hq := (hz8 k3 (by omega) (by omega)).2.2; rw [(bnot_t h112)] at hq; cases hq)])), st110.bare⟩
                    · skip
                      refine wp_skip ?_
                      refine sx_region ?_
                      refine sx rfl (stp_add hs87_74 rfl (by (simp only [I64] at *; omega)) ?_)
                      refine sx rfl (stp_move (v := I ((k3 : Int) + 1)) rfl ?_)
                      refine sx_nil ?_
                      have st113 := st110.f3
                      have st114 := st113.f3
                      have st115 := st114.f3
                      have st116 := st115.d3
                      exact ⟨_, y.runs.length - (k3 + 1), (by omega), rfl, k3 + 1, (by omega), (fun j hj => by rcases Nat.lt_succ_iff_lt_or_eq.1 hj with h1 | rfl; exact hS4 j h1; exact fun _ => ⟨(bnot_f h101), by omega, (bnot_f h112)⟩), rfl, hs87_1, hs87_5, hs87_72, hs87_73, rfl, st116⟩
                  · skip
                    have h107p := of_decide_eq_false (bnot_t h107)
                    iterate 3 refine sx_off (j := 11) (dd := 90) rfl rfl (by decide) (yl_off (e := !decide ((runAt y (y.runs[k3]'hi7dcb8).id) = (k3 : Int))) rfl h107) ?_
                    have hwt := runOk_wait (bnot_f h101)
                    iterate 2 refine sx_off (j := 11) (dd := 90) rfl rfl (by decide) (yl_off (e := !decide ((runAt y (y.runs[k3]'hi7dcb8).id) = (k3 : Int))) rfl h107) ?_
                    refine sx rfl (stp_pick_t (v := .bool true) ((rfl : _ = (.bool (!decide ((runAt y (y.runs[k3]'hi7dcb8).id) = (k3 : Int))) : Value)).trans (congrArg Value.bool h107)) rfl ?_)
                    refine sx_nil ?_
                    refine sx_t rfl rfl ?_
                    refine wp_seq ?_
                    refine sx_region ?_
                    refine sx rfl (stp_assign (v := .bool false) rfl ?_)
                    refine sx_nil ?_
                    refine wp_ret ?_; repeat (first | refine then_ret ?_ | refine blk_ret ?_)
                    refine ret1 Tryz.results46 rfl ?_
                    exact ⟨(congrArg (fun z => Ending.returned (.bool z)) (by unfold yardOk; rw [pB_f (by rintro ⟨hz1, hz2, hz3, hz4, hz5, hz6, hz7, hz8, hz9⟩; have hq := (hz8 k3 (by omega) (by omega)).2.1; omega)])), st105.bare⟩
                · skip
                  iterate 6 refine sx_off (j := 3) (dd := 82) rfl rfl (by decide) (yl_off (e := !(runOk (y.runs[k3]'hi7dcb8))) rfl h101) ?_
                  refine sx rfl (stp_pick_t (v := .bool true) ((rfl : _ = (.bool (!(runOk (y.runs[k3]'hi7dcb8))) : Value)).trans (congrArg Value.bool h101)) rfl ?_)
                  refine sx rfl (stp_move (v := .bool true) rfl ?_)
                  iterate 3 refine sx_off (j := 11) (dd := 90) rfl rfl (by decide) (yl_off (e := true) rfl rfl) ?_
                  skip
                  iterate 2 refine sx_off (j := 11) (dd := 90) rfl rfl (by decide) (yl_off (e := true) rfl rfl) ?_
                  refine sx rfl (stp_pick_t (v := .bool true) rfl rfl ?_)
                  refine sx_nil ?_
                  refine sx_t rfl rfl ?_
                  refine wp_seq ?_
                  refine sx_region ?_
                  refine sx rfl (stp_assign (v := .bool false) rfl ?_)
                  refine sx_nil ?_
                  refine wp_ret ?_; repeat (first | refine then_ret ?_ | refine blk_ret ?_)
                  refine ret1 Tryz.results46 rfl ?_
                  exact ⟨(congrArg (fun z => Ending.returned (.bool z)) (by unfold yardOk; rw [pB_f (by rintro ⟨hz1, hz2, hz3, hz4, hz5, hz6, hz7, hz8, hz9⟩; have hq := (hz8 k3 (by omega) (by omega)).1; rw [(bnot_t h101)] at hq; cases hq)])), st99.bare⟩
              · skip
                have h88p := of_decide_eq_false h88
                refine wp_exit ?_
                refine wp_seq ?_
                refine sx_region ?_
                have hS4 : ∀ j, j < y.runs.length → runOkAt y j := by rw [show k3 = y.runs.length by omega] at hS4; exact hS4
                refine sx rfl (stp_load_bxs (cs := [I y.now, I y.seq, v6_0, v6_1]) ld_Yard rfl hs87_1 (st86.get 2 rfl) rfl rfl ?_)
                refine sx rfl (stp_call1 Tryz.func100 rfl rfl ((SlotsOfI W84 (C_below hc st86.below) (by omega)).mono ?_)); rintro _ W117 ⟨rfl, hk118⟩; refine ⟨_, rfl, ?_⟩
                have st119 := St.call st86 hk118
                refine sx rfl (stp_leq rfl rfl ?_)
                refine sx rfl (stp_assign (v := .bool (decide ((slotsOf y) ≤ 40))) rfl ?_)
                refine sx_nil ?_
                rcases bd (decide ((slotsOf y) ≤ 40)) with h121 | h121
                · skip
                  have h121p := of_decide_eq_false h121
                  refine wp_ret ?_; repeat (first | refine then_ret ?_ | refine blk_ret ?_)
                  refine ret1 Tryz.results46 ((rfl : _ = (.bool (decide ((slotsOf y) ≤ 40)) : Value)).trans (congrArg Value.bool h121)) ?_
                  exact ⟨(congrArg (fun z => Ending.returned (.bool z)) (by unfold yardOk; rw [pB_f (by rintro ⟨hz1, hz2, hz3, hz4, hz5, hz6, hz7, hz8, hz9⟩; omega)])), st119.bare⟩
                · skip
                  have h121p := of_decide_eq_true h121
                  refine wp_ret ?_; repeat (first | refine then_ret ?_ | refine blk_ret ?_)
                  refine ret1 Tryz.results46 ((rfl : _ = (.bool (decide ((slotsOf y) ≤ 40)) : Value)).trans (congrArg Value.bool h121)) ?_
                  exact ⟨(congrArg (fun z => Ending.returned (.bool z)) (by unfold yardOk; rw [pB_t ⟨by omega, by omega, by omega, by omega, hS1, hS2, hS3, hS4, by omega⟩])), st119.bare⟩
      · skip
        have h17p := of_decide_eq_false (bnot_t h17)
        iterate 4 refine sx_off (j := 16) (dd := 27) rfl rfl (by decide) (yl_off (e := !decide ((y.shelf.length : Int) = 4)) rfl h17) ?_
        refine sx rfl (stp_pick_t (v := .bool true) ((rfl : _ = (.bool (!decide ((y.shelf.length : Int) = 4)) : Value)).trans (congrArg Value.bool h17)) rfl ?_)
        refine sx_nil ?_
        refine sx_t rfl rfl ?_
        refine wp_seq ?_
        refine sx_region ?_
        refine sx rfl (stp_assign (v := .bool false) rfl ?_)
        refine sx_nil ?_
        refine wp_ret ?_; repeat (first | refine then_ret ?_ | refine blk_ret ?_)
        refine ret1 Tryz.results46 rfl ?_
        exact ⟨(congrArg (fun z => Ending.returned (.bool z)) (by unfold yardOk; rw [pB_f (by rintro ⟨hz1, hz2, hz3, hz4, hz5, hz6, hz7, hz8, hz9⟩; omega)])), st14.bare⟩
    · skip
      have h16p := inB_not (bnot_t h16)
      iterate 4 refine sx_off (j := 10) (dd := 21) rfl rfl (by decide) (yl_off (e := !(inB y.seq 1 1000000000)) rfl h16) ?_
      refine sx rfl (stp_pick_t (v := .bool true) ((rfl : _ = (.bool (!(inB y.seq 1 1000000000)) : Value)).trans (congrArg Value.bool h16)) rfl ?_)
      refine sx rfl (stp_move (v := .bool true) rfl ?_)
      iterate 4 refine sx_off (j := 16) (dd := 27) rfl rfl (by decide) (yl_off (e := true) rfl rfl) ?_
      refine sx rfl (stp_pick_t (v := .bool true) rfl rfl ?_)
      refine sx_nil ?_
      refine sx_t rfl rfl ?_
      refine wp_seq ?_
      refine sx_region ?_
      refine sx rfl (stp_assign (v := .bool false) rfl ?_)
      refine sx_nil ?_
      refine wp_ret ?_; repeat (first | refine then_ret ?_ | refine blk_ret ?_)
      refine ret1 Tryz.results46 rfl ?_
      exact ⟨(congrArg (fun z => Ending.returned (.bool z)) (by unfold yardOk; rw [pB_f (by rintro ⟨hz1, hz2, hz3, hz4, hz5, hz6, hz7, hz8, hz9⟩; omega)])), st14.bare⟩
  · skip
    have h11p := inB_not (bnot_t h11)
    iterate 4 refine sx_off (j := 4) (dd := 15) rfl rfl (by decide) (yl_off (e := !(inB y.now 0 999999980)) rfl h11) ?_
    refine sx rfl (stp_pick_t (v := .bool true) ((rfl : _ = (.bool (!(inB y.now 0 999999980)) : Value)).trans (congrArg Value.bool h11)) rfl ?_)
    refine sx rfl (stp_move (v := .bool true) rfl ?_)
    iterate 4 refine sx_off (j := 10) (dd := 21) rfl rfl (by decide) (yl_off (e := true) rfl rfl) ?_
    refine sx rfl (stp_pick_t (v := .bool true) rfl rfl ?_)
    refine sx rfl (stp_move (v := .bool true) rfl ?_)
    iterate 4 refine sx_off (j := 16) (dd := 27) rfl rfl (by decide) (yl_off (e := true) rfl rfl) ?_
    refine sx rfl (stp_pick_t (v := .bool true) rfl rfl ?_)
    refine sx_nil ?_
    refine sx_t rfl rfl ?_
    refine wp_seq ?_
    refine sx_region ?_
    refine sx rfl (stp_assign (v := .bool false) rfl ?_)
    refine sx_nil ?_
    refine wp_ret ?_; repeat (first | refine then_ret ?_ | refine blk_ret ?_)
    refine ret1 Tryz.results46 rfl ?_
    exact ⟨(congrArg (fun z => Ending.returned (.bool z)) (by unfold yardOk; rw [pB_f (by rintro ⟨hz1, hz2, hz3, hz4, hz5, hz6, hz7, hz8, hz9⟩; omega)])), st9.bare⟩
set_option maxHeartbeats 2000000 in
theorem ShelvesS (w : World) {y : Yard} {cs : List Value} {fp : List Nat} (hc : Shape.C w cs y fp) (hsq : 1 ≤ y.seq ∧ y.seq ≤ 1000000000) (hw : y.wt ≤ 1048576) :
    Calls Tryz.prog 88 #[.agg cs.toArray] w fun e w' => e = .returned (.bool (pB (y.shelf.length = 4 ∧ (∀ l ∈ y.shelf, shelfOk l = true) ∧ (∀ e ∈ y.shelf.flatten, 1 ≤ e.seq ∧ e.seq ≤ y.seq - 1) ∧ (y.shelf.flatten.map (·.seq)).Nodup))) ∧ St w w' [] := by
  have hyr : y.runs.length ≤ y.wt := by unfold Yard.wt wtL; omega
  have hys : y.shelf.length ≤ y.wt := by unfold Yard.wt wtL; omega
  have hfw := flat_wt y
  refine enter1 Tryz.func88 rfl Tryz.ntmps88 (by decide) ?_
  refine wp_seq ?_
  refine sx_region ?_
  refine sx rfl (stp_box_agg (cs := cs) rfl (St.start w) ?_); intro b1 W2 hb3 st4
  refine sx rfl (stp_assign (v := .bool false) rfl ?_)
  refine sx_nil ?_
  refine wp_seq ?_
  refine wp_seq ?_
  refine sx_region ?_
  refine sx rfl (stp_fieldAddr fa_Yard_2 rfl ?_)
  have hk6 := hc
  obtain ⟨v6_0, v6_1, g6_0, g6_1, rfl, hok6, h6_0, h6_1, rfl⟩ := hk6
  refine sx rfl (stp_load_bx ld_EntrySS rfl rfl (st4.get 0 rfl) (i := 2) rfl rfl ?_)
  refine sx rfl (stp_len sl_EntrySS rfl h6_0 ?_)
  refine sx rfl (stp_neq rfl rfl ?_)
  refine sx_nil ?_
  refine sx_if rfl (fun h7 => ?_) (fun h7 => ?_)
  · skip
    have h7p := of_decide_eq_false (bnot_t h7)
    refine wp_seq ?_
    refine sx_region ?_
    refine sx rfl (stp_assign (v := .bool false) rfl ?_)
    refine sx_nil ?_
    refine wp_ret ?_; repeat (first | refine then_ret ?_ | refine blk_ret ?_)
    refine ret1 Tryz.results88 rfl ?_
    exact ⟨(congrArg (fun z => Ending.returned (.bool z)) (by rw [pB_f (by rintro ⟨hz3, hz5, hz6, hz7⟩; omega)])), st4.bare⟩
  · skip
    have h7p := of_decide_eq_true (bnot_f h7)
    refine wp_skip ?_
    refine wp_seq ?_
    refine wp_seq ?_
    refine sx_region ?_
    refine sx rfl (stp_assign (v := I 0) rfl ?_)
    refine sx_nil ?_
    refine wp_block ?_
    refine sx_loop (fun (m : Nat) (f : Nat → Value) (W : World) => ∃ (k : Nat), k ≤ y.shelf.length ∧ (∀ l ∈ y.shelf.take k, shelfOk l = true) ∧ m = y.shelf.length - k ∧ f 1 = .pointer (some ⟨b1, 0, none⟩) ∧ f 3 = I (k : Int) ∧ St w W ([Res.bx b1 [I y.now, I y.seq, v6_0, v6_1] 34])) (y.shelf.length - 0) ?_ ?_
    · exact ⟨0, (by omega), (by simp), rfl, rfl, rfl, st4⟩
    intro m8 f9 W10 hJ11
    obtain ⟨k, hk, hS1, rfl, hs13_1, hs13_3, st12⟩ := hJ11
    refine wp_seq ?_
    refine wp_seq ?_
    refine sx_region ?_
    refine sx rfl (stp_move (v := I (k : Int)) hs13_3 ?_)
    refine sx rfl (stp_fieldAddr fa_Yard_2 hs13_1 ?_)
    refine sx rfl (stp_load_bx ld_EntrySS rfl rfl (st12.get 0 rfl) (i := 2) rfl rfl ?_)
    refine sx rfl (stp_len sl_EntrySS rfl h6_0 ?_)
    refine sx rfl (stp_lss rfl rfl ?_)
    refine sx_nil ?_
    refine sx_if rfl (fun h14 => ?_) (fun h14 => ?_)
    · skip
      have h14p := of_decide_eq_true h14
      refine wp_skip ?_
      refine wp_seq ?_
      refine wp_block ?_
      refine wp_seq ?_
      refine sx_region ?_
      refine sx rfl (stp_fieldAddr fa_Yard_2 hs13_1 ?_)
      refine sx rfl (stp_load_bx ld_EntrySS rfl rfl (st12.get 0 rfl) (i := 2) rfl rfl ?_)
      refine sx rfl (stp_move (v := I (k : Int)) hs13_3 ?_)
      have hi019db : k < y.shelf.length := (by omega)
      have hq_ := idx h6_0 (i := k) hi019db
      obtain ⟨b15, o15, cs15, f15, hp15, hr15, hc15, hm15⟩ := hq_
      have hk15 := hc15
      obtain ⟨v16, rfl, h17⟩ := hk15
      refine sx rfl (stp_indexAddr sl_EntrySS rfl hp15 rfl rfl ?_)
      refine sx rfl (stp_load_rg ld_EntryS rfl rfl hr15 st12.below (i := 0) rfl rfl ?_)
      refine sx rfl (stp_call1 Tryz.func154 rfl rfl ((ShelfOkS W10 (h17.below st12.below)).mono ?_)); rintro _ W18 ⟨rfl, hk19⟩; refine ⟨_, rfl, ?_⟩
      have st20 := St.call st12 hk19
      refine sx rfl (stp_not rfl ?_)
      refine sx_nil ?_
      refine sx_if rfl (fun h22 => ?_) (fun h22 => ?_)
      · skip
        refine wp_seq ?_
        refine sx_region ?_
        refine sx rfl (stp_assign (v := .bool false) rfl ?_)
        refine sx_nil ?_
        refine wp_ret ?_; repeat (first | refine then_ret ?_ | refine blk_ret ?_)
        refine ret1 Tryz.results88 rfl ?_
        exact ⟨(congrArg (fun z => Ending.returned (.bool z)) (by rw [pB_f (by rintro ⟨hz3, hz5, hz6, hz7⟩; have hq := hz5 _ (List.getElem_mem (n := k) (by omega)); rw [(bnot_t h22)] at hq; cases hq)])), st20.bare⟩
      · skip
        refine wp_skip ?_
        refine sx_region ?_
        refine sx rfl (stp_move (v := I (k : Int)) hs13_3 ?_)
        refine sx rfl (stp_add rfl rfl (by (simp only [I64] at *; omega)) ?_)
        refine sx rfl (stp_assign (v := I ((k : Int) + 1)) rfl ?_)
        refine sx_nil ?_
        exact ⟨_, y.shelf.length - (k + 1), (by omega), rfl, k + 1, (by omega), (all_step (by omega) hS1 (bnot_f h22)), rfl, hs13_1, rfl, st20⟩
    · skip
      have h14p := of_decide_eq_false h14
      refine wp_exit ?_
      refine wp_seq ?_
      refine sx_region ?_
      have hS1 : ∀ l ∈ y.shelf, shelfOk l = true := by rw [show k = y.shelf.length by omega, List.take_length] at hS1; exact hS1
      refine sx rfl (stp_load_bxs (cs := [I y.now, I y.seq, v6_0, v6_1]) ld_Yard rfl hs13_1 (st12.get 0 rfl) rfl rfl ?_)
      refine sx rfl (stp_call1 Tryz.func91 rfl rfl ((EntriesS W10 (C_below hc st12.below) (by omega)).mono ?_)); rintro _ W25 ⟨v23, fp23, rfl, hk26⟩; refine ⟨_, rfl, ?_⟩
      have st27 := St.call st12 hk26
      refine sx rfl (stp_assign (v := v23) rfl ?_)
      refine sx_nil ?_
      refine wp_seq ?_
      refine wp_seq ?_
      refine sx_region ?_
      refine sx rfl (stp_assign (v := I 0) rfl ?_)
      refine sx_nil ?_
      refine wp_block ?_
      refine sx_loop (fun (m : Nat) (f : Nat → Value) (W : World) => ∃ (k2 : Nat), k2 ≤ y.shelf.flatten.length ∧ (∀ e ∈ y.shelf.flatten.take k2, 1 ≤ e.seq ∧ e.seq ≤ y.seq - 1) ∧ ((y.shelf.flatten.take k2).map (·.seq)).Nodup ∧ m = y.shelf.flatten.length - k2 ∧ f 1 = .pointer (some ⟨b1, 0, none⟩) ∧ f 4 = v23 ∧ f 5 = I (k2 : Int) ∧ St w W ([Res.own (α := List Entry) v23 (y.shelf).flatten fp23, Res.bx b1 [I y.now, I y.seq, v6_0, v6_1] 34])) (y.shelf.flatten.length - 0) ?_ ?_
      · exact ⟨0, (by omega), (by simp), (by simp), rfl, hs13_1, rfl, rfl, st27⟩
      intro m29 f30 W31 hJ32
      obtain ⟨k2, hk2, hS2, hS3, rfl, hs34_1, hs34_4, hs34_5, st33⟩ := hJ32
      refine wp_seq ?_
      refine wp_seq ?_
      refine sx_region ?_
      refine sx rfl (stp_move (v := I (k2 : Int)) hs34_5 ?_)
      refine sx rfl (stp_move (v := v23) hs34_4 ?_)
      refine sx rfl (stp_len sl_EntryS rfl (own_Sl (st33.get 0 rfl)) ?_)
      refine sx rfl (stp_lss rfl rfl ?_)
      refine sx_nil ?_
      refine sx_if rfl (fun h35 => ?_) (fun h35 => ?_)
      · skip
        have h35p := of_decide_eq_true h35
        refine wp_skip ?_
        refine wp_seq ?_
        refine wp_block ?_
        refine wp_seq ?_
        refine wp_seq ?_
        have hi3bcf4 : k2 < (y.shelf).flatten.length := (by omega)
        have hq_ := idx (own_Sl (st33.get 0 rfl)) (i := k2) hi3bcf4
        obtain ⟨b36, o36, cs36, f36, hp36, hr36, hc36, hm36⟩ := hq_
        have hk37 := hc36
        obtain ⟨he37, rfl, hok37⟩ := hk37
        have he37 : _ = [I ((y.shelf).flatten[k2]'hi3bcf4).prio, I ((y.shelf).flatten[k2]'hi3bcf4).seq, I ((y.shelf).flatten[k2]'hi3bcf4).run, I ((y.shelf).flatten[k2]'hi3bcf4).task] := he37
        subst he37
        refine sx_any [Pl.is (v23) (Sl.yl (own_Sl (st33.get 0 rfl))), Pl.is (I (k2 : Int)), Pl.is (.pointer (some ⟨b36, o36, none⟩)), Pl.is (.pointer (some ⟨b36, o36 + 1, none⟩)), Pl.is (I ((y.shelf).flatten[k2]'hi3bcf4).seq), Pl.is (.pointer (some ⟨b1, 0 + 1, none⟩)), Pl.is (I y.seq), Pl.is (I (y.seq - 1)), Pl.bool (inB ((y.shelf).flatten[k2]'hi3bcf4).seq 1 (y.seq - 1)), Pl.bool (!(inB ((y.shelf).flatten[k2]'hi3bcf4).seq 1 (y.seq - 1)))] mix (by rfl) st33 ⟨(fun f W hst hbl hd hf => stp_move (v := v23) ((hf 4 rfl).trans hs34_4) ⟨Below.refl _ _, rfl⟩), (fun f W hst hbl hd hf => stp_move (v := I (k2 : Int)) ((hf 5 rfl).trans hs34_5) ⟨Below.refl _ _, rfl⟩), (fun f W hst hbl hd hf => stp_indexAddr sl_EntryS (hd 0 33 rfl rfl) hp36 (hd 1 34 rfl rfl) rfl ⟨Below.refl _ _, rfl⟩), (fun f W hst hbl hd hf => stp_fieldAddr fa_Entry_1 (hd 2 35 rfl rfl) ⟨Below.refl _ _, rfl⟩), (fun f W hst hbl hd hf => stp_load_rg ld_int rfl (hd 3 36 rfl rfl) hr36 hbl (i := 1) rfl rfl ⟨Below.refl _ _, rfl⟩), (fun f W hst hbl hd hf => stp_fieldAddr fa_Yard_1 ((hf 1 rfl).trans hs34_1) ⟨Below.refl _ _, rfl⟩), (fun f W hst hbl hd hf => stp_load_bx ld_int rfl (hd 5 38 rfl rfl) (hst.get 1 rfl) (i := 1) rfl rfl ⟨Below.refl _ _, rfl⟩), (fun f W hst hbl hd hf => stp_sub (hd 6 39 rfl rfl) rfl (by (simp only [I64] at *; omega)) ⟨Below.refl _ _, rfl⟩), (fun f W hst hbl hd hf => stp_call3 Tryz.func43 rfl (hd 4 37 rfl rfl) rfl (hd 7 40 rfl rfl) ((l01In_n W ((y.shelf).flatten[k2]'hi3bcf4).seq 1 (y.seq - 1)).mono (by rintro e W2 ⟨rfl, hk⟩; exact ⟨_, rfl, hk.below, rfl⟩))), (fun f W hst hbl hd hf => stp_not (hd 8 41 rfl rfl) ⟨Below.refl _ _, rfl⟩), trivial⟩ ?_
        intro f38 W39 st40 hb41 hv42 hf43
        refine sx_if (hv42 9 42 (by decide) rfl) (fun h44 => ?_) (fun h44 => ?_)
        · skip
          have h44p := inB_not (bnot_t h44)
          refine wp_seq ?_
          refine sx_region ?_
          refine sx rfl (stp_assign (v := .bool false) rfl ?_)
          refine sx_nil ?_
          refine wp_ret ?_; repeat (first | refine then_ret ?_ | refine blk_ret ?_)
          refine ret1 Tryz.results88 rfl ?_
          exact ⟨(congrArg (fun z => Ending.returned (.bool z)) (by rw [pB_f (by rintro ⟨hz3, hz5, hz6, hz7⟩; have hq := hz6 _ (List.getElem_mem (n := k2) (by omega)); omega)])), st40.bare⟩
        · skip
          have h44p := inB_iff'.1 (bnot_f h44)
          refine wp_skip ?_
          refine wp_seq ?_
          refine sx_region ?_
          refine sx rfl (stp_assign (v := I 0) rfl ?_)
          refine sx_nil ?_
          refine wp_block ?_
          refine sx_loop (fun (m : Nat) (f : Nat → Value) (W : World) => ∃ (j : Nat), k2 < y.shelf.flatten.length ∧ j ≤ k2 ∧ (y.shelf.flatten[k2]'(by omega)).seq ∉ (y.shelf.flatten.take j).map (·.seq) ∧ m = k2 - j ∧ f 1 = .pointer (some ⟨b1, 0, none⟩) ∧ f 4 = v23 ∧ f 5 = I (k2 : Int) ∧ f 6 = I (j : Int) ∧ St w W ([Res.own (α := List Entry) v23 (y.shelf).flatten fp23, Res.bx b1 [I y.now, I y.seq, v6_0, v6_1] 34])) (k2 - 0) ?_ ?_
          · exact ⟨0, (by omega), (by omega), (by simp), rfl, ((hf43 1 rfl).trans hs34_1), ((hf43 4 rfl).trans hs34_4), ((hf43 5 rfl).trans hs34_5), rfl, st40⟩
          intro m45 f46 W47 hJ48
          obtain ⟨j, hk2b, hj, hJ, rfl, hs50_1, hs50_4, hs50_5, hs50_6, st49⟩ := hJ48
          refine wp_seq ?_
          refine wp_seq ?_
          refine sx_region ?_
          refine sx rfl (stp_move (v := I (j : Int)) hs50_6 ?_)
          refine sx rfl (stp_move (v := I (k2 : Int)) hs50_5 ?_)
          refine sx rfl (stp_lss rfl rfl ?_)
          refine sx_nil ?_
          refine sx_if rfl (fun h51 => ?_) (fun h51 => ?_)
          · skip
            have h51p := of_decide_eq_true h51
            refine wp_skip ?_
            refine wp_seq ?_
            refine wp_block ?_
            refine wp_seq ?_
            have hi2a04a : j < (y.shelf).flatten.length := (by omega)
            have hq_ := idx (own_Sl (st49.get 0 rfl)) (i := j) hi2a04a
            obtain ⟨b52, o52, cs52, f52, hp52, hr52, hc52, hm52⟩ := hq_
            have hk53 := hc52
            obtain ⟨he53, rfl, hok53⟩ := hk53
            have he53 : _ = [I ((y.shelf).flatten[j]'hi2a04a).prio, I ((y.shelf).flatten[j]'hi2a04a).seq, I ((y.shelf).flatten[j]'hi2a04a).run, I ((y.shelf).flatten[j]'hi2a04a).task] := he53
            subst he53
            have hi3bcf4 : k2 < (y.shelf).flatten.length := (by omega)
            have hq_ := idx (own_Sl (st49.get 0 rfl)) (i := k2) hi3bcf4
            obtain ⟨b54, o54, cs54, f54, hp54, hr54, hc54, hm54⟩ := hq_
            have hk55 := hc54
            obtain ⟨he55, rfl, hok55⟩ := hk55
            have he55 : _ = [I ((y.shelf).flatten[k2]'hi3bcf4).prio, I ((y.shelf).flatten[k2]'hi3bcf4).seq, I ((y.shelf).flatten[k2]'hi3bcf4).run, I ((y.shelf).flatten[k2]'hi3bcf4).task] := he55
            subst he55
            refine sx_any [Pl.is (v23) (Sl.yl (own_Sl (st49.get 0 rfl))), Pl.is (I (j : Int)), Pl.is (.pointer (some ⟨b52, o52, none⟩)), Pl.is (.pointer (some ⟨b52, o52 + 1, none⟩)), Pl.is (I ((y.shelf).flatten[j]'hi2a04a).seq), Pl.is (v23) (Sl.yl (own_Sl (st49.get 0 rfl))), Pl.is (I (k2 : Int)), Pl.is (.pointer (some ⟨b54, o54, none⟩)), Pl.is (.pointer (some ⟨b54, o54 + 1, none⟩)), Pl.is (I ((y.shelf).flatten[k2]'hi3bcf4).seq), Pl.bool (decide (((y.shelf).flatten[j]'hi2a04a).seq = ((y.shelf).flatten[k2]'hi3bcf4).seq))] mix (by rfl) st49 ⟨(fun f W hst hbl hd hf => stp_move (v := v23) ((hf 4 rfl).trans hs50_4) ⟨Below.refl _ _, rfl⟩), (fun f W hst hbl hd hf => stp_move (v := I (j : Int)) ((hf 6 rfl).trans hs50_6) ⟨Below.refl _ _, rfl⟩), (fun f W hst hbl hd hf => stp_indexAddr sl_EntryS (hd 0 48 rfl rfl) hp52 (hd 1 49 rfl rfl) rfl ⟨Below.refl _ _, rfl⟩), (fun f W hst hbl hd hf => stp_fieldAddr fa_Entry_1 (hd 2 50 rfl rfl) ⟨Below.refl _ _, rfl⟩), (fun f W hst hbl hd hf => stp_load_rg ld_int rfl (hd 3 51 rfl rfl) hr52 hbl (i := 1) rfl rfl ⟨Below.refl _ _, rfl⟩), (fun f W hst hbl hd hf => stp_move (v := v23) ((hf 4 rfl).trans hs50_4) ⟨Below.refl _ _, rfl⟩), (fun f W hst hbl hd hf => stp_move (v := I (k2 : Int)) ((hf 5 rfl).trans hs50_5) ⟨Below.refl _ _, rfl⟩), (fun f W hst hbl hd hf => stp_indexAddr sl_EntryS (hd 5 53 rfl rfl) hp54 (hd 6 54 rfl rfl) rfl ⟨Below.refl _ _, rfl⟩), (fun f W hst hbl hd hf => stp_fieldAddr fa_Entry_1 (hd 7 55 rfl rfl) ⟨Below.refl _ _, rfl⟩), (fun f W hst hbl hd hf => stp_load_rg ld_int rfl (hd 8 56 rfl rfl) hr54 hbl (i := 1) rfl rfl ⟨Below.refl _ _, rfl⟩), (fun f W hst hbl hd hf => stp_eql (hd 4 52 rfl rfl) (hd 9 57 rfl rfl) ⟨Below.refl _ _, rfl⟩), trivial⟩ ?_
            intro f56 W57 st58 hb59 hv60 hf61
            refine sx_if (hv60 10 58 (by decide) rfl) (fun h62 => ?_) (fun h62 => ?_)
            · skip
              have h62p := of_decide_eq_true h62
              refine wp_seq ?_
              refine sx_region ?_
              refine sx rfl (stp_assign (v := .bool false) rfl ?_)
              refine sx_nil ?_
              refine wp_ret ?_; repeat (first | refine then_ret ?_ | refine blk_ret ?_)
              refine ret1 Tryz.results88 rfl ?_
              exact ⟨(congrArg (fun z => Ending.returned (.bool z)) (by rw [pB_f (by rintro ⟨hz3, hz5, hz6, hz7⟩; exact not_nodup_map (k := k2) (by omega) (by rw [← h62p]; exact List.mem_map_of_mem (mem_take_at (by omega) (by omega))) hz7)])), st58.bare⟩
            · skip
              have h62p := of_decide_eq_false h62
              refine wp_skip ?_
              refine sx_region ?_
              refine sx rfl (stp_move (v := I (j : Int)) ((hf61 6 rfl).trans hs50_6) ?_)
              refine sx rfl (stp_add rfl rfl (by (simp only [I64] at *; omega)) ?_)
              refine sx rfl (stp_assign (v := I ((j : Int) + 1)) rfl ?_)
              refine sx_nil ?_
              exact ⟨_, k2 - (j + 1), (by omega), rfl, j + 1, (by omega), (by omega), (by rw [map_step _ (by omega), List.mem_append]; rintro (hq | hq); exact hJ hq; rw [List.mem_singleton] at hq; exact h62p hq.symm), rfl, ((hf61 1 rfl).trans hs50_1), ((hf61 4 rfl).trans hs50_4), ((hf61 5 rfl).trans hs50_5), rfl, st58⟩
          · skip
            have h51p := of_decide_eq_false h51
            refine wp_exit ?_
            refine sx_region ?_
            refine sx rfl (stp_move (v := I (k2 : Int)) hs50_5 ?_)
            refine sx rfl (stp_add rfl rfl (by (simp only [I64] at *; omega)) ?_)
            refine sx rfl (stp_assign (v := I ((k2 : Int) + 1)) rfl ?_)
            refine sx_nil ?_
            exact ⟨_, y.shelf.flatten.length - (k2 + 1), (by omega), rfl, k2 + 1, (by omega), (all_step (by omega) hS2 (by omega)), (nodup_map_step (by omega) hS3 (by rw [show j = k2 by omega] at hJ; exact hJ)), rfl, hs50_1, hs50_4, rfl, st49⟩
      · skip
        have h35p := of_decide_eq_false h35
        refine wp_exit ?_
        refine wp_seq ?_
        refine sx_region ?_
        refine sx rfl (stp_assign (v := .bool true) rfl ?_)
        refine sx_nil ?_
        refine wp_ret ?_; repeat (first | refine then_ret ?_ | refine blk_ret ?_)
        refine ret1 Tryz.results88 rfl ?_
        have hS2 : ∀ e ∈ y.shelf.flatten, 1 ≤ e.seq ∧ e.seq ≤ y.seq - 1 := by rw [show k2 = y.shelf.flatten.length by omega, List.take_length] at hS2; exact hS2
        have hS3 : (y.shelf.flatten.map (·.seq)).Nodup := by rw [show k2 = y.shelf.flatten.length by omega, List.take_length] at hS3; exact hS3
        exact ⟨(congrArg (fun z => Ending.returned (.bool z)) (by rw [pB_t ⟨by omega, hS1, hS2, hS3⟩])), st33.bare⟩
set_option maxHeartbeats 2000000 in
theorem YardOkS (w : World) {y : Yard} {cs : List Value} {fp : List Nat} (hc : Shape.C w cs y fp) (hw : y.wt ≤ 1048576) :
    Calls Tryz.prog 42 #[.agg cs.toArray] w fun e w' => e = .returned (.bool (yardOk y)) ∧ St w w' [] := by
  have hyr : y.runs.length ≤ y.wt := by unfold Yard.wt wtL; omega
  have hys : y.shelf.length ≤ y.wt := by unfold Yard.wt wtL; omega
  have hfw := flat_wt y
  refine enter1 Tryz.func42 rfl Tryz.ntmps42 (by decide) ?_
  refine wp_seq ?_
  refine sx_region ?_
  refine sx rfl (stp_box_agg (cs := cs) rfl (St.start w) ?_); intro b1 W2 hb3 st4
  refine sx rfl (stp_assign (v := .bool false) rfl ?_)
  refine sx_nil ?_
  refine wp_seq ?_
  refine wp_seq ?_
  refine sx_region ?_
  refine sx rfl (stp_fieldAddr fa_Yard_0 rfl ?_)
  have hk6 := hc
  obtain ⟨v6_0, v6_1, g6_0, g6_1, rfl, hok6, h6_0, h6_1, rfl⟩ := hk6
  refine sx rfl (stp_load_bx ld_int rfl rfl (st4.get 0 rfl) (i := 0) rfl rfl ?_)
  refine sx rfl (stp_call3 Tryz.func43 rfl rfl rfl rfl ((l01In_n W2 y.now 0 999999980).mono ?_)); rintro _ W7 ⟨rfl, hk8⟩; refine ⟨_, rfl, ?_⟩
  have st9 := St.call st4 hk8
  refine sx rfl (stp_not rfl ?_)
  refine sx rfl (stp_move (v := .bool (!(inB y.now 0 999999980))) rfl ?_)
  rcases bd (!(inB y.now 0 999999980)) with h11 | h11
  · skip
    have h11p := inB_iff'.1 (bnot_f h11)
    refine sx_on (j := 4) (dd := 10) rfl rfl (by decide) (yl_on (e := !(inB y.now 0 999999980)) rfl h11) (stp_fieldAddr fa_Yard_1 rfl ?_)
    refine sx_on (j := 4) (dd := 10) rfl rfl (by decide) (yl_on (e := !(inB y.now 0 999999980)) rfl h11) (stp_load_bx ld_int rfl rfl (st9.get 0 rfl) (i := 1) rfl rfl ?_)
    refine sx_on (j := 4) (dd := 10) rfl rfl (by decide) (yl_on (e := !(inB y.now 0 999999980)) rfl h11) (stp_call3 Tryz.func43 rfl rfl rfl rfl ((l01In_n W7 y.seq 1 1000000000).mono ?_)); rintro _ W12 ⟨rfl, hk13⟩; refine ⟨_, rfl, ?_⟩
    have st14 := St.call st9 hk13
    refine sx_on (j := 4) (dd := 10) rfl rfl (by decide) (yl_on (e := !(inB y.now 0 999999980)) rfl h11) (stp_not rfl ?_)
    refine sx rfl (stp_pick_f (v := .bool (!(inB y.seq 1 1000000000))) ((rfl : _ = (.bool (!(inB y.now 0 999999980)) : Value)).trans (congrArg Value.bool h11)) rfl ?_)
    refine sx rfl (stp_move (v := .bool (!(inB y.seq 1 1000000000))) rfl ?_)
    rcases bd (!(inB y.seq 1 1000000000)) with h16 | h16
    · skip
      have h16p := inB_iff'.1 (bnot_f h16)
      refine sx_on (j := 10) (dd := 16) rfl rfl (by decide) (yl_on (e := !(inB y.seq 1 1000000000)) rfl h16) (stp_fieldAddr fa_Yard_3 rfl ?_)
      refine sx_on (j := 10) (dd := 16) rfl rfl (by decide) (yl_on (e := !(inB y.seq 1 1000000000)) rfl h16) (stp_load_bx ld_RunS rfl rfl (st14.get 0 rfl) (i := 3) rfl rfl ?_)
      refine sx_on (j := 10) (dd := 16) rfl rfl (by decide) (yl_on (e := !(inB y.seq 1 1000000000)) rfl h16) (stp_len sl_RunS rfl h6_1 ?_)
      refine sx_on (j := 10) (dd := 16) rfl rfl (by decide) (yl_on (e := !(inB y.seq 1 1000000000)) rfl h16) (stp_gtr rfl rfl ?_)
      refine sx rfl (stp_pick_f (v := .bool (decide (8 < (y.runs.length : Int)))) ((rfl : _ = (.bool (!(inB y.seq 1 1000000000)) : Value)).trans (congrArg Value.bool h16)) rfl ?_)
      refine sx rfl (stp_move (v := .bool (decide (8 < (y.runs.length : Int)))) rfl ?_)
      rcases bd (decide (8 < (y.runs.length : Int))) with h17 | h17
      · skip
        have h17p := of_decide_eq_false h17
        refine sx_on (j := 16) (dd := 22) rfl rfl (by decide) (yl_on (e := decide (8 < (y.runs.length : Int))) rfl h17) (stp_load_bxs (cs := [I y.now, I y.seq, v6_0, v6_1]) ld_Yard rfl rfl (st14.get 0 rfl) rfl rfl ?_)
        refine sx_on (j := 16) (dd := 22) rfl rfl (by decide) (yl_on (e := decide (8 < (y.runs.length : Int))) rfl h17) (stp_call1 Tryz.func88 rfl rfl ((ShelvesS W12 (C_below hc st14.below) (by omega) (by omega)).mono ?_)); rintro _ W18 ⟨rfl, hk19⟩; refine ⟨_, rfl, ?_⟩
        have st20 := St.call st14 hk19
        refine sx_on (j := 16) (dd := 22) rfl rfl (by decide) (yl_on (e := decide (8 < (y.runs.length : Int))) rfl h17) (stp_not rfl ?_)
        refine sx rfl (stp_pick_f (v := .bool (!(pB (y.shelf.length = 4 ∧ (∀ l ∈ y.shelf, shelfOk l = true) ∧ (∀ e ∈ y.shelf.flatten, 1 ≤ e.seq ∧ e.seq ≤ y.seq - 1) ∧ (y.shelf.flatten.map (·.seq)).Nodup)))) ((rfl : _ = (.bool (decide (8 < (y.runs.length : Int))) : Value)).trans (congrArg Value.bool h17)) rfl ?_)
        refine sx_nil ?_
        refine sx_if rfl (fun h22 => ?_) (fun h22 => ?_)
        · skip
          refine wp_seq ?_
          refine sx_region ?_
          refine sx rfl (stp_assign (v := .bool false) rfl ?_)
          refine sx_nil ?_
          refine wp_ret ?_; repeat (first | refine then_ret ?_ | refine blk_ret ?_)
          refine ret1 Tryz.results42 rfl ?_
          exact ⟨(congrArg (fun z => Ending.returned (.bool z)) (by unfold yardOk; rw [pB_f (by rintro ⟨hz1, hz2, hz3, hz4, hz5, hz6, hz7, hz8, hz9⟩; exact pB_not (bnot_t h22) ⟨hz3, hz5, hz6, hz7⟩)])), st20.bare⟩
        · skip
          refine wp_skip ?_
          refine wp_seq ?_
          refine wp_seq ?_
          refine sx_region ?_
          have hSH := pB_iff.1 (bnot_f h22)
          refine sx rfl (stp_assign (v := I 0) rfl ?_)
          refine sx_nil ?_
          refine wp_block ?_
          refine sx_loop (fun (m : Nat) (f : Nat → Value) (W : World) => ∃ (k3 : Nat), k3 ≤ y.runs.length ∧ (∀ j, j < k3 → ∀ h : j < y.runs.length, runOk y.runs[j] = true ∧ runAt y y.runs[j].id = (j : Int)) ∧ m = y.runs.length - k3 ∧ f 1 = .pointer (some ⟨b1, 0, none⟩) ∧ f 3 = I (k3 : Int) ∧ St w W ([Res.bx b1 [I y.now, I y.seq, v6_0, v6_1] 34])) (y.runs.length - 0) ?_ ?_
          · exact ⟨0, (by omega), (fun j hj => absurd hj (Nat.not_lt_zero j)), rfl, rfl, rfl, st20⟩
          intro m23 f24 W25 hJ26
          obtain ⟨k3, hk3, hS3, rfl, hs28_1, hs28_3, st27⟩ := hJ26
          refine wp_seq ?_
          refine wp_seq ?_
          refine sx_region ?_
          refine sx rfl (stp_move (v := I (k3 : Int)) hs28_3 ?_)
          refine sx rfl (stp_fieldAddr fa_Yard_3 hs28_1 ?_)
          refine sx rfl (stp_load_bx ld_RunS rfl rfl (st27.get 0 rfl) (i := 3) rfl rfl ?_)
          refine sx rfl (stp_len sl_RunS rfl h6_1 ?_)
          refine sx rfl (stp_lss rfl rfl ?_)
          refine sx_nil ?_
          refine sx_if rfl (fun h29 => ?_) (fun h29 => ?_)
          · skip
            have h29p := of_decide_eq_true h29
            refine wp_skip ?_
            refine wp_seq ?_
            refine wp_block ?_
            refine wp_seq ?_
            have hi7dcb8 : k3 < y.runs.length := (by omega)
            rcases bd (!(runOk (y.runs[k3]'hi7dcb8))) with h32 | h32
            · skip
              have hi7dcb8 : k3 < y.runs.length := (by omega)
              have hq_ := idx h6_1 (i := k3) hi7dcb8
              obtain ⟨b33, o33, cs33, f33, hp33, hr33, hc33, hm33⟩ := hq_
              have hk34 := hc33
              obtain ⟨v34_0, v34_1, g34_0, g34_1, rfl, hok34, h34_0, h34_1, rfl⟩ := hk34
              refine sx_any [Pl.is (.pointer (some ⟨b1, 0 + 3, none⟩)), Pl.is (v6_1) (Sl.yl h6_1), Pl.is (I (k3 : Int)), Pl.is (.pointer (some ⟨b33, o33, none⟩)), Pl.is (.agg #[I (y.runs[k3]'hi7dcb8).id, I (y.runs[k3]'hi7dcb8).plan.prio, I (y.runs[k3]'hi7dcb8).plan.most, I (y.runs[k3]'hi7dcb8).plan.wait, I (y.runs[k3]'hi7dcb8).plan.tasks, v34_0, I (y.runs[k3]'hi7dcb8).state, v34_1]), Pl.bool (runOk (y.runs[k3]'hi7dcb8)), Pl.bool false, Pl.bool false, Pl.is (.agg #[I y.now, I y.seq, v6_0, v6_1]), Pl.is (.pointer (some ⟨b1, 0 + 3, none⟩)), Pl.is (v6_1) (Sl.yl h6_1), Pl.is (I (k3 : Int)), Pl.is (.pointer (some ⟨b33, o33, none⟩)), Pl.is (.pointer (some ⟨b33, o33 + 0, none⟩)), Pl.is (I (y.runs[k3]'hi7dcb8).id), Pl.is (I (runAt y (y.runs[k3]'hi7dcb8).id)), Pl.is (I (k3 : Int)), Pl.bool (!decide ((runAt y (y.runs[k3]'hi7dcb8).id) = (k3 : Int))), Pl.bool (!decide ((runAt y (y.runs[k3]'hi7dcb8).id) = (k3 : Int)))] mix (by rfl) st27 ⟨(fun f W hst hbl hd hf => stp_fieldAddr fa_Yard_3 ((hf 1 rfl).trans hs28_1) ⟨Below.refl _ _, rfl⟩), (fun f W hst hbl hd hf => stp_load_bx ld_RunS rfl (hd 0 34 rfl rfl) (hst.get 0 rfl) (i := 3) rfl rfl ⟨Below.refl _ _, rfl⟩), (fun f W hst hbl hd hf => stp_move (v := I (k3 : Int)) ((hf 3 rfl).trans hs28_3) ⟨Below.refl _ _, rfl⟩), (fun f W hst hbl hd hf => stp_indexAddr sl_RunS (hd 1 35 rfl rfl) hp33 (hd 2 36 rfl rfl) rfl ⟨Below.refl _ _, rfl⟩), (fun f W hst hbl hd hf => stp_load_rgs (cs := [I (y.runs[k3]'hi7dcb8).id, I (y.runs[k3]'hi7dcb8).plan.prio, I (y.runs[k3]'hi7dcb8).plan.most, I (y.runs[k3]'hi7dcb8).plan.wait, I (y.runs[k3]'hi7dcb8).plan.tasks, v34_0, I (y.runs[k3]'hi7dcb8).state, v34_1]) ld_Run rfl (hd 3 37 rfl rfl) hr33 hst.below (i := 0) rfl rfl rfl ⟨Below.refl _ _, rfl⟩), (fun f W hst hbl hd hf => stp_call1 Tryz.func89 rfl (hd 4 38 rfl rfl) ((RunOkS W (C_below hc33 hst.below)).mono (by rintro e W2 ⟨rfl, hk⟩; exact ⟨_, rfl, hk.below, rfl⟩))), (fun f W hst hbl hd hf => stp_not (hd 5 39 rfl rfl) ⟨Below.refl _ _, congrArg Value.bool h32⟩), (fun f W hst hbl hd hf => stp_move (v := .bool false) (hd 6 40 rfl rfl) ⟨Below.refl _ _, rfl⟩), (fun f W hst hbl hd hf => stp_load_bxs (cs := [I y.now, I y.seq, v6_0, v6_1]) ld_Yard rfl ((hf 1 rfl).trans hs28_1) (hst.get 0 rfl) rfl rfl ⟨Below.refl _ _, rfl⟩), (fun f W hst hbl hd hf => stp_fieldAddr fa_Yard_3 ((hf 1 rfl).trans hs28_1) ⟨Below.refl _ _, rfl⟩), (fun f W hst hbl hd hf => stp_load_bx ld_RunS rfl (hd 9 43 rfl rfl) (hst.get 0 rfl) (i := 3) rfl rfl ⟨Below.refl _ _, rfl⟩), (fun f W hst hbl hd hf => stp_move (v := I (k3 : Int)) ((hf 3 rfl).trans hs28_3) ⟨Below.refl _ _, rfl⟩), (fun f W hst hbl hd hf => stp_indexAddr sl_RunS (hd 10 44 rfl rfl) hp33 (hd 11 45 rfl rfl) rfl ⟨Below.refl _ _, rfl⟩), (fun f W hst hbl hd hf => stp_fieldAddr fa_Run_0 (hd 12 46 rfl rfl) ⟨Below.refl _ _, rfl⟩), (fun f W hst hbl hd hf => stp_load_rg ld_int rfl (hd 13 47 rfl rfl) hr33 hst.below (i := 0) rfl rfl ⟨Below.refl _ _, rfl⟩), (fun f W hst hbl hd hf => stp_call2 Tryz.func90 rfl (hd 8 42 rfl rfl) (hd 14 48 rfl rfl) ((RunAtS W (C_below hc hst.below) (y.runs[k3]'hi7dcb8).id (by omega)).mono (by rintro e W2 ⟨rfl, hk⟩; exact ⟨_, rfl, hk.below, rfl⟩))), (fun f W hst hbl hd hf => stp_move (v := I (k3 : Int)) ((hf 3 rfl).trans hs28_3) ⟨Below.refl _ _, rfl⟩), (fun f W hst hbl hd hf => stp_neq (hd 15 49 rfl rfl) (hd 16 50 rfl rfl) ⟨Below.refl _ _, rfl⟩), (fun f W hst hbl hd hf => stp_pick_f (v := .bool (!decide ((runAt y (y.runs[k3]'hi7dcb8).id) = (k3 : Int)))) (hd 7 41 rfl rfl) (hd 17 51 rfl rfl) ⟨Below.refl _ _, rfl⟩), trivial⟩ ?_
              intro f35 W36 st37 hb38 hv39 hf40
              refine sx_if (hv39 18 52 (by decide) rfl) (fun h41 => ?_) (fun h41 => ?_)
              · skip
                have h41p := of_decide_eq_false (bnot_t h41)
                refine wp_seq ?_
                refine sx_region ?_
                refine sx rfl (stp_assign (v := .bool false) rfl ?_)
                refine sx_nil ?_
                refine wp_ret ?_; repeat (first | refine then_ret ?_ | refine blk_ret ?_)
                refine ret1 Tryz.results42 rfl ?_
                exact ⟨(congrArg (fun z => Ending.returned (.bool z)) (by unfold yardOk; rw [pB_f (by rintro ⟨hz1, hz2, hz3, hz4, hz5, hz6, hz7, hz8, hz9⟩; have hq := (hz8 k3 (by omega) (by omega)).2.1; omega)])), st37.bare⟩
              · skip
                have h41p := of_decide_eq_true (bnot_f h41)
                refine wp_skip ?_
                refine sx_region ?_
                refine sx rfl (stp_move (v := I (k3 : Int)) ((hf40 3 rfl).trans hs28_3) ?_)
                refine sx rfl (stp_add rfl rfl (by (simp only [I64] at *; omega)) ?_)
                skip
                refine sx rfl (stp_assign (v := I ((k3 : Int) + 1)) rfl ?_)
                refine sx_nil ?_
                exact ⟨_, y.runs.length - (k3 + 1), (by omega), rfl, k3 + 1, (by omega), (fun j hj => by rcases Nat.lt_succ_iff_lt_or_eq.1 hj with h1 | rfl; exact hS3 j h1; exact fun _ => ⟨(bnot_f h32), by omega⟩), rfl, ((hf40 1 rfl).trans hs28_1), rfl, st37⟩
            · skip
              have hi7dcb8 : k3 < y.runs.length := (by omega)
              have hq_ := idx h6_1 (i := k3) hi7dcb8
              obtain ⟨b42, o42, cs42, f42, hp42, hr42, hc42, hm42⟩ := hq_
              have hk43 := hc42
              obtain ⟨v43_0, v43_1, g43_0, g43_1, rfl, hok43, h43_0, h43_1, rfl⟩ := hk43
              refine sx_any [Pl.is (.pointer (some ⟨b1, 0 + 3, none⟩)), Pl.is (v6_1) (Sl.yl h6_1), Pl.is (I (k3 : Int)), Pl.is (.pointer (some ⟨b42, o42, none⟩)), Pl.is (.agg #[I (y.runs[k3]'hi7dcb8).id, I (y.runs[k3]'hi7dcb8).plan.prio, I (y.runs[k3]'hi7dcb8).plan.most, I (y.runs[k3]'hi7dcb8).plan.wait, I (y.runs[k3]'hi7dcb8).plan.tasks, v43_0, I (y.runs[k3]'hi7dcb8).state, v43_1]), Pl.bool (runOk (y.runs[k3]'hi7dcb8)), Pl.bool true, Pl.bool true, Pl.off, Pl.off, Pl.off, Pl.off, Pl.off, Pl.off, Pl.off, Pl.off, Pl.off, Pl.off, Pl.bool true] mix (by rfl) st27 ⟨(fun f W hst hbl hd hf => stp_fieldAddr fa_Yard_3 ((hf 1 rfl).trans hs28_1) ⟨Below.refl _ _, rfl⟩), (fun f W hst hbl hd hf => stp_load_bx ld_RunS rfl (hd 0 34 rfl rfl) (hst.get 0 rfl) (i := 3) rfl rfl ⟨Below.refl _ _, rfl⟩), (fun f W hst hbl hd hf => stp_move (v := I (k3 : Int)) ((hf 3 rfl).trans hs28_3) ⟨Below.refl _ _, rfl⟩), (fun f W hst hbl hd hf => stp_indexAddr sl_RunS (hd 1 35 rfl rfl) hp42 (hd 2 36 rfl rfl) rfl ⟨Below.refl _ _, rfl⟩), (fun f W hst hbl hd hf => stp_load_rgs (cs := [I (y.runs[k3]'hi7dcb8).id, I (y.runs[k3]'hi7dcb8).plan.prio, I (y.runs[k3]'hi7dcb8).plan.most, I (y.runs[k3]'hi7dcb8).plan.wait, I (y.runs[k3]'hi7dcb8).plan.tasks, v43_0, I (y.runs[k3]'hi7dcb8).state, v43_1]) ld_Run rfl (hd 3 37 rfl rfl) hr42 hst.below (i := 0) rfl rfl rfl ⟨Below.refl _ _, rfl⟩), (fun f W hst hbl hd hf => stp_call1 Tryz.func89 rfl (hd 4 38 rfl rfl) ((RunOkS W (C_below hc42 hst.below)).mono (by rintro e W2 ⟨rfl, hk⟩; exact ⟨_, rfl, hk.below, rfl⟩))), (fun f W hst hbl hd hf => stp_not (hd 5 39 rfl rfl) ⟨Below.refl _ _, congrArg Value.bool h32⟩), (fun f W hst hbl hd hf => stp_move (v := .bool true) (hd 6 40 rfl rfl) ⟨Below.refl _ _, rfl⟩), (fun f W hst hbl hd hf => rfl), (fun f W hst hbl hd hf => rfl), (fun f W hst hbl hd hf => rfl), (fun f W hst hbl hd hf => rfl), (fun f W hst hbl hd hf => rfl), (fun f W hst hbl hd hf => rfl), (fun f W hst hbl hd hf => rfl), (fun f W hst hbl hd hf => rfl), (fun f W hst hbl hd hf => rfl), (fun f W hst hbl hd hf => rfl), (fun f W hst hbl hd hf => stp_pick_t (v := .bool true) (hd 7 41 rfl rfl) rfl ⟨Below.refl _ _, rfl⟩), trivial⟩ ?_
              intro f44 W45 st46 hb47 hv48 hf49
              refine sx_t (hv48 18 52 (by decide) rfl) rfl ?_
              refine wp_seq ?_
              refine sx_region ?_
              refine sx rfl (stp_assign (v := .bool false) rfl ?_)
              refine sx_nil ?_
              refine wp_ret ?_; repeat (first | refine then_ret ?_ | refine blk_ret ?_)
              refine ret1 Tryz.results42 rfl ?_
              exact ⟨(congrArg (fun z => Ending.returned (.bool z)) (by unfold yardOk; rw [pB_f (by rintro ⟨hz1, hz2, hz3, hz4, hz5, hz6, hz7, hz8, hz9⟩; have hq := (hz8 k3 (by omega) (by omega)).1; rw [(bnot_t h32)] at hq; cases hq)])), st46.bare⟩
          · skip
            have h29p := of_decide_eq_false h29
            refine wp_exit ?_
            refine wp_seq ?_
            refine sx_region ?_
            refine sx rfl (stp_load_bxs (cs := [I y.now, I y.seq, v6_0, v6_1]) ld_Yard rfl hs28_1 (st27.get 0 rfl) rfl rfl ?_)
            refine sx rfl (stp_call1 Tryz.func91 rfl rfl ((EntriesS W25 (C_below hc st27.below) (by omega)).mono ?_)); rintro _ W52 ⟨v50, fp50, rfl, hk53⟩; refine ⟨_, rfl, ?_⟩
            have st54 := St.call st27 hk53
            refine sx rfl (stp_assign (v := v50) rfl ?_)
            refine sx_nil ?_
            refine wp_seq ?_
            refine wp_seq ?_
            refine sx_region ?_
            refine sx rfl (stp_assign (v := I 0) rfl ?_)
            refine sx_nil ?_
            refine wp_block ?_
            refine sx_loop (fun (m : Nat) (f : Nat → Value) (W : World) => ∃ (k4 : Nat), k4 ≤ y.runs.length ∧ (∀ j, j < k4 → runOkAt y j) ∧ m = y.runs.length - k4 ∧ f 1 = .pointer (some ⟨b1, 0, none⟩) ∧ f 4 = v50 ∧ f 5 = I (k4 : Int) ∧ St w W ([Res.own (α := List Entry) v50 (y.shelf).flatten fp50, Res.bx b1 [I y.now, I y.seq, v6_0, v6_1] 34])) (y.runs.length - 0) ?_ ?_
            · exact ⟨0, (by omega), (fun j hj => absurd hj (Nat.not_lt_zero j)), rfl, hs28_1, rfl, rfl, st54⟩
            intro m56 f57 W58 hJ59
            obtain ⟨k4, hk4, hS4, rfl, hs61_1, hs61_4, hs61_5, st60⟩ := hJ59
            refine wp_seq ?_
            refine wp_seq ?_
            refine sx_region ?_
            refine sx rfl (stp_move (v := I (k4 : Int)) hs61_5 ?_)
            refine sx rfl (stp_fieldAddr fa_Yard_3 hs61_1 ?_)
            refine sx rfl (stp_load_bx ld_RunS rfl rfl (st60.get 1 rfl) (i := 3) rfl rfl ?_)
            refine sx rfl (stp_len sl_RunS rfl h6_1 ?_)
            refine sx rfl (stp_lss rfl rfl ?_)
            refine sx_nil ?_
            refine sx_if rfl (fun h62 => ?_) (fun h62 => ?_)
            · skip
              have h62p := of_decide_eq_true h62
              refine wp_skip ?_
              refine wp_seq ?_
              refine wp_block ?_
              refine wp_seq ?_
              have hwt := runOk_wait (hS3 k4 (by omega) (by omega)).1
              have hi68dc9 : k4 < y.runs.length := (by omega)
              have hq_ := idx h6_1 (i := k4) hi68dc9
              obtain ⟨b63, o63, cs63, f63, hp63, hr63, hc63, hm63⟩ := hq_
              refine sx_any [Pl.is (.agg #[I y.now, I y.seq, v6_0, v6_1]), Pl.is (.pointer (some ⟨b1, 0 + 3, none⟩)), Pl.is (v6_1) (Sl.yl h6_1), Pl.is (I (k4 : Int)), Pl.is (.pointer (some ⟨b63, o63, none⟩)), Pl.is (.agg cs63.toArray), Pl.is (v50) (Sl.yl (own_Sl (st60.get 0 rfl))), Pl.bool (runsOkB y.now (y.runs[k4]'hi68dc9) (y.shelf).flatten), Pl.bool (!(runsOkB y.now (y.runs[k4]'hi68dc9) (y.shelf).flatten))] mix (by rfl) st60 ⟨(fun f W hst hbl hd hf => stp_load_bxs (cs := [I y.now, I y.seq, v6_0, v6_1]) ld_Yard rfl ((hf 1 rfl).trans hs61_1) (hst.get 1 rfl) rfl rfl ⟨Below.refl _ _, rfl⟩), (fun f W hst hbl hd hf => stp_fieldAddr fa_Yard_3 ((hf 1 rfl).trans hs61_1) ⟨Below.refl _ _, rfl⟩), (fun f W hst hbl hd hf => stp_load_bx ld_RunS rfl (hd 1 63 rfl rfl) (hst.get 1 rfl) (i := 3) rfl rfl ⟨Below.refl _ _, rfl⟩), (fun f W hst hbl hd hf => stp_move (v := I (k4 : Int)) ((hf 5 rfl).trans hs61_5) ⟨Below.refl _ _, rfl⟩), (fun f W hst hbl hd hf => stp_indexAddr sl_RunS (hd 2 64 rfl rfl) hp63 (hd 3 65 rfl rfl) rfl ⟨Below.refl _ _, rfl⟩), (fun f W hst hbl hd hf => stp_load_rga ld_Run rfl (hd 4 66 rfl rfl) hr63 hst.below (Shape.len hc63) ⟨Below.refl _ _, rfl⟩), (fun f W hst hbl hd hf => stp_move (v := v50) ((hf 4 rfl).trans hs61_4) ⟨Below.refl _ _, rfl⟩), (fun f W hst hbl hd hf => stp_call3 Tryz.func92 rfl (hd 0 62 rfl rfl) (hd 5 67 rfl rfl) (hd 6 68 rfl rfl) ((RunsOkS W (C_below hc hst.below) (C_below hc63 hst.below) (own_Sl (hst.get 0 rfl)) (by omega) (by omega) (by omega)).mono (by rintro e W2 ⟨rfl, hk⟩; exact ⟨_, rfl, hk.below, rfl⟩))), (fun f W hst hbl hd hf => stp_not (hd 7 69 rfl rfl) ⟨Below.refl _ _, rfl⟩), trivial⟩ ?_
              intro f64 W65 st66 hb67 hv68 hf69
              refine sx_if (hv68 8 70 (by decide) rfl) (fun h70 => ?_) (fun h70 => ?_)
              · skip
                refine wp_seq ?_
                refine sx_region ?_
                refine sx rfl (stp_assign (v := .bool false) rfl ?_)
                refine sx_nil ?_
                refine wp_ret ?_; repeat (first | refine then_ret ?_ | refine blk_ret ?_)
                refine ret1 Tryz.results42 rfl ?_
                exact ⟨(congrArg (fun z => Ending.returned (.bool z)) (by unfold yardOk; rw [pB_f (by rintro ⟨hz1, hz2, hz3, hz4, hz5, hz6, hz7, hz8, hz9⟩; have hq := (hz8 k4 (by omega) (by omega)).2.2; rw [(bnot_t h70)] at hq; cases hq)])), st66.bare⟩
              · skip
                refine wp_skip ?_
                refine sx_region ?_
                refine sx rfl (stp_move (v := I (k4 : Int)) ((hf69 5 rfl).trans hs61_5) ?_)
                refine sx rfl (stp_add rfl rfl (by (simp only [I64] at *; omega)) ?_)
                refine sx rfl (stp_assign (v := I ((k4 : Int) + 1)) rfl ?_)
                refine sx_nil ?_
                exact ⟨_, y.runs.length - (k4 + 1), (by omega), rfl, k4 + 1, (by omega), (fun j hj => by rcases Nat.lt_succ_iff_lt_or_eq.1 hj with h1 | rfl; exact hS4 j h1; exact fun _ => ⟨(hS3 _ (by omega) (by omega)).1, (hS3 _ (by omega) (by omega)).2, (bnot_f h70)⟩), rfl, ((hf69 1 rfl).trans hs61_1), ((hf69 4 rfl).trans hs61_4), rfl, st66⟩
            · skip
              have h62p := of_decide_eq_false h62
              refine wp_exit ?_
              refine wp_seq ?_
              refine sx_region ?_
              have hS4 : ∀ j, j < y.runs.length → runOkAt y j := by rw [show k4 = y.runs.length by omega] at hS4; exact hS4
              refine sx rfl (stp_load_bxs (cs := [I y.now, I y.seq, v6_0, v6_1]) ld_Yard rfl hs61_1 (st60.get 1 rfl) rfl rfl ?_)
              refine sx rfl (stp_call1 Tryz.func93 rfl rfl ((SlotsOfS W58 (C_below hc st60.below) (by omega)).mono ?_)); rintro _ W71 ⟨rfl, hk72⟩; refine ⟨_, rfl, ?_⟩
              have st73 := St.call st60 hk72
              refine sx rfl (stp_leq rfl rfl ?_)
              refine sx rfl (stp_assign (v := .bool (decide ((slotsOf y) ≤ 40))) rfl ?_)
              refine sx_nil ?_
              rcases bd (decide ((slotsOf y) ≤ 40)) with h75 | h75
              · skip
                have h75p := of_decide_eq_false h75
                refine wp_ret ?_; repeat (first | refine then_ret ?_ | refine blk_ret ?_)
                refine ret1 Tryz.results42 ((rfl : _ = (.bool (decide ((slotsOf y) ≤ 40)) : Value)).trans (congrArg Value.bool h75)) ?_
                exact ⟨(congrArg (fun z => Ending.returned (.bool z)) (by unfold yardOk; rw [pB_f (by rintro ⟨hz1, hz2, hz3, hz4, hz5, hz6, hz7, hz8, hz9⟩; omega)])), st73.bare⟩
              · skip
                have h75p := of_decide_eq_true h75
                refine wp_ret ?_; repeat (first | refine then_ret ?_ | refine blk_ret ?_)
                refine ret1 Tryz.results42 ((rfl : _ = (.bool (decide ((slotsOf y) ≤ 40)) : Value)).trans (congrArg Value.bool h75)) ?_
                exact ⟨(congrArg (fun z => Ending.returned (.bool z)) (by unfold yardOk; rw [pB_t ⟨by omega, by omega, hSH.1, by omega, hSH.2.1, hSH.2.2.1, hSH.2.2.2, hS4, by omega⟩])), st73.bare⟩
      · skip
        have h17p := of_decide_eq_true h17
        iterate 3 refine sx_off (j := 16) (dd := 22) rfl rfl (by decide) (yl_off (e := decide (8 < (y.runs.length : Int))) rfl h17) ?_
        refine sx rfl (stp_pick_t (v := .bool true) ((rfl : _ = (.bool (decide (8 < (y.runs.length : Int))) : Value)).trans (congrArg Value.bool h17)) rfl ?_)
        refine sx_nil ?_
        refine sx_t rfl rfl ?_
        refine wp_seq ?_
        refine sx_region ?_
        refine sx rfl (stp_assign (v := .bool false) rfl ?_)
        refine sx_nil ?_
        refine wp_ret ?_; repeat (first | refine then_ret ?_ | refine blk_ret ?_)
        refine ret1 Tryz.results42 rfl ?_
        exact ⟨(congrArg (fun z => Ending.returned (.bool z)) (by unfold yardOk; rw [pB_f (by rintro ⟨hz1, hz2, hz3, hz4, hz5, hz6, hz7, hz8, hz9⟩; omega)])), st14.bare⟩
    · skip
      have h16p := inB_not (bnot_t h16)
      iterate 4 refine sx_off (j := 10) (dd := 16) rfl rfl (by decide) (yl_off (e := !(inB y.seq 1 1000000000)) rfl h16) ?_
      refine sx rfl (stp_pick_t (v := .bool true) ((rfl : _ = (.bool (!(inB y.seq 1 1000000000)) : Value)).trans (congrArg Value.bool h16)) rfl ?_)
      refine sx rfl (stp_move (v := .bool true) rfl ?_)
      iterate 3 refine sx_off (j := 16) (dd := 22) rfl rfl (by decide) (yl_off (e := true) rfl rfl) ?_
      refine sx rfl (stp_pick_t (v := .bool true) rfl rfl ?_)
      refine sx_nil ?_
      refine sx_t rfl rfl ?_
      refine wp_seq ?_
      refine sx_region ?_
      refine sx rfl (stp_assign (v := .bool false) rfl ?_)
      refine sx_nil ?_
      refine wp_ret ?_; repeat (first | refine then_ret ?_ | refine blk_ret ?_)
      refine ret1 Tryz.results42 rfl ?_
      exact ⟨(congrArg (fun z => Ending.returned (.bool z)) (by unfold yardOk; rw [pB_f (by rintro ⟨hz1, hz2, hz3, hz4, hz5, hz6, hz7, hz8, hz9⟩; omega)])), st14.bare⟩
  · skip
    have h11p := inB_not (bnot_t h11)
    iterate 4 refine sx_off (j := 4) (dd := 10) rfl rfl (by decide) (yl_off (e := !(inB y.now 0 999999980)) rfl h11) ?_
    refine sx rfl (stp_pick_t (v := .bool true) ((rfl : _ = (.bool (!(inB y.now 0 999999980)) : Value)).trans (congrArg Value.bool h11)) rfl ?_)
    refine sx rfl (stp_move (v := .bool true) rfl ?_)
    iterate 4 refine sx_off (j := 10) (dd := 16) rfl rfl (by decide) (yl_off (e := true) rfl rfl) ?_
    refine sx rfl (stp_pick_t (v := .bool true) rfl rfl ?_)
    refine sx rfl (stp_move (v := .bool true) rfl ?_)
    iterate 3 refine sx_off (j := 16) (dd := 22) rfl rfl (by decide) (yl_off (e := true) rfl rfl) ?_
    refine sx rfl (stp_pick_t (v := .bool true) rfl rfl ?_)
    refine sx_nil ?_
    refine sx_t rfl rfl ?_
    refine wp_seq ?_
    refine sx_region ?_
    refine sx rfl (stp_assign (v := .bool false) rfl ?_)
    refine sx_nil ?_
    refine wp_ret ?_; repeat (first | refine then_ret ?_ | refine blk_ret ?_)
    refine ret1 Tryz.results42 rfl ?_
    exact ⟨(congrArg (fun z => Ending.returned (.bool z)) (by unfold yardOk; rw [pB_f (by rintro ⟨hz1, hz2, hz3, hz4, hz5, hz6, hz7, hz8, hz9⟩; omega)])), st9.bare⟩
end Go.Proofs.YtchnllpegfbleaaGreat
