/-
  ReadyOf, OldestOf, of the program and of the reference. (Printed by a program of this project's.)
-/
import Derived.Test.YtbnjncjplkbijaaReady
namespace Go.Proofs.Ytbnjncjplkbijaa
set_option linter.unusedSimpArgs false
set_option linter.unusedVariables false
set_option maxRecDepth 100000
open Go.RowKit


theorem ready_le (y : Yard) (k : Nat) : ((y.shelf.flatten.take k).filter (fresh y)).length ≤ y.wt := by
  have h1 := List.length_filter_le (fresh y) (y.shelf.flatten.take k)
  have h2 := List.length_take_le k y.shelf.flatten
  have h3 := flat_le y y.shelf.length
  rw [List.take_length] at h3
  have := List.length_take (i := k) (l := y.shelf.flatten)
  omega
theorem flat_wt (y : Yard) : y.shelf.flatten.length ≤ y.wt := by
  have h3 := flat_le y y.shelf.length
  rwa [List.take_length] at h3
def zE : Entry := ⟨0, 0, 0, 0⟩
def oldTo (xs : List Entry) : Nat → Entry
  | 0 => xs.getD 0 zE
  | k + 1 => if (xs.getD k zE).seq < (oldTo xs k).seq then xs.getD k zE else oldTo xs k
theorem oldTo_t {xs : List Entry} {k : Nat} (h : k < xs.length) (hs : xs[k].seq < (oldTo xs k).seq) : oldTo xs (k + 1) = xs[k] := by
  have e : xs.getD k zE = xs[k] := by simp [List.getD, h]
  rw [oldTo, e, if_pos hs]
theorem oldTo_f {xs : List Entry} {k : Nat} (h : k < xs.length) (hs : ¬ xs[k].seq < (oldTo xs k).seq) : oldTo xs (k + 1) = oldTo xs k := by
  have e : xs.getD k zE = xs[k] := by simp [List.getD, h]
  rw [oldTo, e, if_neg hs]
theorem oldTo_0 {xs : List Entry} (h : 0 < xs.length) : oldTo xs 0 = xs[0] := by
  rw [oldTo]; simp [List.getD, h]
theorem oldTo_1 {xs : List Entry} (h : 0 < xs.length) : oldTo xs 1 = xs[0] := by
  rw [oldTo_f h (by rw [oldTo_0 h]; omega), oldTo_0 h]
def oldestOf (y : Yard) : Entry × Bool := if readyOf y = [] then (zE, false) else (oldTo (readyOf y) (readyOf y).length, true)
theorem ready_len (y : Yard) : (readyOf y).length ≤ y.wt := by
  have := ready_le y y.shelf.flatten.length
  rwa [List.take_length] at this
theorem zE_ok : zE.ok := by simp [Entry.ok, zE, I64]

theorem C_plain {α : Type} [Shape α] (hp : Plain α) {w w' : World} {cs : List Value} {x : α} {fp : List Nat} (h : Shape.C w cs x fp) (hb : w.heap.size ≤ w'.heap.size) : Shape.C w' cs x [] := by
  have := hp _ _ _ _ h
  subst this
  exact Shape.loc hb (by simp) h
set_option maxHeartbeats 2000000 in
theorem ReadyOfI (w : World) {y : Yard} {cs : List Value} {fp : List Nat} (hc : Shape.C w cs y fp) (hw : y.wt ≤ 1048576) :
    Calls Try.prog 82 #[.agg cs.toArray] w fun e w' => ∃ (v : Value) (fp' : List Nat), e = .returned v ∧ St w w' [Res.own v (readyOf y) fp'] := by
  have hfw := flat_wt y
  refine enter1 Try.func82 rfl Try.ntmps82 (by decide) ?_
  refine wp_seq ?_
  refine sx_region ?_
  refine sx rfl (stp_box_agg (cs := cs) rfl (St.start w) ?_); intro b1 W2 hb3 st4
  refine sx rfl (stp_assign rfl ?_)
  refine sx_nil ?_
  refine wp_seq ?_
  refine sx_region ?_
  refine sx rfl (stp_assign rfl ?_)
  refine sx_nil ?_
  refine wp_seq ?_
  refine wp_seq ?_
  refine sx_region ?_
  refine sx rfl (stp_load_bxa ld_Yard rfl rfl (st4.get 0 rfl) (Shape.len hc) ?_)
  refine sx rfl (stp_call1 Try.func106 rfl rfl ((EntriesI W2 (C_below hc st4.below) (by omega)).mono ?_)); rintro _ W8 ⟨v6, fp6, rfl, hk9⟩; refine ⟨_, rfl, ?_⟩
  have st10 := St.call st4 hk9
  refine sx rfl (stp_len sl_EntryS rfl (own_Sl (st10.get 0 rfl)) ?_)
  refine sx rfl (stp_move rfl ?_)
  refine sx_nil ?_
  refine wp_block ?_
  have st13 := st10.row_nil (α := Entry) 89
  refine sx_loop (fun (m : Nat) (f : Nat → Value) (W : World) => ∃ (k : Nat) (v12 : Value), k ≤ y.shelf.flatten.length ∧ m = y.shelf.flatten.length - k ∧ f 1 = .pointer (some ⟨b1, 0, none⟩) ∧ f 3 = v12 ∧ f 7 = v6 ∧ f 8 = I ((y.shelf).flatten.length : Int) ∧ f 9 = I (k : Int) ∧ St w W ([Res.row (α := Entry) 89 v12 ((y.shelf.flatten.take k).filter (fresh y)) [], Res.own (α := List Entry) v6 (y.shelf).flatten fp6, Res.bx b1 cs 60])) (y.shelf.flatten.length - 0) ?_ ?_
  · exact ⟨0, (.slice none 0 0), (by first | omega | simp), rfl, rfl, rfl, rfl, rfl, rfl, st13⟩
  intro m15 f16 W17 hJ18
  obtain ⟨k, v12, hcd20_0, rfl, hs20_1, hs20_3, hs20_7, hs20_8, hs20_9, st19⟩ := hJ18
  have hrl := ready_le y (k + 1)
  have hrl0 := ready_le y k
  refine wp_seq ?_
  refine sx_region ?_
  refine sx rfl (stp_lss hs20_9 hs20_8 ?_)
  refine sx_nil ?_
  refine wp_seq ?_
  refine sx_if rfl (fun h21 => ?_) (fun h21 => ?_)
  · skip
    have h21p := of_decide_eq_true h21
    refine wp_skip ?_
    refine wp_seq ?_
    refine wp_block ?_
    refine wp_seq ?_
    refine sx_region ?_
    have hi245ea : k < (y.shelf).flatten.length := (by omega)
    have hq_ := idx (own_Sl (st19.get 1 rfl)) (i := k) hi245ea
    obtain ⟨b22, o22, cs22, f22, hp22, hr22, hc22, hm22⟩ := hq_
    refine sx rfl (stp_indexAddr sl_EntryS hs20_7 hp22 hs20_9 rfl ?_)
    refine sx rfl (stp_load_rga ld_Entry rfl rfl hr22 (Below.refl _ _) (Shape.len hc22) ?_)
    refine sx rfl (stp_alloc zz_Entry st19 ?_); intro b23 W24 hb25 st26
    refine sx rfl (stp_store_all (cs := cs22) ld_Entry hc22 rfl rfl st26 rfl ?_); intro W28 st29
    refine sx_nil ?_
    refine wp_seq ?_
    refine sx_region ?_
    refine sx rfl (stp_load_bxa ld_Yard rfl hs20_1 (st29.get 3 rfl) (Shape.len hc) ?_)
    refine sx rfl (stp_load_bxa ld_Entry rfl rfl (st29.get 0 rfl) (Shape.len hc22) ?_)
    refine sx rfl (stp_call2 Try.func107 rfl rfl rfl ((FreshI W28 (C_below hc st29.below) hc22 (by omega)).mono ?_)); rintro _ W30 ⟨rfl, hk31⟩; refine ⟨_, rfl, ?_⟩
    have st32 := St.call st29 hk31
    refine sx_nil ?_
    refine sx_if rfl (fun h34 => ?_) (fun h34 => ?_)
    · skip
      refine sx_region ?_
      refine sx rfl (stp_move hs20_3 ?_)
      refine sx rfl (stp_load_bxa ld_Entry rfl rfl (st32.get 0 rfl) (Shape.len hc22) ?_)
      have hk35 := hc22
      obtain ⟨he35, rfl, hok35⟩ := hk35
      have he35 : _ = [I ((y.shelf).flatten[k]'hi245ea).prio, I ((y.shelf).flatten[k]'hi245ea).seq, I ((y.shelf).flatten[k]'hi245ea).run, I ((y.shelf).flatten[k]'hi245ea).task] := he35
      subst he35
      refine sx rfl (stp_buildSlice (cs := [I ((y.shelf).flatten[k]'hi245ea).prio, I ((y.shelf).flatten[k]'hi245ea).seq, I ((y.shelf).flatten[k]'hi245ea).run, I ((y.shelf).flatten[k]'hi245ea).task]) (e := 89) (pcons (v := .agg #[I ((y.shelf).flatten[k]'hi245ea).prio, I ((y.shelf).flatten[k]'hi245ea).seq, I ((y.shelf).flatten[k]'hi245ea).run, I ((y.shelf).flatten[k]'hi245ea).task]) rfl pnil) (run_buildSlice1 ap_EntryS _ _ rfl rfl (by decide)) st32 ?_); intro b36 W37 hb38 st39
      have st41 := st39.f2
      refine sx rfl (stp_append_bx (ys := [(⟨((y.shelf).flatten[k]'hi245ea).prio, ((y.shelf).flatten[k]'hi245ea).seq, ((y.shelf).flatten[k]'hi245ea).run, ((y.shelf).flatten[k]'hi245ea).task⟩ : Entry)]) ap_EntryS rfl rfl rfl st41 (Elems.one1 ⟨rfl, rfl, by assumption⟩) (by unfold maxLen; omega) (by omega) ?_); intro v42 W43 st44
      refine sx rfl (stp_assign rfl ?_)
      refine sx_nil ?_
      refine sx_region ?_
      refine sx rfl (stp_add hs20_9 rfl (by (simp only [I64] at *; omega)) ?_)
      refine sx rfl (stp_move rfl ?_)
      refine sx_nil ?_
      have st45 := st44.f3
      have st46 := st45.f3
      have st47 := st46.f2
      have st48 := st47.d3
      exact ⟨_, y.shelf.flatten.length - (k + 1), (by omega), rfl, k + 1, v42, (by omega), rfl, hs20_1, rfl, hs20_7, hs20_8, rfl, (by rw [filt_to (by omega) h34]; exact st48)⟩
    · skip
      refine wp_skip ?_
      refine sx_region ?_
      refine sx rfl (stp_add hs20_9 rfl (by (simp only [I64] at *; omega)) ?_)
      refine sx rfl (stp_move rfl ?_)
      refine sx_nil ?_
      have st49 := st32.f3
      have st50 := st49.f3
      have st51 := st50.f3
      have st52 := st51.d3
      exact ⟨_, y.shelf.flatten.length - (k + 1), (by omega), rfl, k + 1, v12, (by omega), rfl, hs20_1, hs20_3, hs20_7, hs20_8, rfl, (by rw [filt_to_f (by omega) h34]; exact st52)⟩
  · skip
    have h21p := of_decide_eq_false h21
    refine wp_exit ?_
    refine wp_seq ?_
    refine sx_region ?_
    refine sx rfl (stp_move hs20_3 ?_)
    refine sx rfl (stp_assign rfl ?_)
    refine sx_nil ?_
    refine wp_ret ?_; repeat (first | refine then_ret ?_ | refine blk_ret ?_)
    refine ret1 Try.results82 rfl ?_
    obtain rfl : k = y.shelf.flatten.length := by omega
    rw [List.take_length] at st19
    have hq_ := st19.shut
    obtain ⟨fpz, stz⟩ := hq_
    exact ⟨_, fpz, rfl, stz.only 0 rfl⟩
set_option maxHeartbeats 2000000 in
theorem ReadyOfS (w : World) {y : Yard} {cs : List Value} {fp : List Nat} (hc : Shape.C w cs y fp) (hw : y.wt ≤ 1048576) :
    Calls Try.prog 81 #[.agg cs.toArray] w fun e w' => ∃ (v : Value) (fp' : List Nat), e = .returned v ∧ St w w' [Res.own v (readyOf y) fp'] := by
  have hfw := flat_wt y
  refine enter1 Try.func81 rfl Try.ntmps81 (by decide) ?_
  refine wp_seq ?_
  refine sx_region ?_
  refine sx rfl (stp_box_agg (cs := cs) rfl (St.start w) ?_); intro b1 W2 hb3 st4
  refine sx rfl (stp_assign rfl ?_)
  refine sx_nil ?_
  refine wp_seq ?_
  refine sx_region ?_
  refine sx rfl (stp_buildSlice (cs := []) (e := 89) pnil (run_buildSlice0 ap_EntryS _) st4 ?_); intro b6 W7 hb8 st9
  have st9 := st9.row_empty (α := Entry)
  refine sx rfl (stp_assign rfl ?_)
  refine sx_nil ?_
  refine wp_seq ?_
  refine sx_region ?_
  refine sx rfl (stp_load_bxa ld_Yard rfl rfl (st9.get 1 rfl) (Shape.len hc) ?_)
  refine sx rfl (stp_call1 Try.func104 rfl rfl ((EntriesS W7 (C_below hc st9.below) (by omega)).mono ?_)); rintro _ W13 ⟨v11, fp11, rfl, hk14⟩; refine ⟨_, rfl, ?_⟩
  have st15 := St.call st9 hk14
  refine sx rfl (stp_assign rfl ?_)
  refine sx_nil ?_
  refine wp_seq ?_
  refine wp_seq ?_
  refine sx_region ?_
  refine sx rfl (stp_assign rfl ?_)
  refine sx_nil ?_
  refine wp_block ?_
  refine sx_loop (fun (m : Nat) (f : Nat → Value) (W : World) => ∃ (k : Nat) (v17 : Value), k ≤ y.shelf.flatten.length ∧ m = y.shelf.flatten.length - k ∧ f 1 = .pointer (some ⟨b1, 0, none⟩) ∧ f 3 = v17 ∧ f 4 = v11 ∧ f 5 = I (k : Int) ∧ St w W ([Res.own (α := List Entry) v11 (y.shelf).flatten fp11, Res.row (α := Entry) 89 v17 ((y.shelf.flatten.take k).filter (fresh y)) [], Res.bx b1 cs 60])) (y.shelf.flatten.length - 0) ?_ ?_
  · exact ⟨0, (.slice (some ⟨b6, 0, none⟩) 0 0), (by first | omega | simp), rfl, rfl, rfl, rfl, rfl, st15⟩
  intro m18 f19 W20 hJ21
  obtain ⟨k, v17, hcd23_0, rfl, hs23_1, hs23_3, hs23_4, hs23_5, st22⟩ := hJ21
  have hrl := ready_le y (k + 1)
  have hrl0 := ready_le y k
  refine wp_seq ?_
  refine wp_seq ?_
  refine sx_region ?_
  refine sx rfl (stp_move hs23_5 ?_)
  refine sx rfl (stp_move hs23_4 ?_)
  refine sx rfl (stp_len sl_EntryS rfl (own_Sl (st22.get 0 rfl)) ?_)
  refine sx rfl (stp_lss rfl rfl ?_)
  refine sx_nil ?_
  refine sx_if rfl (fun h24 => ?_) (fun h24 => ?_)
  · skip
    have h24p := of_decide_eq_true h24
    refine wp_skip ?_
    refine wp_seq ?_
    refine wp_block ?_
    refine wp_seq ?_
    have hi245ea : k < (y.shelf).flatten.length := (by omega)
    have hq_ := idx (own_Sl (st22.get 0 rfl)) (i := k) hi245ea
    obtain ⟨b25, o25, cs25, f25, hp25, hr25, hc25, hm25⟩ := hq_
    refine sx_any [Pl.is (.agg cs.toArray), Pl.is (v11) (Sl.yl (own_Sl (st22.get 0 rfl))), Pl.is (I (k : Int)), Pl.is (.pointer (some ⟨b25, o25, none⟩)), Pl.is (.agg cs25.toArray), Pl.bool (fresh y ((y.shelf).flatten[k]'hi245ea))] mix (by rfl) st22 ⟨(fun f W hst hbl hd hf => stp_load_bxa ld_Yard rfl ((hf 1 rfl).trans hs23_1) (hst.get 2 rfl) (Shape.len hc) ⟨Below.refl _ _, rfl⟩), (fun f W hst hbl hd hf => stp_move ((hf 4 rfl).trans hs23_4) ⟨Below.refl _ _, rfl⟩), (fun f W hst hbl hd hf => stp_move ((hf 5 rfl).trans hs23_5) ⟨Below.refl _ _, rfl⟩), (fun f W hst hbl hd hf => stp_indexAddr sl_EntryS (hd 1 16 rfl rfl) hp25 (hd 2 17 rfl rfl) rfl ⟨Below.refl _ _, rfl⟩), (fun f W hst hbl hd hf => stp_load_rga ld_Entry rfl (hd 3 18 rfl rfl) hr25 hbl (Shape.len hc25) ⟨Below.refl _ _, rfl⟩), (fun f W hst hbl hd hf => stp_call2 Try.func105 rfl (hd 0 15 rfl rfl) (hd 4 19 rfl rfl) ((FreshS W (C_below hc hst.below) hc25 (by omega)).mono (by rintro e W2 ⟨rfl, hk⟩; exact ⟨_, rfl, hk.below, rfl⟩))), trivial⟩ ?_
    intro f26 W27 st28 hb29 hv30 hf31
    refine sx_if (hv30 5 20 (by decide) rfl) (fun h32 => ?_) (fun h32 => ?_)
    · skip
      refine sx_region ?_
      refine sx rfl (stp_move ((hf31 3 rfl).trans hs23_3) ?_)
      refine sx rfl (stp_move ((hf31 4 rfl).trans hs23_4) ?_)
      refine sx rfl (stp_move ((hf31 5 rfl).trans hs23_5) ?_)
      have hi245ea : k < (y.shelf).flatten.length := (by omega)
      have hq_ := idx (own_Sl (st28.get 0 rfl)) (i := k) hi245ea
      obtain ⟨b33, o33, cs33, f33, hp33, hr33, hc33, hm33⟩ := hq_
      refine sx rfl (stp_indexAddr sl_EntryS rfl hp33 rfl rfl ?_)
      refine sx rfl (stp_load_rga ld_Entry rfl rfl hr33 (Below.refl _ _) (Shape.len hc33) ?_)
      have hk34 := hc33
      obtain ⟨he34, rfl, hok34⟩ := hk34
      have he34 : _ = [I ((y.shelf).flatten[k]'hi245ea).prio, I ((y.shelf).flatten[k]'hi245ea).seq, I ((y.shelf).flatten[k]'hi245ea).run, I ((y.shelf).flatten[k]'hi245ea).task] := he34
      subst he34
      refine sx rfl (stp_buildSlice (cs := [I ((y.shelf).flatten[k]'hi245ea).prio, I ((y.shelf).flatten[k]'hi245ea).seq, I ((y.shelf).flatten[k]'hi245ea).run, I ((y.shelf).flatten[k]'hi245ea).task]) (e := 89) (pcons (v := .agg #[I ((y.shelf).flatten[k]'hi245ea).prio, I ((y.shelf).flatten[k]'hi245ea).seq, I ((y.shelf).flatten[k]'hi245ea).run, I ((y.shelf).flatten[k]'hi245ea).task]) rfl pnil) (run_buildSlice1 ap_EntryS _ _ rfl rfl (by decide)) st28 ?_); intro b35 W36 hb37 st38
      have st40 := st38.f2
      refine sx rfl (stp_append_bx (ys := [(⟨((y.shelf).flatten[k]'hi245ea).prio, ((y.shelf).flatten[k]'hi245ea).seq, ((y.shelf).flatten[k]'hi245ea).run, ((y.shelf).flatten[k]'hi245ea).task⟩ : Entry)]) ap_EntryS rfl rfl rfl st40 (Elems.one1 ⟨rfl, rfl, by assumption⟩) (by unfold maxLen; omega) (by omega) ?_); intro v41 W42 st43
      refine sx rfl (stp_assign rfl ?_)
      refine sx_nil ?_
      refine sx_region ?_
      refine sx rfl (stp_move ((hf31 5 rfl).trans hs23_5) ?_)
      refine sx rfl (stp_add rfl rfl (by (simp only [I64] at *; omega)) ?_)
      refine sx rfl (stp_assign rfl ?_)
      refine sx_nil ?_
      have st44 := st43.f2
      have st45 := st44.f1
      have st46 := st45.f2
      exact ⟨_, y.shelf.flatten.length - (k + 1), (by omega), rfl, k + 1, v41, (by omega), rfl, ((hf31 1 rfl).trans hs23_1), rfl, ((hf31 4 rfl).trans hs23_4), rfl, (by rw [filt_to (by omega) h32]; exact st46)⟩
    · skip
      refine wp_skip ?_
      refine sx_region ?_
      refine sx rfl (stp_move ((hf31 5 rfl).trans hs23_5) ?_)
      refine sx rfl (stp_add rfl rfl (by (simp only [I64] at *; omega)) ?_)
      refine sx rfl (stp_assign rfl ?_)
      refine sx_nil ?_
      exact ⟨_, y.shelf.flatten.length - (k + 1), (by omega), rfl, k + 1, v17, (by omega), rfl, ((hf31 1 rfl).trans hs23_1), ((hf31 3 rfl).trans hs23_3), ((hf31 4 rfl).trans hs23_4), rfl, (by rw [filt_to_f (by omega) h32]; exact st28)⟩
  · skip
    have h24p := of_decide_eq_false h24
    refine wp_exit ?_
    refine wp_seq ?_
    refine sx_region ?_
    refine sx rfl (stp_move hs23_3 ?_)
    refine sx rfl (stp_assign rfl ?_)
    refine sx_nil ?_
    refine wp_ret ?_; repeat (first | refine then_ret ?_ | refine blk_ret ?_)
    refine ret1 Try.results81 rfl ?_
    have st47 := st22.f1
    obtain rfl : k = y.shelf.flatten.length := by omega
    rw [List.take_length] at st47
    have hq_ := st47.shut
    obtain ⟨fpz, stz⟩ := hq_
    exact ⟨_, fpz, rfl, stz.only 0 rfl⟩
set_option maxHeartbeats 2000000 in
theorem OldestOfI (w : World) {y : Yard} {cs : List Value} {fp : List Nat} (hc : Shape.C w cs y fp) (hw : y.wt ≤ 1048576) :
    Calls Try.prog 49 #[.agg cs.toArray] w fun e w' => e = .returned (.tuple #[.agg #[I (oldestOf y).1.prio, I (oldestOf y).1.seq, I (oldestOf y).1.run, I (oldestOf y).1.task], .bool (oldestOf y).2]) ∧ (oldestOf y).1.ok ∧ St w w' [] := by
  have hrl := ready_len y
  refine enter1 Try.func49 rfl Try.ntmps49 (by decide) ?_
  refine wp_seq ?_
  refine sx_region ?_
  refine sx rfl (stp_box_agg (cs := cs) rfl (St.start w) ?_); intro b1 W2 hb3 st4
  refine sx rfl (stp_alloc zz_Entry st4 ?_); intro b6 W7 hb8 st9
  refine sx rfl (stp_assign rfl ?_)
  refine sx_nil ?_
  refine wp_seq ?_
  refine sx_region ?_
  refine sx rfl (stp_load_bxa ld_Yard rfl rfl (st9.get 1 rfl) (Shape.len hc) ?_)
  refine sx rfl (stp_call1 Try.func82 rfl rfl ((ReadyOfI W7 (C_below hc st9.below) (by omega)).mono ?_)); rintro _ W13 ⟨v11, fp11, rfl, hk14⟩; refine ⟨_, rfl, ?_⟩
  have st15 := St.call st9 hk14
  refine sx rfl (stp_assign rfl ?_)
  refine sx_nil ?_
  refine wp_seq ?_
  refine wp_seq ?_
  refine sx_region ?_
  refine sx rfl (stp_move rfl ?_)
  refine sx rfl (stp_len sl_EntryS rfl (own_Sl (st15.get 0 rfl)) ?_)
  refine sx rfl (stp_eql rfl rfl ?_)
  refine sx_nil ?_
  refine sx_if rfl (fun h17 => ?_) (fun h17 => ?_)
  · skip
    have h17p := of_decide_eq_true h17
    refine wp_seq ?_
    refine sx_region ?_
    refine sx rfl (stp_build (vs := []) (cs := [I 0, I 0, I 0, I 0]) pnil (by kernel_rfl) ?_)
    have st18 := st15.f1
    refine sx rfl (stp_store_agg (cs := [I 0, I 0, I 0, I 0]) (C' := [I 0, I 0, I 0, I 0]) (by kernel_rfl) rfl rfl (one_cons rfl (one_cons rfl (one_cons rfl (one_cons rfl one_nil)))) st18 (Nat.le_of_ble_eq_true rfl) rfl ?_); intro W19 st20
    refine sx rfl (stp_assign rfl ?_)
    refine sx_nil ?_
    refine wp_ret ?_; repeat (first | refine then_ret ?_ | refine blk_ret ?_)
    refine retct ld_Entry rfl Try.results49 rfl (st20.get 0 rfl) rfl rfl ?_
    have hnil : readyOf y = [] := List.eq_nil_of_length_eq_zero (by omega)
    have ho : oldestOf y = (zE, false) := by unfold oldestOf; rw [if_pos hnil]
    rw [ho]
    exact ⟨rfl, zE_ok, st20.bare⟩
  · skip
    have h17p := of_decide_eq_false h17
    refine wp_skip ?_
    refine wp_seq ?_
    refine sx_region ?_
    refine sx rfl (stp_move rfl ?_)
    have hpos : 0 < (readyOf y).length := by omega
    have hi0ae04 : 0 < (readyOf y).length := (by omega)
    have hq_ := idx (own_Sl (st15.get 0 rfl)) (i := 0) hi0ae04
    obtain ⟨b21, o21, cs21, f21, hp21, hr21, hc21, hm21⟩ := hq_
    refine sx rfl (stp_indexAddr sl_EntryS rfl hp21 rfl rfl ?_)
    refine sx rfl (stp_load_rga ld_Entry rfl rfl hr21 (Below.refl _ _) (Shape.len hc21) ?_)
    refine sx rfl (stp_alloc zz_Entry st15 ?_); intro b22 W23 hb24 st25
    refine sx rfl (stp_store_all (cs := cs21) ld_Entry hc21 rfl rfl st25 rfl ?_); intro W27 st28
    refine sx_nil ?_
    refine wp_seq ?_
    refine wp_seq ?_
    refine sx_region ?_
    refine sx rfl (stp_move rfl ?_)
    refine sx rfl (stp_len sl_EntryS rfl (own_Sl (st28.get 1 rfl)) ?_)
    refine sx rfl (stp_move rfl ?_)
    refine sx_nil ?_
    refine wp_block ?_
    refine sx_loop (fun (m : Nat) (f : Nat → Value) (W : World) => ∃ (k : Nat), k ≤ (readyOf y).length ∧ (oldTo (readyOf y) k).ok ∧ m = (readyOf y).length - k ∧ f 2 = .pointer (some ⟨b6, 0, none⟩) ∧ f 5 = .pointer (some ⟨b22, 0, none⟩) ∧ f 17 = v11 ∧ f 18 = I ((readyOf y).length : Int) ∧ f 19 = I (k : Int) ∧ St w W ([Res.bx b22 [I (oldTo (readyOf y) k).prio, I (oldTo (readyOf y) k).seq, I (oldTo (readyOf y) k).run, I (oldTo (readyOf y) k).task] 89, Res.own (α := List Entry) v11 (readyOf y) fp11, Res.bx b6 [I 0, I 0, I 0, I 0] 89, Res.bx b1 cs 60])) ((readyOf y).length - 0) ?_ ?_
    have hk35 := hc21
    obtain ⟨he35, rfl, hok35⟩ := hk35
    have he35 : _ = [I ((readyOf y)[0]'hi0ae04).prio, I ((readyOf y)[0]'hi0ae04).seq, I ((readyOf y)[0]'hi0ae04).run, I ((readyOf y)[0]'hi0ae04).task] := he35
    subst he35
    · exact ⟨0, (by omega), (by rw [oldTo_0 (by omega)]; assumption), rfl, rfl, rfl, rfl, rfl, rfl, (by rw [oldTo_0 (by omega)]; exact st28)⟩
    intro m29 f30 W31 hJ32
    obtain ⟨k, hk, hbok, rfl, hs34_2, hs34_5, hs34_17, hs34_18, hs34_19, st33⟩ := hJ32
    refine wp_seq ?_
    refine sx_region ?_
    refine sx rfl (stp_lss hs34_19 hs34_18 ?_)
    refine sx_nil ?_
    refine wp_seq ?_
    refine sx_if rfl (fun h36 => ?_) (fun h36 => ?_)
    · skip
      have h36p := of_decide_eq_true h36
      refine wp_skip ?_
      refine wp_seq ?_
      refine wp_block ?_
      refine wp_seq ?_
      refine sx_region ?_
      have hi6aa3f : k < (readyOf y).length := (by omega)
      have hq_ := idx (own_Sl (st33.get 1 rfl)) (i := k) hi6aa3f
      obtain ⟨b37, o37, cs37, f37, hp37, hr37, hc37, hm37⟩ := hq_
      refine sx rfl (stp_indexAddr sl_EntryS hs34_17 hp37 hs34_19 rfl ?_)
      refine sx rfl (stp_load_rga ld_Entry rfl rfl hr37 (Below.refl _ _) (Shape.len hc37) ?_)
      refine sx rfl (stp_alloc zz_Entry st33 ?_); intro b38 W39 hb40 st41
      refine sx rfl (stp_store_all (cs := cs37) ld_Entry hc37 rfl rfl st41 rfl ?_); intro W43 st44
      refine sx_nil ?_
      refine wp_seq ?_
      refine sx_region ?_
      refine sx rfl (stp_fieldAddr fa_Entry_1 rfl ?_)
      have hk45 := hc37
      obtain ⟨he45, rfl, hok45⟩ := hk45
      have he45 : _ = [I ((readyOf y)[k]'hi6aa3f).prio, I ((readyOf y)[k]'hi6aa3f).seq, I ((readyOf y)[k]'hi6aa3f).run, I ((readyOf y)[k]'hi6aa3f).task] := he45
      subst he45
      refine sx rfl (stp_load_bx ld_int rfl rfl (st44.get 0 rfl) (i := 1) rfl rfl ?_)
      refine sx rfl (stp_fieldAddr fa_Entry_1 hs34_5 ?_)
      refine sx rfl (stp_load_bx ld_int rfl rfl (st44.get 1 rfl) (i := 1) rfl rfl ?_)
      refine sx rfl (stp_lss rfl rfl ?_)
      refine sx_nil ?_
      refine sx_if rfl (fun h46 => ?_) (fun h46 => ?_)
      · skip
        have h46p := of_decide_eq_true h46
        refine sx_region ?_
        refine sx rfl (stp_load_bxs (cs := [I ((readyOf y)[k]'hi6aa3f).prio, I ((readyOf y)[k]'hi6aa3f).seq, I ((readyOf y)[k]'hi6aa3f).run, I ((readyOf y)[k]'hi6aa3f).task]) ld_Entry rfl rfl (st44.get 0 rfl) rfl rfl ?_)
        have st47 := st44.f1
        refine sx rfl (stp_store_agg (cs := [I ((readyOf y)[k]'hi6aa3f).prio, I ((readyOf y)[k]'hi6aa3f).seq, I ((readyOf y)[k]'hi6aa3f).run, I ((readyOf y)[k]'hi6aa3f).task]) (C' := [I ((readyOf y)[k]'hi6aa3f).prio, I ((readyOf y)[k]'hi6aa3f).seq, I ((readyOf y)[k]'hi6aa3f).run, I ((readyOf y)[k]'hi6aa3f).task]) (by kernel_rfl) hs34_5 rfl (one_cons rfl (one_cons rfl (one_cons rfl (one_cons rfl one_nil)))) st47 (Nat.le_of_ble_eq_true rfl) rfl ?_); intro W48 st49
        refine sx_nil ?_
        refine sx_region ?_
        refine sx rfl (stp_add hs34_19 rfl (by (simp only [I64] at *; omega)) ?_)
        refine sx rfl (stp_move rfl ?_)
        refine sx_nil ?_
        have st50 := st49.f4
        have st51 := st50.f4
        have st52 := st51.f4
        have st53 := st52.f3
        have st54 := st53.d4
        exact ⟨_, (readyOf y).length - (k + 1), (by omega), rfl, k + 1, (by omega), (by rw [oldTo_t (by omega) h46p]; assumption), rfl, hs34_2, hs34_5, hs34_17, hs34_18, rfl, (by rw [oldTo_t (by omega) h46p]; exact st54)⟩
      · skip
        have h46p := of_decide_eq_false h46
        refine wp_skip ?_
        refine sx_region ?_
        refine sx rfl (stp_add hs34_19 rfl (by (simp only [I64] at *; omega)) ?_)
        refine sx rfl (stp_move rfl ?_)
        refine sx_nil ?_
        have st55 := st44.f4
        have st56 := st55.f4
        have st57 := st56.f4
        have st58 := st57.f4
        have st59 := st58.d4
        exact ⟨_, (readyOf y).length - (k + 1), (by omega), rfl, k + 1, (by omega), (by rw [oldTo_f (by omega) h46p]; assumption), rfl, hs34_2, hs34_5, hs34_17, hs34_18, rfl, (by rw [oldTo_f (by omega) h46p]; exact st59)⟩
    · skip
      have h36p := of_decide_eq_false h36
      refine wp_exit ?_
      refine wp_seq ?_
      refine sx_region ?_
      refine sx rfl (stp_load_bxs (cs := [I (oldTo (readyOf y) k).prio, I (oldTo (readyOf y) k).seq, I (oldTo (readyOf y) k).run, I (oldTo (readyOf y) k).task]) ld_Entry rfl hs34_5 (st33.get 0 rfl) rfl rfl ?_)
      have st60 := st33.f2
      refine sx rfl (stp_store_agg (cs := [I (oldTo (readyOf y) k).prio, I (oldTo (readyOf y) k).seq, I (oldTo (readyOf y) k).run, I (oldTo (readyOf y) k).task]) (C' := [I (oldTo (readyOf y) k).prio, I (oldTo (readyOf y) k).seq, I (oldTo (readyOf y) k).run, I (oldTo (readyOf y) k).task]) (by kernel_rfl) hs34_2 rfl (one_cons rfl (one_cons rfl (one_cons rfl (one_cons rfl one_nil)))) st60 (Nat.le_of_ble_eq_true rfl) rfl ?_); intro W61 st62
      refine sx rfl (stp_assign rfl ?_)
      refine sx_nil ?_
      refine wp_ret ?_; repeat (first | refine then_ret ?_ | refine blk_ret ?_)
      refine retct ld_Entry rfl Try.results49 hs34_2 (st62.get 0 rfl) rfl rfl ?_
      obtain rfl : k = (readyOf y).length := by omega
      have ho : oldestOf y = (oldTo (readyOf y) (readyOf y).length, true) := by unfold oldestOf; rw [if_neg (fun h => by rw [h] at hpos; simp at hpos)]
      rw [ho]
      exact ⟨rfl, hbok, st62.bare⟩
set_option maxHeartbeats 2000000 in
theorem OldestOfS (w : World) {y : Yard} {cs : List Value} {fp : List Nat} (hc : Shape.C w cs y fp) (hw : y.wt ≤ 1048576) :
    Calls Try.prog 48 #[.agg cs.toArray] w fun e w' => e = .returned (.tuple #[.agg #[I (oldestOf y).1.prio, I (oldestOf y).1.seq, I (oldestOf y).1.run, I (oldestOf y).1.task], .bool (oldestOf y).2]) ∧ (oldestOf y).1.ok ∧ St w w' [] := by
  have hrl := ready_len y
  refine enter1 Try.func48 rfl Try.ntmps48 (by decide) ?_
  refine wp_seq ?_
  refine sx_region ?_
  refine sx rfl (stp_box_agg (cs := cs) rfl (St.start w) ?_); intro b1 W2 hb3 st4
  refine sx rfl (stp_alloc zz_Entry st4 ?_); intro b6 W7 hb8 st9
  refine sx rfl (stp_assign rfl ?_)
  refine sx_nil ?_
  refine wp_seq ?_
  refine sx_region ?_
  refine sx rfl (stp_load_bxa ld_Yard rfl rfl (st9.get 1 rfl) (Shape.len hc) ?_)
  refine sx rfl (stp_call1 Try.func81 rfl rfl ((ReadyOfS W7 (C_below hc st9.below) (by omega)).mono ?_)); rintro _ W13 ⟨v11, fp11, rfl, hk14⟩; refine ⟨_, rfl, ?_⟩
  have st15 := St.call st9 hk14
  refine sx rfl (stp_assign rfl ?_)
  refine sx_nil ?_
  refine wp_seq ?_
  refine wp_seq ?_
  refine sx_region ?_
  refine sx rfl (stp_move rfl ?_)
  refine sx rfl (stp_len sl_EntryS rfl (own_Sl (st15.get 0 rfl)) ?_)
  refine sx rfl (stp_eql rfl rfl ?_)
  refine sx_nil ?_
  refine sx_if rfl (fun h17 => ?_) (fun h17 => ?_)
  · skip
    have h17p := of_decide_eq_true h17
    refine wp_seq ?_
    refine sx_region ?_
    refine sx rfl (stp_build (vs := []) (cs := [I 0, I 0, I 0, I 0]) pnil (by kernel_rfl) ?_)
    have st18 := st15.f1
    refine sx rfl (stp_store_agg (cs := [I 0, I 0, I 0, I 0]) (C' := [I 0, I 0, I 0, I 0]) (by kernel_rfl) rfl rfl (one_cons rfl (one_cons rfl (one_cons rfl (one_cons rfl one_nil)))) st18 (Nat.le_of_ble_eq_true rfl) rfl ?_); intro W19 st20
    refine sx rfl (stp_assign rfl ?_)
    refine sx_nil ?_
    refine wp_ret ?_; repeat (first | refine then_ret ?_ | refine blk_ret ?_)
    refine retct ld_Entry rfl Try.results48 rfl (st20.get 0 rfl) rfl rfl ?_
    have hnil : readyOf y = [] := List.eq_nil_of_length_eq_zero (by omega)
    have ho : oldestOf y = (zE, false) := by unfold oldestOf; rw [if_pos hnil]
    rw [ho]
    exact ⟨rfl, zE_ok, st20.bare⟩
  · skip
    have h17p := of_decide_eq_false h17
    refine wp_skip ?_
    refine wp_seq ?_
    refine sx_region ?_
    refine sx rfl (stp_move rfl ?_)
    have hpos : 0 < (readyOf y).length := by omega
    have hi0ae04 : 0 < (readyOf y).length := (by omega)
    have hq_ := idx (own_Sl (st15.get 0 rfl)) (i := 0) hi0ae04
    obtain ⟨b21, o21, cs21, f21, hp21, hr21, hc21, hm21⟩ := hq_
    refine sx rfl (stp_indexAddr sl_EntryS rfl hp21 rfl rfl ?_)
    refine sx rfl (stp_load_rga ld_Entry rfl rfl hr21 (Below.refl _ _) (Shape.len hc21) ?_)
    refine sx rfl (stp_alloc zz_Entry st15 ?_); intro b22 W23 hb24 st25
    refine sx rfl (stp_store_all (cs := cs21) ld_Entry hc21 rfl rfl st25 rfl ?_); intro W27 st28
    refine sx_nil ?_
    refine wp_seq ?_
    refine wp_seq ?_
    refine sx_region ?_
    refine sx rfl (stp_assign rfl ?_)
    refine sx_nil ?_
    refine wp_block ?_
    refine sx_loop (fun (m : Nat) (f : Nat → Value) (W : World) => ∃ (k : Nat), k ≤ (readyOf y).length ∧ (oldTo (readyOf y) k).ok ∧ 1 ≤ k ∧ m = (readyOf y).length - k ∧ f 2 = .pointer (some ⟨b6, 0, none⟩) ∧ f 4 = v11 ∧ f 5 = .pointer (some ⟨b22, 0, none⟩) ∧ f 6 = I (k : Int) ∧ St w W ([Res.bx b22 [I (oldTo (readyOf y) k).prio, I (oldTo (readyOf y) k).seq, I (oldTo (readyOf y) k).run, I (oldTo (readyOf y) k).task] 89, Res.own (α := List Entry) v11 (readyOf y) fp11, Res.bx b6 [I 0, I 0, I 0, I 0] 89, Res.bx b1 cs 60])) ((readyOf y).length - 1) ?_ ?_
    have hk35 := hc21
    obtain ⟨he35, rfl, hok35⟩ := hk35
    have he35 : _ = [I ((readyOf y)[0]'hi0ae04).prio, I ((readyOf y)[0]'hi0ae04).seq, I ((readyOf y)[0]'hi0ae04).run, I ((readyOf y)[0]'hi0ae04).task] := he35
    subst he35
    · exact ⟨1, (by omega), (by rw [oldTo_1 (by omega)]; assumption), (by omega), rfl, rfl, rfl, rfl, rfl, (by rw [oldTo_1 (by omega)]; exact st28)⟩
    intro m29 f30 W31 hJ32
    obtain ⟨k, hk, hbok, hk1, rfl, hs34_2, hs34_4, hs34_5, hs34_6, st33⟩ := hJ32
    refine wp_seq ?_
    refine wp_seq ?_
    refine sx_region ?_
    refine sx rfl (stp_move hs34_6 ?_)
    refine sx rfl (stp_move hs34_4 ?_)
    refine sx rfl (stp_len sl_EntryS rfl (own_Sl (st33.get 1 rfl)) ?_)
    refine sx rfl (stp_lss rfl rfl ?_)
    refine sx_nil ?_
    refine sx_if rfl (fun h36 => ?_) (fun h36 => ?_)
    · skip
      have h36p := of_decide_eq_true h36
      refine wp_skip ?_
      refine wp_seq ?_
      refine wp_block ?_
      refine wp_seq ?_
      have hi6aa3f : k < (readyOf y).length := (by omega)
      have hq_ := idx (own_Sl (st33.get 1 rfl)) (i := k) hi6aa3f
      obtain ⟨b37, o37, cs37, f37, hp37, hr37, hc37, hm37⟩ := hq_
      have hk38 := hc37
      obtain ⟨he38, rfl, hok38⟩ := hk38
      have he38 : _ = [I ((readyOf y)[k]'hi6aa3f).prio, I ((readyOf y)[k]'hi6aa3f).seq, I ((readyOf y)[k]'hi6aa3f).run, I ((readyOf y)[k]'hi6aa3f).task] := he38
      subst he38
      refine sx_any [Pl.is (v11) (Sl.yl (own_Sl (st33.get 1 rfl))), Pl.is (I (k : Int)), Pl.is (.pointer (some ⟨b37, o37, none⟩)), Pl.is (.pointer (some ⟨b37, o37 + 1, none⟩)), Pl.is (I ((readyOf y)[k]'hi6aa3f).seq), Pl.is (.pointer (some ⟨b22, 0 + 1, none⟩)), Pl.is (I (oldTo (readyOf y) k).seq), Pl.bool (decide (((readyOf y)[k]'hi6aa3f).seq < (oldTo (readyOf y) k).seq))] mix (by rfl) st33 ⟨(fun f W hst hbl hd hf => stp_move ((hf 4 rfl).trans hs34_4) ⟨Below.refl _ _, rfl⟩), (fun f W hst hbl hd hf => stp_move ((hf 6 rfl).trans hs34_6) ⟨Below.refl _ _, rfl⟩), (fun f W hst hbl hd hf => stp_indexAddr sl_EntryS (hd 0 22 rfl rfl) hp37 (hd 1 23 rfl rfl) rfl ⟨Below.refl _ _, rfl⟩), (fun f W hst hbl hd hf => stp_fieldAddr fa_Entry_1 (hd 2 24 rfl rfl) ⟨Below.refl _ _, rfl⟩), (fun f W hst hbl hd hf => stp_load_rg ld_int rfl (hd 3 25 rfl rfl) hr37 hbl (i := 1) rfl rfl ⟨Below.refl _ _, rfl⟩), (fun f W hst hbl hd hf => stp_fieldAddr fa_Entry_1 ((hf 5 rfl).trans hs34_5) ⟨Below.refl _ _, rfl⟩), (fun f W hst hbl hd hf => stp_load_bx ld_int rfl (hd 5 27 rfl rfl) (hst.get 0 rfl) (i := 1) rfl rfl ⟨Below.refl _ _, rfl⟩), (fun f W hst hbl hd hf => stp_lss (hd 4 26 rfl rfl) (hd 6 28 rfl rfl) ⟨Below.refl _ _, rfl⟩), trivial⟩ ?_
      intro f39 W40 st41 hb42 hv43 hf44
      refine sx_if (hv43 7 29 (by decide) rfl) (fun h45 => ?_) (fun h45 => ?_)
      · skip
        have h45p := of_decide_eq_true h45
        refine sx_region ?_
        refine sx rfl (stp_move ((hf44 4 rfl).trans hs34_4) ?_)
        refine sx rfl (stp_move ((hf44 6 rfl).trans hs34_6) ?_)
        have hi6aa3f : k < (readyOf y).length := (by omega)
        have hq_ := idx (own_Sl (st41.get 1 rfl)) (i := k) hi6aa3f
        obtain ⟨b46, o46, cs46, f46, hp46, hr46, hc46, hm46⟩ := hq_
        refine sx rfl (stp_indexAddr sl_EntryS rfl hp46 rfl rfl ?_)
        refine sx rfl (stp_load_rga ld_Entry rfl rfl hr46 (Below.refl _ _) (Shape.len hc46) ?_)
        refine sx rfl (stp_store_all (cs := cs46) ld_Entry hc46 ((hf44 5 rfl).trans hs34_5) rfl st41 rfl ?_); intro W47 st48
        refine sx_nil ?_
        refine sx_region ?_
        refine sx rfl (stp_move ((hf44 6 rfl).trans hs34_6) ?_)
        refine sx rfl (stp_add rfl rfl (by (simp only [I64] at *; omega)) ?_)
        refine sx rfl (stp_assign rfl ?_)
        refine sx_nil ?_
        have hk49 := hc46
        obtain ⟨he49, rfl, hok49⟩ := hk49
        have he49 : _ = [I ((readyOf y)[k]'hi6aa3f).prio, I ((readyOf y)[k]'hi6aa3f).seq, I ((readyOf y)[k]'hi6aa3f).run, I ((readyOf y)[k]'hi6aa3f).task] := he49
        subst he49
        exact ⟨_, (readyOf y).length - (k + 1), (by omega), rfl, k + 1, (by omega), (by rw [oldTo_t (by omega) h45p]; assumption), (by omega), rfl, ((hf44 2 rfl).trans hs34_2), ((hf44 4 rfl).trans hs34_4), ((hf44 5 rfl).trans hs34_5), rfl, (by rw [oldTo_t (by omega) h45p]; exact st48)⟩
      · skip
        have h45p := of_decide_eq_false h45
        refine wp_skip ?_
        refine sx_region ?_
        refine sx rfl (stp_move ((hf44 6 rfl).trans hs34_6) ?_)
        refine sx rfl (stp_add rfl rfl (by (simp only [I64] at *; omega)) ?_)
        refine sx rfl (stp_assign rfl ?_)
        refine sx_nil ?_
        exact ⟨_, (readyOf y).length - (k + 1), (by omega), rfl, k + 1, (by omega), (by rw [oldTo_f (by omega) h45p]; assumption), (by omega), rfl, ((hf44 2 rfl).trans hs34_2), ((hf44 4 rfl).trans hs34_4), ((hf44 5 rfl).trans hs34_5), rfl, (by rw [oldTo_f (by omega) h45p]; exact st41)⟩
    · skip
      have h36p := of_decide_eq_false h36
      refine wp_exit ?_
      refine wp_seq ?_
      refine sx_region ?_
      refine sx rfl (stp_load_bxs (cs := [I (oldTo (readyOf y) k).prio, I (oldTo (readyOf y) k).seq, I (oldTo (readyOf y) k).run, I (oldTo (readyOf y) k).task]) ld_Entry rfl hs34_5 (st33.get 0 rfl) rfl rfl ?_)
      have st50 := st33.f2
      refine sx rfl (stp_store_agg (cs := [I (oldTo (readyOf y) k).prio, I (oldTo (readyOf y) k).seq, I (oldTo (readyOf y) k).run, I (oldTo (readyOf y) k).task]) (C' := [I (oldTo (readyOf y) k).prio, I (oldTo (readyOf y) k).seq, I (oldTo (readyOf y) k).run, I (oldTo (readyOf y) k).task]) (by kernel_rfl) hs34_2 rfl (one_cons rfl (one_cons rfl (one_cons rfl (one_cons rfl one_nil)))) st50 (Nat.le_of_ble_eq_true rfl) rfl ?_); intro W51 st52
      refine sx rfl (stp_assign rfl ?_)
      refine sx_nil ?_
      refine wp_ret ?_; repeat (first | refine then_ret ?_ | refine blk_ret ?_)
      refine retct ld_Entry rfl Try.results48 hs34_2 (st52.get 0 rfl) rfl rfl ?_
      obtain rfl : k = (readyOf y).length := by omega
      have ho : oldestOf y = (oldTo (readyOf y) (readyOf y).length, true) := by unfold oldestOf; rw [if_neg (fun h => by rw [h] at hpos; simp at hpos)]
      rw [ho]
      exact ⟨rfl, hbok, st52.bare⟩
end Go.Proofs.Ytbnjncjplkbijaa
