/-
  What is wrong with a plan: of the program and of the reference. (Printed by a program of this project's.)
-/
import Derived.Test.YtchnllpegfbleaaGreatBefT
import Derived.Test.YtchnllpegfbleaaGreatIxOf
import Derived.Test.YtchnllpegfbleaaGreatLeft
import Derived.Test.YtchnllpegfbleaaGreatPoke
namespace Go.Proofs.YtchnllpegfbleaaGreat
set_option linter.unusedSimpArgs false
set_option linter.unusedVariables false
set_option maxRecDepth 100000
open Go.RowKit


theorem I64_rng {a : Int} (h : 0 ≤ a ∧ a < 4294967296) : I64 a := by unfold I64; omega
theorem getD_at {out : List Bool} {i : Nat} (h : i < out.length) : out.getD i false = out[i] := by simp [List.getD, h]
section
variable {es : List Edge} {n : Nat} {t : Int} {q : List Int} {out : List Bool} {h i : Nat}
theorem BInv.skip1 (b : BInv es n t q out h i) (hin : EdgesIn n es) (hi : i < es.length) (hh : h < q.length) (hne : ¬ es[i].from_ = q[h]) : BInv es n t q out h (i + 1) :=
  b.skip hin (List.getElem?_eq_getElem hi) (List.getElem?_eq_getElem hh) (fun hc => hne hc.1)
theorem BInv.skip2 (b : BInv es n t q out h i) (hin : EdgesIn n es) (hi : i < es.length) (hh : h < q.length) (hl : es[i].to_.toNat < out.length) (ho : (!out[es[i].to_.toNat]) = false) : BInv es n t q out h (i + 1) :=
  b.skip hin (List.getElem?_eq_getElem hi) (List.getElem?_eq_getElem hh) (fun hc => by have := hc.2; rw [getD_at hl] at this; rw [this] at ho; cases ho)
theorem BInv.add1 (b : BInv es n t q out h i) (hin : EdgesIn n es) (hi : i < es.length) (hh : h < q.length) (hf : es[i].from_ = q[h]) (hl : es[i].to_.toNat < out.length) (ho : (!out[es[i].to_.toNat]) = true) : BInv es n t (q ++ [es[i].to_]) (out.set es[i].to_.toNat true) h (i + 1) :=
  b.add hin (List.getElem?_eq_getElem hi) (List.getElem?_eq_getElem hh) hf (by rw [getD_at hl]; simpa using ho)
end
theorem fromOf_len (es : List Edge) (n : Nat) (t : Int) : (fromOf es n t).length = n := by simp [fromOf]
theorem fromOf_at {es : List Edge} {n : Nat} {t : Int} {k : Nat} (h : k < (fromOf es n t).length) : (fromOf es n t)[k] = pB (Rch es t (k : Int)) := by simp [fromOf]
theorem pM {p : Plan} (h : ¬ planMany p) : (1 ≤ p.tasks ∧ p.tasks ≤ 12) ∧ p.edges.length ≤ 30 := by unfold planMany at h; omega

set_option maxHeartbeats 2000000 in
theorem IndexE (w : World) {v : Value} {xs : List Edge} {fp : List Nat} (h : Sl w v xs fp) {ds : List Value} {y : Edge} {gp : List Nat} (hd : Shape.C w ds y gp) :
    Calls Tryz.prog 232 #[v, .agg ds.toArray] w fun e w' => e = .returned (I (ixI (ixOf (fun x => eqB y x) xs))) ∧ St w w' [] := by
  have hcap := h.len_le
  refine enter2 Tryz.func232 rfl Tryz.ntmps232 (by decide) ?_
  refine wp_seq ?_
  refine sx_region ?_
  refine sx rfl (stp_box_agg (cs := ds) rfl (St.start w) ?_); intro b1 W2 hb3 st4
  refine sx rfl (stp_assign (v := I 0) rfl ?_)
  refine sx_nil ?_
  refine wp_seq ?_
  refine wp_seq ?_
  refine sx_region ?_
  refine sx rfl (stp_move (v := v) rfl ?_)
  refine sx rfl (stp_len sl_EdgeS rfl h ?_)
  refine sx rfl (stp_move (v := I 0) rfl ?_)
  refine sx_nil ?_
  refine wp_block ?_
  refine sx_loop (fun (m : Nat) (f : Nat → Value) (W : World) => ∃ (k : Nat), k ≤ xs.length ∧ (xs.take k).any (fun x => eqB y x) = false ∧ m = xs.length - k ∧ f 0 = v ∧ f 3 = .pointer (some ⟨b1, 0, none⟩) ∧ f 7 = I (xs.length : Int) ∧ f 8 = I (k : Int) ∧ St w W ([Res.bx b1 ds 176])) (xs.length - 0) ?_ ?_
  · exact ⟨0, Nat.zero_le _, rfl, rfl, rfl, rfl, rfl, rfl, st4⟩
  intro m6 f7 W8 hJ9
  obtain ⟨k, hk, hany, rfl, hs11_0, hs11_3, hs11_7, hs11_8, st10⟩ := hJ9
  refine wp_seq ?_
  refine sx_region ?_
  refine sx rfl (stp_lss hs11_8 hs11_7 ?_)
  refine sx_nil ?_
  refine wp_seq ?_
  refine sx_if rfl (fun h12 => ?_) (fun h12 => ?_)
  · skip
    have h12p := of_decide_eq_true h12
    refine wp_skip ?_
    refine wp_seq ?_
    refine wp_block ?_
    refine wp_seq ?_
    refine sx_region ?_
    refine sx rfl (stp_move (v := I (k : Int)) hs11_8 ?_)
    refine sx rfl (stp_assign (v := I (k : Int)) rfl ?_)
    refine sx_nil ?_
    refine wp_seq ?_
    have hk15 := hd
    obtain ⟨he15, rfl, hok15⟩ := hk15
    have he15 : _ = [I y.from_, I y.to_] := he15
    subst he15
    have hi51fab : k < xs.length := (by omega)
    have hq_ := idx h (i := k) hi51fab
    obtain ⟨b16, o16, cs16, f16, hp16, hr16, hc16, hm16⟩ := hq_
    have hk17 := hc16
    obtain ⟨he17, rfl, hok17⟩ := hk17
    have he17 : _ = [I (xs[k]'hi51fab).from_, I (xs[k]'hi51fab).to_] := he17
    subst he17
    refine sx_any [Pl.is (.agg #[I y.from_, I y.to_]), Pl.is (v) (Sl.yl h), Pl.is (I (k : Int)), Pl.is (.pointer (some ⟨b16, o16, none⟩)), Pl.is (.agg #[I (xs[k]'hi51fab).from_, I (xs[k]'hi51fab).to_]), Pl.bool (eqB y (xs[k]'hi51fab))] mix (by rfl) st10 ⟨(fun f W hst hbl hd hf => stp_load_bxs (cs := [I y.from_, I y.to_]) ld_Edge rfl ((hf 3 rfl).trans hs11_3) (hst.get 0 rfl) rfl rfl ⟨Below.refl _ _, rfl⟩), (fun f W hst hbl hd hf => stp_move (v := v) ((hf 0 rfl).trans hs11_0) ⟨Below.refl _ _, rfl⟩), (fun f W hst hbl hd hf => stp_move (v := I (k : Int)) ((hf 5 rfl).trans (show _ = I (k : Int) from rfl)) ⟨Below.refl _ _, rfl⟩), (fun f W hst hbl hd hf => stp_indexAddr sl_EdgeS (hd 1 12 rfl rfl) hp16 (hd 2 13 rfl rfl) rfl ⟨Below.refl _ _, rfl⟩), (fun f W hst hbl hd hf => stp_load_rgs (cs := [I (xs[k]'hi51fab).from_, I (xs[k]'hi51fab).to_]) ld_Edge rfl (hd 3 14 rfl rfl) hr16 hst.below (i := 0) rfl rfl rfl ⟨Below.refl _ _, rfl⟩), (fun f W hst hbl hd hf => stp_aeql (se_Edge y (xs[k]'hi51fab)) eg_Edge (hd 0 11 rfl rfl) (hd 4 15 rfl rfl) ⟨Below.refl _ _, rfl⟩), trivial⟩ ?_
    intro f18 W19 st20 hb21 hv22 hf23
    refine sx_if (hv22 5 16 (by decide) rfl) (fun h24 => ?_) (fun h24 => ?_)
    · skip
      refine wp_seq ?_
      refine sx_region ?_
      refine sx rfl (stp_move (v := I (k : Int)) ((hf23 5 rfl).trans (show _ = I (k : Int) from rfl)) ?_)
      refine sx rfl (stp_assign (v := I (k : Int)) rfl ?_)
      refine sx_nil ?_
      refine wp_ret ?_; repeat (first | refine then_ret ?_ | refine blk_ret ?_)
      refine ret1 Tryz.results232 rfl ?_
      exact ⟨(congrArg (fun z => Ending.returned (I z)) (by rw [ixOf_some (by omega) hany h24]; try rfl)), st20.bare⟩
    · skip
      refine wp_skip ?_
      refine sx_region ?_
      refine sx rfl (stp_add ((hf23 8 rfl).trans hs11_8) rfl (by (simp only [I64] at *; omega)) ?_)
      refine sx rfl (stp_move (v := I ((k : Int) + 1)) rfl ?_)
      refine sx_nil ?_
      exact ⟨_, xs.length - (k + 1), (by omega), rfl, k + 1, (by omega), (any_step_f (by omega) hany h24), rfl, ((hf23 0 rfl).trans hs11_0), ((hf23 3 rfl).trans hs11_3), ((hf23 7 rfl).trans hs11_7), rfl, st20⟩
  · skip
    have h12p := of_decide_eq_false h12
    refine wp_exit ?_
    refine wp_seq ?_
    refine sx_region ?_
    refine sx rfl (stp_assign (v := I (-1)) rfl ?_)
    refine sx_nil ?_
    refine wp_ret ?_; repeat (first | refine then_ret ?_ | refine blk_ret ?_)
    refine ret1 Tryz.results232 rfl ?_
    obtain rfl : k = xs.length := by omega
    rw [List.take_length] at hany
    exact ⟨(congrArg (fun z => Ending.returned (I z)) (by rw [ixOf_none hany]; try rfl)), st10.bare⟩
set_option maxHeartbeats 2000000 in
theorem ContE (w : World) {v : Value} {xs : List Edge} {fp : List Nat} (h : Sl w v xs fp) {ds : List Value} {y : Edge} {gp : List Nat} (hd : Shape.C w ds y gp) :
    Calls Tryz.prog 215 #[v, .agg ds.toArray] w fun e w' => e = .returned (.bool (decide (y ∈ xs))) ∧ St w w' [] := by
  refine enter2 Tryz.func215 rfl Tryz.ntmps215 (by decide) ?_
  refine wp_seq ?_
  refine sx_region ?_
  refine sx rfl (stp_box_agg (cs := ds) rfl (St.start w) ?_); intro b1 W2 hb3 st4
  refine sx rfl (stp_assign (v := .bool false) rfl ?_)
  refine sx_nil ?_
  refine wp_seq ?_
  refine sx_region ?_
  refine sx rfl (stp_move (v := v) rfl ?_)
  refine sx rfl (stp_load_bxa ld_Edge rfl rfl (st4.get 0 rfl) (Shape.len hd) ?_)
  refine sx rfl (stp_call2 Tryz.func232 rfl rfl rfl ((IndexE W2 (h.below st4.below) hd).mono ?_)); rintro _ W6 ⟨rfl, hk7⟩; refine ⟨_, rfl, ?_⟩
  have st8 := St.call st4 hk7
  refine sx rfl (stp_geq rfl rfl ?_)
  refine sx rfl (stp_assign (v := .bool (decide (0 ≤ (ixI (ixOf (fun x => eqB y x) xs))))) rfl ?_)
  refine sx_nil ?_
  refine wp_ret ?_; repeat (first | refine then_ret ?_ | refine blk_ret ?_)
  refine ret1 Tryz.results215 rfl ?_
  exact ⟨(congrArg (fun z => Ending.returned (.bool z)) (ix_mem y xs)), st8.bare⟩
set_option maxHeartbeats 2000000 in
theorem WaitsI (w : World) {p : Plan} {cs : List Value} {fp : List Nat} (hc : Shape.C w cs p fp) (hn : 1 ≤ p.tasks ∧ p.tasks ≤ 12) (hl : p.edges.length ≤ 30) (hi : EdgesIn p.tasks.toNat p.edges) :
    Calls Tryz.prog 216 #[.agg cs.toArray] w fun e w' => ∃ (v : Value) (fp' : List Nat), e = .returned v ∧ St w w' [Res.own v (castL (relaxN p.edges (List.replicate p.tasks.toNat 0) p.tasks.toNat)) fp'] := by
  refine enter1 Tryz.func216 rfl Tryz.ntmps216 (by decide) ?_
  refine wp_seq ?_
  refine sx_region ?_
  refine sx rfl (stp_box_agg (cs := cs) rfl (St.start w) ?_); intro b1 W2 hb3 st4
  refine sx rfl (stp_assign (v := .slice none 0 0) rfl ?_)
  refine sx_nil ?_
  refine wp_seq ?_
  refine sx_region ?_
  refine sx rfl (stp_fieldAddr fa_Plan_3 rfl ?_)
  have hk6 := hc
  obtain ⟨v6_0, g6_0, rfl, hok6, h6_0, rfl⟩ := hk6
  refine sx rfl (stp_load_bx ld_int rfl rfl (st4.get 0 rfl) (i := 3) rfl rfl ?_)
  have hNI : I p.tasks = I ((p.tasks.toNat : Nat) : Int) := congrArg I (Int.toNat_of_nonneg (by omega)).symm
  refine sx rfl (stp_makeZ (α := Int) (N := p.tasks.toNat) (v := I 0) (z := 0) ap_IntS (by kernel_rfl) ((show _ = I p.tasks from rfl).trans hNI) ((show _ = I p.tasks from rfl).trans hNI) (by omega) (by omega) st4 (fun W => ⟨rfl, rfl, by unfold I64; omega⟩) ?_); intro b7 fp11 W8 hb9 st10
  refine sx rfl (stp_assign (v := (.slice (some ⟨b7, 0, none⟩) p.tasks.toNat p.tasks.toNat)) rfl ?_)
  refine sx_nil ?_
  refine wp_seq ?_
  refine wp_seq ?_
  refine sx_region ?_
  refine sx rfl (stp_fieldAddr fa_Plan_3 rfl ?_)
  refine sx rfl (stp_load_bx ld_int rfl rfl (st10.get 1 rfl) (i := 3) rfl rfl ?_)
  refine sx rfl (stp_move (v := I 0) rfl ?_)
  refine sx_nil ?_
  refine wp_block ?_
  refine sx_loop (fun (m : Nat) (f : Nat → Value) (W : World) => ∃ (k : Nat) (fo13 : List Nat), k ≤ p.tasks.toNat ∧ m = p.tasks.toNat - k ∧ f 1 = .pointer (some ⟨b1, 0, none⟩) ∧ f 3 = (.slice (some ⟨b7, 0, none⟩) p.tasks.toNat p.tasks.toNat) ∧ f 10 = I p.tasks ∧ f 11 = I (k : Int) ∧ St w W ([Res.own (α := List Int) (.slice (some ⟨b7, 0, none⟩) p.tasks.toNat p.tasks.toNat) (castL (relaxN p.edges (List.replicate p.tasks.toNat 0) k)) fo13, Res.bx b1 [I p.prio, I p.most, I p.wait, I p.tasks, v6_0] 106])) (p.tasks.toNat - 0) ?_ ?_
  · exact ⟨0, fp11, (by first | omega | simp), rfl, rfl, rfl, rfl, rfl, (by have hz := st10; rw [castL_rep] at hz; exact hz)⟩
  intro m14 f15 W16 hJ17
  obtain ⟨k, fo13, hcd19_0, rfl, hs19_1, hs19_3, hs19_10, hs19_11, st18⟩ := hJ17
  refine wp_seq ?_
  refine sx_region ?_
  refine sx rfl (stp_lss hs19_11 hs19_10 ?_)
  refine sx_nil ?_
  refine wp_seq ?_
  refine sx_if rfl (fun h20 => ?_) (fun h20 => ?_)
  · skip
    have h20p := of_decide_eq_true h20
    refine wp_skip ?_
    refine wp_seq ?_
    refine wp_block ?_
    refine wp_seq ?_
    refine sx_region ?_
    refine sx rfl (stp_fieldAddr fa_Plan_4 hs19_1 ?_)
    refine sx rfl (stp_load_bx ld_EdgeS rfl rfl (st18.get 1 rfl) (i := 4) rfl rfl ?_)
    refine sx rfl (stp_len sl_EdgeS rfl h6_0 ?_)
    refine sx rfl (stp_move (v := I 0) rfl ?_)
    refine sx_nil ?_
    refine wp_block ?_
    refine sx_loop (fun (m : Nat) (f : Nat → Value) (W : World) => ∃ (i : Nat) (fo21 : List Nat), i ≤ p.edges.length ∧ m = p.edges.length - i ∧ f 1 = .pointer (some ⟨b1, 0, none⟩) ∧ f 3 = (.slice (some ⟨b7, 0, none⟩) p.tasks.toNat p.tasks.toNat) ∧ f 10 = I p.tasks ∧ f 11 = I (k : Int) ∧ f 14 = v6_0 ∧ f 15 = I (p.edges.length : Int) ∧ f 16 = I (i : Int) ∧ St w W ([Res.own (α := List Int) (.slice (some ⟨b7, 0, none⟩) p.tasks.toNat p.tasks.toNat) (castL (relax (p.edges.take i) (relaxN p.edges (List.replicate p.tasks.toNat 0) k))) fo21, Res.bx b1 [I p.prio, I p.most, I p.wait, I p.tasks, v6_0] 106])) (p.edges.length - 0) ?_ ?_
    · exact ⟨0, fo13, (by first | omega | simp), rfl, hs19_1, hs19_3, hs19_10, hs19_11, rfl, rfl, rfl, st18⟩
    intro m22 f23 W24 hJ25
    obtain ⟨i, fo21, hcd27_0, rfl, hs27_1, hs27_3, hs27_10, hs27_11, hs27_14, hs27_15, hs27_16, st26⟩ := hJ25
    refine wp_seq ?_
    refine sx_region ?_
    refine sx rfl (stp_lss hs27_16 hs27_15 ?_)
    refine sx_nil ?_
    refine wp_seq ?_
    refine sx_if rfl (fun h28 => ?_) (fun h28 => ?_)
    · skip
      have h28p := of_decide_eq_true h28
      refine wp_skip ?_
      refine wp_seq ?_
      refine wp_block ?_
      refine wp_seq ?_
      refine sx_region ?_
      have hi99fa3 : i < p.edges.length := (by omega)
      have hq_ := idx h6_0 (i := i) hi99fa3
      obtain ⟨b29, o29, cs29, f29, hp29, hr29, hc29, hm29⟩ := hq_
      refine sx rfl (stp_indexAddr sl_EdgeS hs27_14 hp29 hs27_16 rfl ?_)
      refine sx rfl (stp_load_rga ld_Edge rfl rfl hr29 st26.below (Shape.len hc29) ?_)
      refine sx rfl (stp_alloc zz_Edge st26 ?_); intro b30 W31 hb32 st33
      refine sx rfl (stp_store_all (cs := cs29) ld_Edge hc29 rfl rfl st33 rfl ?_); intro W35 st36
      refine sx_nil ?_
      have hk37 := hc29
      obtain ⟨he37, rfl, hok37⟩ := hk37
      have he37 : _ = [I (p.edges[i]'hi99fa3).from_, I (p.edges[i]'hi99fa3).to_] := he37
      subst he37
      have hea := hi.at (k := i) (by omega)
      have hxl : (castL (relax (p.edges.take i) (relaxN p.edges (List.replicate p.tasks.toNat 0) k))).length = p.tasks.toNat := by rw [castL_len, relax_len, relaxN_len, List.length_replicate]
      have hbd := relax_bd (n := p.tasks.toNat) (by omega) (es := p.edges.take i) (fun e he => hi e (List.mem_of_mem_take he)) (relaxN_bd (by omega) hi k)
      have hi3a21e : ((p.edges[i]'hi99fa3).from_).toNat < (castL (relax (p.edges.take i) (relaxN p.edges (List.replicate p.tasks.toNat 0) k))).length := (by omega)
      have hq_ := idx (own_Sl (st36.get 1 rfl)) (i := ((p.edges[i]'hi99fa3).from_).toNat) hi3a21e
      obtain ⟨b38, o38, cs38, f38, hp38, hr38, hc38, hm38⟩ := hq_
      have hk38 := hc38
      obtain ⟨rfl, rfl, hok38⟩ := hk38
      have hid0fd1 : ((p.edges[i]'hi99fa3).to_).toNat < (castL (relax (p.edges.take i) (relaxN p.edges (List.replicate p.tasks.toNat 0) k))).length := (by omega)
      have hq_ := idx (own_Sl (st36.get 1 rfl)) (i := ((p.edges[i]'hi99fa3).to_).toNat) hid0fd1
      obtain ⟨b39, o39, cs39, f39, hp39, hr39, hc39, hm39⟩ := hq_
      have hk39 := hc39
      obtain ⟨rfl, rfl, hok39⟩ := hk39
      refine sx_anyK 16 [Pl.is ((.slice (some ⟨b7, 0, none⟩) p.tasks.toNat p.tasks.toNat)) (Sl.yl (own_Sl (st36.get 1 rfl))), Pl.is (.pointer (some ⟨b30, 0 + 0, none⟩)), Pl.is (I (p.edges[i]'hi99fa3).from_), Pl.is (.pointer (some ⟨b38, o38, none⟩)), Pl.is (I ((castL (relax (p.edges.take i) (relaxN p.edges (List.replicate p.tasks.toNat 0) k)))[((p.edges[i]'hi99fa3).from_).toNat]'hi3a21e)), Pl.is (.pointer (some ⟨b30, 0 + 1, none⟩)), Pl.is (I (p.edges[i]'hi99fa3).to_), Pl.is (I (shlI (p.edges[i]'hi99fa3).to_)), Pl.is ((.slice (some ⟨b7, 0, none⟩) p.tasks.toNat p.tasks.toNat)) (Sl.yl (own_Sl (st36.get 1 rfl))), Pl.is (.pointer (some ⟨b30, 0 + 1, none⟩)), Pl.is (I (p.edges[i]'hi99fa3).to_), Pl.is (.pointer (some ⟨b39, o39, none⟩)), Pl.is (I ((castL (relax (p.edges.take i) (relaxN p.edges (List.replicate p.tasks.toNat 0) k)))[((p.edges[i]'hi99fa3).to_).toNat]'hid0fd1)), Pl.is (I (orI (shlI (p.edges[i]'hi99fa3).to_) ((castL (relax (p.edges.take i) (relaxN p.edges (List.replicate p.tasks.toNat 0) k)))[((p.edges[i]'hi99fa3).to_).toNat]'hid0fd1))), Pl.is (I (orI ((castL (relax (p.edges.take i) (relaxN p.edges (List.replicate p.tasks.toNat 0) k)))[((p.edges[i]'hi99fa3).from_).toNat]'hi3a21e) (orI (shlI (p.edges[i]'hi99fa3).to_) ((castL (relax (p.edges.take i) (relaxN p.edges (List.replicate p.tasks.toNat 0) k)))[((p.edges[i]'hi99fa3).to_).toNat]'hid0fd1)))), Pl.is (.pointer (some ⟨b38, o38, none⟩))] mix (by rfl) (by rfl) st36 ⟨(fun f W hst hbl hd hf => stp_move (v := (.slice (some ⟨b7, 0, none⟩) p.tasks.toNat p.tasks.toNat)) ((hf 3 rfl).trans hs27_3) ⟨Below.refl _ _, rfl⟩), (fun f W hst hbl hd hf => stp_fieldAddr fa_Edge_0 ((hf 5 rfl).trans (show _ = (.pointer (some ⟨b30, 0, none⟩) : Value) from rfl)) ⟨Below.refl _ _, rfl⟩), (fun f W hst hbl hd hf => stp_load_bx ld_int rfl (hd 1 21 rfl rfl) (hst.get 0 rfl) (i := 0) rfl rfl ⟨Below.refl _ _, rfl⟩), (fun f W hst hbl hd hf => stp_indexAddr sl_IntS (hd 0 20 rfl rfl) hp38 (hd 2 22 rfl rfl) (by omega) ⟨Below.refl _ _, rfl⟩), (fun f W hst hbl hd hf => stp_load_rg ld_int rfl (hd 3 23 rfl rfl) hr38 hbl (i := 0) rfl rfl ⟨Below.refl _ _, rfl⟩), (fun f W hst hbl hd hf => stp_fieldAddr fa_Edge_1 ((hf 5 rfl).trans (show _ = (.pointer (some ⟨b30, 0, none⟩) : Value) from rfl)) ⟨Below.refl _ _, rfl⟩), (fun f W hst hbl hd hf => stp_load_bx ld_int rfl (hd 5 25 rfl rfl) (hst.get 0 rfl) (i := 1) rfl rfl ⟨Below.refl _ _, rfl⟩), (fun f W hst hbl hd hf => stp_shlI rfl (hd 6 26 rfl rfl) (by omega) ⟨Below.refl _ _, rfl⟩), (fun f W hst hbl hd hf => stp_move (v := (.slice (some ⟨b7, 0, none⟩) p.tasks.toNat p.tasks.toNat)) ((hf 3 rfl).trans hs27_3) ⟨Below.refl _ _, rfl⟩), (fun f W hst hbl hd hf => stp_fieldAddr fa_Edge_1 ((hf 5 rfl).trans (show _ = (.pointer (some ⟨b30, 0, none⟩) : Value) from rfl)) ⟨Below.refl _ _, rfl⟩), (fun f W hst hbl hd hf => stp_load_bx ld_int rfl (hd 9 29 rfl rfl) (hst.get 0 rfl) (i := 1) rfl rfl ⟨Below.refl _ _, rfl⟩), (fun f W hst hbl hd hf => stp_indexAddr sl_IntS (hd 8 28 rfl rfl) hp39 (hd 10 30 rfl rfl) (by omega) ⟨Below.refl _ _, rfl⟩), (fun f W hst hbl hd hf => stp_load_rg ld_int rfl (hd 11 31 rfl rfl) hr39 hbl (i := 0) rfl rfl ⟨Below.refl _ _, rfl⟩), (fun f W hst hbl hd hf => stp_orI (hd 7 27 rfl rfl) (hd 12 32 rfl rfl) (shlI_rng (by omega)) (castL_rng hbd _ _) ⟨Below.refl _ _, rfl⟩), (fun f W hst hbl hd hf => stp_orI (hd 4 24 rfl rfl) (hd 13 33 rfl rfl) (castL_rng hbd _ _) (orI_rng (shlI_rng (by omega)) (castL_rng hbd _ _)) ⟨Below.refl _ _, rfl⟩), (fun f W hst hbl hd hf => stp_indexAddr sl_IntS (hd 0 20 rfl rfl) hp38 (hd 2 22 rfl rfl) (by omega) ⟨Below.refl _ _, rfl⟩), trivial⟩ ?_
      intro f40 W41 st42 hb43 hv44 hf45
      have st46 := st42.f1
      refine sx rfl (stp_poke1 (α := Int) (z := orI ((castL (relax (p.edges.take i) (relaxN p.edges (List.replicate p.tasks.toNat 0) k)))[((p.edges[i]'hi99fa3).from_).toNat]'hi3a21e) (orI (shlI (p.edges[i]'hi99fa3).to_) ((castL (relax (p.edges.take i) (relaxN p.edges (List.replicate p.tasks.toNat 0) k)))[((p.edges[i]'hi99fa3).to_).toNat]'hid0fd1))) rfl (by kernel_rfl) (hv44 15 35 (by decide) rfl) hp38 hi3a21e (hv44 14 34 (by decide) rfl) rfl rfl st46 (fun W => ⟨rfl, rfl, (I64_rng (orI_rng (castL_rng hbd _ _) (orI_rng (shlI_rng (by omega)) (castL_rng hbd _ _))))⟩) ?_); intro fp47 W48 st49
      refine sx_nil ?_
      refine sx_region ?_
      refine sx rfl (stp_add ((hf45 16 rfl).trans hs27_16) rfl (by (simp only [I64] at *; omega)) ?_)
      refine sx rfl (stp_move (v := I ((i : Int) + 1)) rfl ?_)
      refine sx_nil ?_
      have st50 := st49.f2
      have st51 := st50.f1
      have st52 := st51.d2
      exact ⟨_, p.edges.length - (i + 1), (by omega), rfl, i + 1, fp47, (by omega), rfl, ((hf45 1 rfl).trans hs27_1), ((hf45 3 rfl).trans hs27_3), ((hf45 10 rfl).trans hs27_10), ((hf45 11 rfl).trans hs27_11), ((hf45 14 rfl).trans hs27_14), ((hf45 15 rfl).trans hs27_15), rfl, (by rw [relax_snoc _ _ _ (by omega), ← castL_relax1 (m := (relax (p.edges.take i) (relaxN p.edges (List.replicate p.tasks.toNat 0) k))) (e := p.edges[i]) (by omega) (by omega) (by omega)]; exact st52)⟩
    · skip
      have h28p := of_decide_eq_false h28
      refine wp_exit ?_
      refine sx_region ?_
      refine sx rfl (stp_add hs27_11 rfl (by (simp only [I64] at *; omega)) ?_)
      refine sx rfl (stp_move (v := I ((k : Int) + 1)) rfl ?_)
      refine sx_nil ?_
      exact ⟨_, p.tasks.toNat - (k + 1), (by omega), rfl, k + 1, fo21, (by omega), rfl, hs27_1, hs27_3, hs27_10, rfl, (by rw [show relaxN p.edges (List.replicate p.tasks.toNat 0) (k + 1) = relax (p.edges.take i) (relaxN p.edges (List.replicate p.tasks.toNat 0) k) from by rw [show i = p.edges.length by omega, List.take_length]; rfl]; exact st26)⟩
  · skip
    have h20p := of_decide_eq_false h20
    refine wp_exit ?_
    refine wp_seq ?_
    refine sx_region ?_
    refine sx rfl (stp_move (v := (.slice (some ⟨b7, 0, none⟩) p.tasks.toNat p.tasks.toNat)) hs19_3 ?_)
    refine sx rfl (stp_assign (v := (.slice (some ⟨b7, 0, none⟩) p.tasks.toNat p.tasks.toNat)) rfl ?_)
    refine sx_nil ?_
    refine wp_ret ?_; repeat (first | refine then_ret ?_ | refine blk_ret ?_)
    refine ret1 Tryz.results216 rfl ?_
    obtain rfl : k = p.tasks.toNat := by omega
    exact ⟨_, _, rfl, st18.only 0 rfl⟩
set_option maxHeartbeats 2000000 in
theorem FromS (w : World) {p : Plan} {cs : List Value} {fp : List Nat} (hc : Shape.C w cs p fp) (t : Int) (hn : 1 ≤ p.tasks ∧ p.tasks ≤ 12) (hl : p.edges.length ≤ 30) (hi : EdgesIn p.tasks.toNat p.edges) (ht : 0 ≤ t ∧ t < p.tasks) :
    Calls Tryz.prog 213 #[.agg cs.toArray, I t] w fun e w' => ∃ (v : Value) (fp' : List Nat), e = .returned v ∧ St w w' [Res.own v (fromOf p.edges p.tasks.toNat t) fp'] := by
  refine enter2 Tryz.func213 rfl Tryz.ntmps213 (by decide) ?_
  refine wp_seq ?_
  refine sx_region ?_
  refine sx rfl (stp_box_agg (cs := cs) rfl (St.start w) ?_); intro b1 W2 hb3 st4
  refine sx rfl (stp_assign (v := .slice none 0 0) rfl ?_)
  refine sx_nil ?_
  refine wp_seq ?_
  refine sx_region ?_
  refine sx rfl (stp_fieldAddr fa_Plan_3 rfl ?_)
  have hk6 := hc
  obtain ⟨v6_0, g6_0, rfl, hok6, h6_0, rfl⟩ := hk6
  refine sx rfl (stp_load_bx ld_int rfl rfl (st4.get 0 rfl) (i := 3) rfl rfl ?_)
  have hNI : I p.tasks = I ((p.tasks.toNat : Nat) : Int) := congrArg I (Int.toNat_of_nonneg (by omega)).symm
  refine sx rfl (stp_makeZ (α := Bool) (N := p.tasks.toNat) (v := .bool false) (z := false) ap_boolS (by kernel_rfl) ((show _ = I p.tasks from rfl).trans hNI) ((show _ = I p.tasks from rfl).trans hNI) (by omega) (by omega) st4 (fun W => ⟨rfl, rfl, trivial⟩) ?_); intro b7 fp11 W8 hb9 st10
  refine sx rfl (stp_assign (v := (.slice (some ⟨b7, 0, none⟩) p.tasks.toNat p.tasks.toNat)) rfl ?_)
  refine sx_nil ?_
  refine wp_seq ?_
  refine sx_region ?_
  refine sx rfl (stp_move (v := I t) rfl ?_)
  refine sx rfl (stp_buildSlice (cs := [I t]) (e := 3) (pcons (v := I t) rfl pnil) (run_buildSlice1 ap_IntS _ _ rfl rfl (by decide)) st10 ?_); intro b13 W14 hb15 st16
  refine sx rfl (stp_assign (v := .slice (some ⟨b13, 0, none⟩) 1 1) rfl ?_)
  refine sx_nil ?_
  refine wp_seq ?_
  refine wp_seq ?_
  refine sx_region ?_
  refine sx rfl (stp_assign (v := I 0) rfl ?_)
  refine sx_nil ?_
  refine wp_block ?_
  have st18 := St.row_lit (α := Int) (ys := [t]) st16 rfl (Nat.le_of_ble_eq_true rfl) (Elems.ic (by simp only [I64] at *; omega) Elems.i0)
  refine sx_loop (fun (m : Nat) (f : Nat → Value) (W : World) => ∃ (q : List Int) (out : List Bool) (h : Nat) (v19 : Value) (fo20 : List Nat), BInv p.edges p.tasks.toNat t q out h 0 ∧ h ≤ q.length ∧ m = p.tasks.toNat + 2 - h ∧ f 2 = .pointer (some ⟨b1, 0, none⟩) ∧ f 5 = (.slice (some ⟨b7, 0, none⟩) p.tasks.toNat p.tasks.toNat) ∧ f 6 = v19 ∧ f 7 = I (h : Int) ∧ St w W ([Res.row (α := Int) 3 v19 q [], Res.own (α := List Bool) (.slice (some ⟨b7, 0, none⟩) p.tasks.toNat p.tasks.toNat) out fo20, Res.bx b1 [I p.prio, I p.most, I p.wait, I p.tasks, v6_0] 106])) (p.tasks.toNat + 2 - 0) ?_ ?_
  · exact ⟨[t], (List.replicate p.tasks.toNat false), 0, (.slice (some ⟨b13, 0, none⟩) 1 1), fp11, BInv.start, (by simp), rfl, rfl, rfl, rfl, rfl, st18⟩
  intro m21 f22 W23 hJ24
  obtain ⟨q, out, h, v19, fo20, hB, hh, rfl, hs26_2, hs26_5, hs26_6, hs26_7, st25⟩ := hJ24
  have hBl := hB.len_le
  refine wp_seq ?_
  refine wp_seq ?_
  refine sx_region ?_
  refine sx rfl (stp_move (v := I (h : Int)) hs26_7 ?_)
  refine sx rfl (stp_move (v := v19) hs26_6 ?_)
  refine sx rfl (stp_len sl_IntS rfl (row_Sl (st25.get 0 rfl)) ?_)
  refine sx rfl (stp_lss rfl rfl ?_)
  refine sx_nil ?_
  refine sx_if rfl (fun h27 => ?_) (fun h27 => ?_)
  · skip
    have h27p := of_decide_eq_true h27
    refine wp_skip ?_
    refine wp_seq ?_
    refine wp_block ?_
    refine wp_seq ?_
    refine sx_region ?_
    refine sx rfl (stp_assign (v := I 0) rfl ?_)
    refine sx_nil ?_
    refine wp_block ?_
    refine sx_loop (fun (m : Nat) (f : Nat → Value) (W : World) => ∃ (q2 : List Int) (out2 : List Bool) (i : Nat) (v28 : Value) (fo29 : List Nat), BInv p.edges p.tasks.toNat t q2 out2 h i ∧ h < q2.length ∧ i ≤ p.edges.length ∧ m = p.edges.length - i ∧ f 2 = .pointer (some ⟨b1, 0, none⟩) ∧ f 5 = (.slice (some ⟨b7, 0, none⟩) p.tasks.toNat p.tasks.toNat) ∧ f 6 = v28 ∧ f 7 = I (h : Int) ∧ f 8 = I (i : Int) ∧ St w W ([Res.row (α := Int) 3 v28 q2 [], Res.own (α := List Bool) (.slice (some ⟨b7, 0, none⟩) p.tasks.toNat p.tasks.toNat) out2 fo29, Res.bx b1 [I p.prio, I p.most, I p.wait, I p.tasks, v6_0] 106])) (p.edges.length - 0) ?_ ?_
    · exact ⟨q, out, 0, v19, fo20, hB, (by omega), (by omega), rfl, hs26_2, hs26_5, hs26_6, hs26_7, rfl, st25⟩
    intro m30 f31 W32 hJ33
    obtain ⟨q2, out2, i, v28, fo29, hB2, hh2, hi2, rfl, hs35_2, hs35_5, hs35_6, hs35_7, hs35_8, st34⟩ := hJ33
    have hBl2 := hB2.len_le
    have hol2 := hB2.len
    refine wp_seq ?_
    refine wp_seq ?_
    refine sx_region ?_
    refine sx rfl (stp_move (v := I (i : Int)) hs35_8 ?_)
    refine sx rfl (stp_fieldAddr fa_Plan_4 hs35_2 ?_)
    refine sx rfl (stp_load_bx ld_EdgeS rfl rfl (st34.get 2 rfl) (i := 4) rfl rfl ?_)
    refine sx rfl (stp_len sl_EdgeS rfl h6_0 ?_)
    refine sx rfl (stp_lss rfl rfl ?_)
    refine sx_nil ?_
    refine sx_if rfl (fun h36 => ?_) (fun h36 => ?_)
    · skip
      have h36p := of_decide_eq_true h36
      refine wp_skip ?_
      refine wp_seq ?_
      refine wp_block ?_
      refine wp_seq ?_
      refine sx_region ?_
      refine sx rfl (stp_fieldAddr fa_Plan_4 hs35_2 ?_)
      refine sx rfl (stp_load_bx ld_EdgeS rfl rfl (st34.get 2 rfl) (i := 4) rfl rfl ?_)
      refine sx rfl (stp_move (v := I (i : Int)) hs35_8 ?_)
      have hi99fa3 : i < p.edges.length := (by omega)
      have hq_ := idx h6_0 (i := i) hi99fa3
      obtain ⟨b37, o37, cs37, f37, hp37, hr37, hc37, hm37⟩ := hq_
      refine sx rfl (stp_indexAddr sl_EdgeS rfl hp37 rfl rfl ?_)
      refine sx rfl (stp_load_rga ld_Edge rfl rfl hr37 st34.below (Shape.len hc37) ?_)
      refine sx rfl (stp_alloc zz_Edge st34 ?_); intro b38 W39 hb40 st41
      refine sx rfl (stp_store_all (cs := cs37) ld_Edge hc37 rfl rfl st41 rfl ?_); intro W43 st44
      refine sx_nil ?_
      refine wp_seq ?_
      have hk45 := hc37
      obtain ⟨he45, rfl, hok45⟩ := hk45
      have he45 : _ = [I (p.edges[i]'hi99fa3).from_, I (p.edges[i]'hi99fa3).to_] := he45
      subst he45
      have hi8f4b8 : h < q2.length := (by omega)
      rcases bd (decide ((p.edges[i]'hi99fa3).from_ = (q2[h]'hi8f4b8))) with h47 | h47
      · skip
        have h47p := of_decide_eq_false h47
        have hea := hi.at (k := i) (by omega)
        have hi8f4b8 : h < q2.length := (by omega)
        have hq_ := idx (row_Sl (st44.get 1 rfl)) (i := h) hi8f4b8
        obtain ⟨b48, o48, cs48, f48, hp48, hr48, hc48, hm48⟩ := hq_
        have hk48 := hc48
        obtain ⟨rfl, rfl, hok48⟩ := hk48
        refine sx_any [Pl.is (.pointer (some ⟨b38, 0 + 0, none⟩)), Pl.is (I (p.edges[i]'hi99fa3).from_), Pl.is (v28) (Sl.yl (row_Sl (st44.get 1 rfl))), Pl.is (I (h : Int)), Pl.is (.pointer (some ⟨b48, o48, none⟩)), Pl.is (I (q2[h]'hi8f4b8)), Pl.bool false, Pl.bool false, Pl.off, Pl.off, Pl.off, Pl.off, Pl.off, Pl.off, Pl.bool false] mix (by rfl) st44 ⟨(fun f W hst hbl hd hf => stp_fieldAddr fa_Edge_0 ((hf 9 rfl).trans (show _ = (.pointer (some ⟨b38, 0, none⟩) : Value) from rfl)) ⟨Below.refl _ _, rfl⟩), (fun f W hst hbl hd hf => stp_load_bx ld_int rfl (hd 0 33 rfl rfl) (hst.get 0 rfl) (i := 0) rfl rfl ⟨Below.refl _ _, rfl⟩), (fun f W hst hbl hd hf => stp_move (v := v28) ((hf 6 rfl).trans hs35_6) ⟨Below.refl _ _, rfl⟩), (fun f W hst hbl hd hf => stp_move (v := I (h : Int)) ((hf 7 rfl).trans hs35_7) ⟨Below.refl _ _, rfl⟩), (fun f W hst hbl hd hf => stp_indexAddr sl_IntS (hd 2 35 rfl rfl) hp48 (hd 3 36 rfl rfl) rfl ⟨Below.refl _ _, rfl⟩), (fun f W hst hbl hd hf => stp_load_rg ld_int rfl (hd 4 37 rfl rfl) hr48 hbl (i := 0) rfl rfl ⟨Below.refl _ _, rfl⟩), (fun f W hst hbl hd hf => stp_eql (hd 1 34 rfl rfl) (hd 5 38 rfl rfl) ⟨Below.refl _ _, congrArg Value.bool h47⟩), (fun f W hst hbl hd hf => stp_move (v := .bool false) (hd 6 39 rfl rfl) ⟨Below.refl _ _, rfl⟩), (fun f W hst hbl hd hf => rfl), (fun f W hst hbl hd hf => rfl), (fun f W hst hbl hd hf => rfl), (fun f W hst hbl hd hf => rfl), (fun f W hst hbl hd hf => rfl), (fun f W hst hbl hd hf => rfl), (fun f W hst hbl hd hf => stp_pick_f (v := .bool false) (hd 7 40 rfl rfl) rfl ⟨Below.refl _ _, rfl⟩), trivial⟩ ?_
        intro f49 W50 st51 hb52 hv53 hf54
        refine sx_f (hv53 14 47 (by decide) rfl) rfl ?_
        refine wp_skip ?_
        refine sx_region ?_
        refine sx rfl (stp_move (v := I (i : Int)) ((hf54 8 rfl).trans hs35_8) ?_)
        refine sx rfl (stp_add rfl rfl (by (simp only [I64] at *; omega)) ?_)
        refine sx rfl (stp_assign (v := I ((i : Int) + 1)) rfl ?_)
        refine sx_nil ?_
        have st55 := st51.f3
        have st56 := st55.f3
        have st57 := st56.f3
        have st58 := st57.d3
        exact ⟨_, p.edges.length - (i + 1), (by omega), rfl, q2, out2, i + 1, v28, fo29, (hB2.skip1 hi (by omega) (by omega) h47p), (by omega), (by omega), rfl, ((hf54 2 rfl).trans hs35_2), ((hf54 5 rfl).trans hs35_5), ((hf54 6 rfl).trans hs35_6), ((hf54 7 rfl).trans hs35_7), rfl, st58⟩
      · skip
        have h47p := of_decide_eq_true h47
        have hea := hi.at (k := i) (by omega)
        have hi8f4b8 : h < q2.length := (by omega)
        have hq_ := idx (row_Sl (st44.get 1 rfl)) (i := h) hi8f4b8
        obtain ⟨b59, o59, cs59, f59, hp59, hr59, hc59, hm59⟩ := hq_
        have hk59 := hc59
        obtain ⟨rfl, rfl, hok59⟩ := hk59
        have hi76505 : ((p.edges[i]'hi99fa3).to_).toNat < out2.length := (by omega)
        have hq_ := idx (own_Sl (st44.get 2 rfl)) (i := ((p.edges[i]'hi99fa3).to_).toNat) hi76505
        obtain ⟨b60, o60, cs60, f60, hp60, hr60, hc60, hm60⟩ := hq_
        have hk60 := hc60
        obtain ⟨rfl, rfl, hok60⟩ := hk60
        refine sx_any [Pl.is (.pointer (some ⟨b38, 0 + 0, none⟩)), Pl.is (I (p.edges[i]'hi99fa3).from_), Pl.is (v28) (Sl.yl (row_Sl (st44.get 1 rfl))), Pl.is (I (h : Int)), Pl.is (.pointer (some ⟨b59, o59, none⟩)), Pl.is (I (q2[h]'hi8f4b8)), Pl.bool true, Pl.bool true, Pl.is ((.slice (some ⟨b7, 0, none⟩) p.tasks.toNat p.tasks.toNat)) (Sl.yl (own_Sl (st44.get 2 rfl))), Pl.is (.pointer (some ⟨b38, 0 + 1, none⟩)), Pl.is (I (p.edges[i]'hi99fa3).to_), Pl.is (.pointer (some ⟨b60, o60, none⟩)), Pl.bool (out2[((p.edges[i]'hi99fa3).to_).toNat]'hi76505), Pl.bool (!(out2[((p.edges[i]'hi99fa3).to_).toNat]'hi76505)), Pl.bool (!(out2[((p.edges[i]'hi99fa3).to_).toNat]'hi76505))] mix (by rfl) st44 ⟨(fun f W hst hbl hd hf => stp_fieldAddr fa_Edge_0 ((hf 9 rfl).trans (show _ = (.pointer (some ⟨b38, 0, none⟩) : Value) from rfl)) ⟨Below.refl _ _, rfl⟩), (fun f W hst hbl hd hf => stp_load_bx ld_int rfl (hd 0 33 rfl rfl) (hst.get 0 rfl) (i := 0) rfl rfl ⟨Below.refl _ _, rfl⟩), (fun f W hst hbl hd hf => stp_move (v := v28) ((hf 6 rfl).trans hs35_6) ⟨Below.refl _ _, rfl⟩), (fun f W hst hbl hd hf => stp_move (v := I (h : Int)) ((hf 7 rfl).trans hs35_7) ⟨Below.refl _ _, rfl⟩), (fun f W hst hbl hd hf => stp_indexAddr sl_IntS (hd 2 35 rfl rfl) hp59 (hd 3 36 rfl rfl) rfl ⟨Below.refl _ _, rfl⟩), (fun f W hst hbl hd hf => stp_load_rg ld_int rfl (hd 4 37 rfl rfl) hr59 hbl (i := 0) rfl rfl ⟨Below.refl _ _, rfl⟩), (fun f W hst hbl hd hf => stp_eql (hd 1 34 rfl rfl) (hd 5 38 rfl rfl) ⟨Below.refl _ _, congrArg Value.bool h47⟩), (fun f W hst hbl hd hf => stp_move (v := .bool true) (hd 6 39 rfl rfl) ⟨Below.refl _ _, rfl⟩), (fun f W hst hbl hd hf => stp_move (v := (.slice (some ⟨b7, 0, none⟩) p.tasks.toNat p.tasks.toNat)) ((hf 5 rfl).trans hs35_5) ⟨Below.refl _ _, rfl⟩), (fun f W hst hbl hd hf => stp_fieldAddr fa_Edge_1 ((hf 9 rfl).trans (show _ = (.pointer (some ⟨b38, 0, none⟩) : Value) from rfl)) ⟨Below.refl _ _, rfl⟩), (fun f W hst hbl hd hf => stp_load_bx ld_int rfl (hd 9 42 rfl rfl) (hst.get 0 rfl) (i := 1) rfl rfl ⟨Below.refl _ _, rfl⟩), (fun f W hst hbl hd hf => stp_indexAddr sl_boolS (hd 8 41 rfl rfl) hp60 (hd 10 43 rfl rfl) (by omega) ⟨Below.refl _ _, rfl⟩), (fun f W hst hbl hd hf => stp_load_rg ld_bool rfl (hd 11 44 rfl rfl) hr60 hbl (i := 0) rfl rfl ⟨Below.refl _ _, rfl⟩), (fun f W hst hbl hd hf => stp_not (hd 12 45 rfl rfl) ⟨Below.refl _ _, rfl⟩), (fun f W hst hbl hd hf => stp_pick_t (v := .bool (!(out2[((p.edges[i]'hi99fa3).to_).toNat]'hi76505))) (hd 7 40 rfl rfl) (hd 13 46 rfl rfl) ⟨Below.refl _ _, rfl⟩), trivial⟩ ?_
        intro f61 W62 st63 hb64 hv65 hf66
        refine sx_if (hv65 14 47 (by decide) rfl) (fun h67 => ?_) (fun h67 => ?_)
        · skip
          refine wp_seq ?_
          refine sx_region ?_
          refine sx rfl (stp_move (v := (.slice (some ⟨b7, 0, none⟩) p.tasks.toNat p.tasks.toNat)) ((hf66 5 rfl).trans hs35_5) ?_)
          refine sx rfl (stp_fieldAddr fa_Edge_1 ((hf66 9 rfl).trans (show _ = (.pointer (some ⟨b38, 0, none⟩) : Value) from rfl)) ?_)
          refine sx rfl (stp_load_bx ld_int rfl rfl (st63.get 0 rfl) (i := 1) rfl rfl ?_)
          have hi76505 : ((p.edges[i]'hi99fa3).to_).toNat < out2.length := (by omega)
          have hq_ := idx (own_Sl (st63.get 2 rfl)) (i := ((p.edges[i]'hi99fa3).to_).toNat) hi76505
          obtain ⟨b68, o68, cs68, f68, hp68, hr68, hc68, hm68⟩ := hq_
          have hk68 := hc68
          obtain ⟨rfl, rfl, hok68⟩ := hk68
          refine sx rfl (stp_indexAddr sl_boolS rfl hp68 rfl (by omega) ?_)
          have st69 := st63.f2
          refine sx rfl (stp_poke1 (α := Bool) (z := true) rfl (by kernel_rfl) rfl hp68 hi76505 rfl rfl rfl st69 (fun W => ⟨rfl, rfl, trivial⟩) ?_); intro fp70 W71 st72
          refine sx_nil ?_
          refine sx_region ?_
          refine sx rfl (stp_move (v := v28) ((hf66 6 rfl).trans hs35_6) ?_)
          refine sx rfl (stp_fieldAddr fa_Edge_1 ((hf66 9 rfl).trans (show _ = (.pointer (some ⟨b38, 0, none⟩) : Value) from rfl)) ?_)
          refine sx rfl (stp_load_bx ld_int rfl rfl (st72.get 1 rfl) (i := 1) rfl rfl ?_)
          refine sx rfl (stp_buildSlice (cs := [I (p.edges[i]'hi99fa3).to_]) (e := 3) (pcons (v := I (p.edges[i]'hi99fa3).to_) rfl pnil) (run_buildSlice1 ap_IntS _ _ rfl rfl (by decide)) st72 ?_); intro b73 W74 hb75 st76
          have hxx := hB2.add1 hi (by omega) (by omega) (by assumption) (by omega) (by assumption)
          have hxl := hxx.len_le
          rw [List.length_append] at hxl
          have st78 := st76.f3
          refine sx rfl (stp_append_bx (ys := [(p.edges[i]'hi99fa3).to_]) ap_IntS rfl rfl rfl st78 (Elems.ic (by simp only [I64]; omega) Elems.i0) (by unfold maxLen; omega) (by omega) ?_); intro v79 W80 st81
          refine sx rfl (stp_assign (v := v79) rfl ?_)
          refine sx_nil ?_
          refine sx_region ?_
          refine sx rfl (stp_move (v := I (i : Int)) ((hf66 8 rfl).trans hs35_8) ?_)
          refine sx rfl (stp_add rfl rfl (by (simp only [I64] at *; omega)) ?_)
          refine sx rfl (stp_assign (v := I ((i : Int) + 1)) rfl ?_)
          refine sx_nil ?_
          have st82 := st81.f3
          have st83 := st82.f2
          have st84 := st83.f2
          have st85 := st84.d3
          exact ⟨_, p.edges.length - (i + 1), (by omega), rfl, q2 ++ [(p.edges[i]'hi99fa3).to_], (out2).set ((p.edges[i]'hi99fa3).to_).toNat true, i + 1, v79, fp70, (hB2.add1 hi (by omega) (by omega) h47p (by omega) h67), (by rw [List.length_append]; omega), (by omega), rfl, ((hf66 2 rfl).trans hs35_2), ((hf66 5 rfl).trans hs35_5), rfl, ((hf66 7 rfl).trans hs35_7), rfl, st85⟩
        · skip
          refine wp_skip ?_
          refine sx_region ?_
          refine sx rfl (stp_move (v := I (i : Int)) ((hf66 8 rfl).trans hs35_8) ?_)
          refine sx rfl (stp_add rfl rfl (by (simp only [I64] at *; omega)) ?_)
          refine sx rfl (stp_assign (v := I ((i : Int) + 1)) rfl ?_)
          refine sx_nil ?_
          have st86 := st63.f3
          have st87 := st86.f3
          have st88 := st87.f3
          have st89 := st88.d3
          exact ⟨_, p.edges.length - (i + 1), (by omega), rfl, q2, out2, i + 1, v28, fo29, (hB2.skip2 hi (by omega) (by omega) (by omega) h67), (by omega), (by omega), rfl, ((hf66 2 rfl).trans hs35_2), ((hf66 5 rfl).trans hs35_5), ((hf66 6 rfl).trans hs35_6), ((hf66 7 rfl).trans hs35_7), rfl, st89⟩
    · skip
      have h36p := of_decide_eq_false h36
      refine wp_exit ?_
      refine sx_region ?_
      refine sx rfl (stp_move (v := I (h : Int)) hs35_7 ?_)
      refine sx rfl (stp_add rfl rfl (by (simp only [I64] at *; omega)) ?_)
      refine sx rfl (stp_assign (v := I ((h : Int) + 1)) rfl ?_)
      refine sx_nil ?_
      exact ⟨_, p.tasks.toNat + 2 - (h + 1), (by omega), rfl, q2, out2, h + 1, v28, fo29, (hB2.next (by omega)), (by omega), rfl, hs35_2, hs35_5, hs35_6, rfl, st34⟩
  · skip
    have h27p := of_decide_eq_false h27
    refine wp_exit ?_
    refine wp_seq ?_
    refine sx_region ?_
    refine sx rfl (stp_move (v := (.slice (some ⟨b7, 0, none⟩) p.tasks.toNat p.tasks.toNat)) hs26_5 ?_)
    refine sx rfl (stp_assign (v := (.slice (some ⟨b7, 0, none⟩) p.tasks.toNat p.tasks.toNat)) rfl ?_)
    refine sx_nil ?_
    refine wp_ret ?_; repeat (first | refine then_ret ?_ | refine blk_ret ?_)
    refine ret1 Tryz.results213 rfl ?_
    have st90 := st25.f1
    have hall := hB.all (by omega)
    rw [hall] at st90
    exact ⟨_, _, rfl, st90.only 0 rfl⟩
set_option maxHeartbeats 2000000 in
theorem ManyS (w : World) {p : Plan} {cs : List Value} {fp : List Nat} (hc : Shape.C w cs p fp) :
    Calls Tryz.prog 212 #[.agg cs.toArray] w fun e w' => e = .returned (.bool (pB (planMany p))) ∧ St w w' [] := by
  refine enter1 Tryz.func212 rfl Tryz.ntmps212 (by decide) ?_
  refine wp_seq ?_
  refine sx_region ?_
  refine sx rfl (stp_box_agg (cs := cs) rfl (St.start w) ?_); intro b1 W2 hb3 st4
  refine sx rfl (stp_assign (v := .bool false) rfl ?_)
  refine sx_nil ?_
  refine wp_seq ?_
  refine sx_region ?_
  refine sx rfl (stp_fieldAddr fa_Plan_3 rfl ?_)
  have hk6 := hc
  obtain ⟨v6_0, g6_0, rfl, hok6, h6_0, rfl⟩ := hk6
  refine sx rfl (stp_load_bx ld_int rfl rfl (st4.get 0 rfl) (i := 3) rfl rfl ?_)
  refine sx rfl (stp_call3 Tryz.func43 rfl rfl rfl rfl ((l01In_n W2 p.tasks 1 12).mono ?_)); rintro _ W7 ⟨rfl, hk8⟩; refine ⟨_, rfl, ?_⟩
  have st9 := St.call st4 hk8
  refine sx rfl (stp_not rfl ?_)
  refine sx rfl (stp_move (v := .bool (!(inB p.tasks 1 12))) rfl ?_)
  rcases bd (!(inB p.tasks 1 12)) with h11 | h11
  · skip
    have h11p := inB_iff'.1 (bnot_f h11)
    refine sx_on (j := 4) (dd := 7) rfl rfl (by decide) (yl_on (e := !(inB p.tasks 1 12)) rfl h11) (stp_fieldAddr fa_Plan_4 rfl ?_)
    refine sx_on (j := 4) (dd := 7) rfl rfl (by decide) (yl_on (e := !(inB p.tasks 1 12)) rfl h11) (stp_load_bx ld_EdgeS rfl rfl (st9.get 0 rfl) (i := 4) rfl rfl ?_)
    refine sx_on (j := 4) (dd := 7) rfl rfl (by decide) (yl_on (e := !(inB p.tasks 1 12)) rfl h11) (stp_len sl_EdgeS rfl h6_0 ?_)
    refine sx_on (j := 4) (dd := 7) rfl rfl (by decide) (yl_on (e := !(inB p.tasks 1 12)) rfl h11) (stp_gtr rfl rfl ?_)
    refine sx rfl (stp_pick_f (v := .bool (decide (30 < (p.edges.length : Int)))) ((rfl : _ = (.bool (!(inB p.tasks 1 12)) : Value)).trans (congrArg Value.bool h11)) rfl ?_)
    refine sx rfl (stp_move (v := .bool (decide (30 < (p.edges.length : Int)))) rfl ?_)
    rcases bd (decide (30 < (p.edges.length : Int))) with h12 | h12
    · skip
      have h12p := of_decide_eq_false h12
      refine sx_on (j := 10) (dd := 13) rfl rfl (by decide) (yl_on (e := decide (30 < (p.edges.length : Int))) rfl h12) (stp_fieldAddr fa_Plan_0 rfl ?_)
      refine sx_on (j := 10) (dd := 13) rfl rfl (by decide) (yl_on (e := decide (30 < (p.edges.length : Int))) rfl h12) (stp_load_bx ld_int rfl rfl (st9.get 0 rfl) (i := 0) rfl rfl ?_)
      refine sx_on (j := 10) (dd := 13) rfl rfl (by decide) (yl_on (e := decide (30 < (p.edges.length : Int))) rfl h12) (stp_call3 Tryz.func43 rfl rfl rfl rfl ((l01In_n W7 p.prio 0 9).mono ?_)); rintro _ W13 ⟨rfl, hk14⟩; refine ⟨_, rfl, ?_⟩
      have st15 := St.call st9 hk14
      refine sx_on (j := 10) (dd := 13) rfl rfl (by decide) (yl_on (e := decide (30 < (p.edges.length : Int))) rfl h12) (stp_not rfl ?_)
      refine sx rfl (stp_pick_f (v := .bool (!(inB p.prio 0 9))) ((rfl : _ = (.bool (decide (30 < (p.edges.length : Int))) : Value)).trans (congrArg Value.bool h12)) rfl ?_)
      refine sx rfl (stp_move (v := .bool (!(inB p.prio 0 9))) rfl ?_)
      rcases bd (!(inB p.prio 0 9)) with h17 | h17
      · skip
        have h17p := inB_iff'.1 (bnot_f h17)
        refine sx_on (j := 16) (dd := 19) rfl rfl (by decide) (yl_on (e := !(inB p.prio 0 9)) rfl h17) (stp_fieldAddr fa_Plan_1 rfl ?_)
        refine sx_on (j := 16) (dd := 19) rfl rfl (by decide) (yl_on (e := !(inB p.prio 0 9)) rfl h17) (stp_load_bx ld_int rfl rfl (st15.get 0 rfl) (i := 1) rfl rfl ?_)
        refine sx_on (j := 16) (dd := 19) rfl rfl (by decide) (yl_on (e := !(inB p.prio 0 9)) rfl h17) (stp_call3 Tryz.func43 rfl rfl rfl rfl ((l01In_n W13 p.most 1 5).mono ?_)); rintro _ W18 ⟨rfl, hk19⟩; refine ⟨_, rfl, ?_⟩
        have st20 := St.call st15 hk19
        refine sx_on (j := 16) (dd := 19) rfl rfl (by decide) (yl_on (e := !(inB p.prio 0 9)) rfl h17) (stp_not rfl ?_)
        refine sx rfl (stp_pick_f (v := .bool (!(inB p.most 1 5))) ((rfl : _ = (.bool (!(inB p.prio 0 9)) : Value)).trans (congrArg Value.bool h17)) rfl ?_)
        refine sx rfl (stp_move (v := .bool (!(inB p.most 1 5))) rfl ?_)
        rcases bd (!(inB p.most 1 5)) with h22 | h22
        · skip
          have h22p := inB_iff'.1 (bnot_f h22)
          refine sx_on (j := 22) (dd := 25) rfl rfl (by decide) (yl_on (e := !(inB p.most 1 5)) rfl h22) (stp_fieldAddr fa_Plan_2 rfl ?_)
          refine sx_on (j := 22) (dd := 25) rfl rfl (by decide) (yl_on (e := !(inB p.most 1 5)) rfl h22) (stp_load_bx ld_int rfl rfl (st20.get 0 rfl) (i := 2) rfl rfl ?_)
          refine sx_on (j := 22) (dd := 25) rfl rfl (by decide) (yl_on (e := !(inB p.most 1 5)) rfl h22) (stp_call3 Tryz.func43 rfl rfl rfl rfl ((l01In_n W18 p.wait 1 20).mono ?_)); rintro _ W23 ⟨rfl, hk24⟩; refine ⟨_, rfl, ?_⟩
          have st25 := St.call st20 hk24
          refine sx_on (j := 22) (dd := 25) rfl rfl (by decide) (yl_on (e := !(inB p.most 1 5)) rfl h22) (stp_not rfl ?_)
          refine sx rfl (stp_pick_f (v := .bool (!(inB p.wait 1 20))) ((rfl : _ = (.bool (!(inB p.most 1 5)) : Value)).trans (congrArg Value.bool h22)) rfl ?_)
          refine sx rfl (stp_assign (v := .bool (!(inB p.wait 1 20))) rfl ?_)
          refine sx_nil ?_
          rcases bd (!(inB p.wait 1 20)) with h27 | h27
          · skip
            have h27p := inB_iff'.1 (bnot_f h27)
            refine wp_ret ?_; repeat (first | refine then_ret ?_ | refine blk_ret ?_)
            refine ret1 Tryz.results212 ((rfl : _ = (.bool (!(inB p.wait 1 20)) : Value)).trans (congrArg Value.bool h27)) ?_
            exact ⟨(congrArg (fun z => Ending.returned (.bool z)) (by rw [pB_f (by unfold planMany; omega)])), st25.bare⟩
          · skip
            have h27p := inB_not (bnot_t h27)
            refine wp_ret ?_; repeat (first | refine then_ret ?_ | refine blk_ret ?_)
            refine ret1 Tryz.results212 ((rfl : _ = (.bool (!(inB p.wait 1 20)) : Value)).trans (congrArg Value.bool h27)) ?_
            exact ⟨(congrArg (fun z => Ending.returned (.bool z)) (by rw [pB_t (by unfold planMany; omega)])), st25.bare⟩
        · skip
          have h22p := inB_not (bnot_t h22)
          iterate 4 refine sx_off (j := 22) (dd := 25) rfl rfl (by decide) (yl_off (e := !(inB p.most 1 5)) rfl h22) ?_
          refine sx rfl (stp_pick_t (v := .bool true) ((rfl : _ = (.bool (!(inB p.most 1 5)) : Value)).trans (congrArg Value.bool h22)) rfl ?_)
          refine sx rfl (stp_assign (v := .bool true) rfl ?_)
          refine sx_nil ?_
          refine wp_ret ?_; repeat (first | refine then_ret ?_ | refine blk_ret ?_)
          refine ret1 Tryz.results212 rfl ?_
          exact ⟨(congrArg (fun z => Ending.returned (.bool z)) (by rw [pB_t (by unfold planMany; omega)])), st20.bare⟩
      · skip
        have h17p := inB_not (bnot_t h17)
        iterate 4 refine sx_off (j := 16) (dd := 19) rfl rfl (by decide) (yl_off (e := !(inB p.prio 0 9)) rfl h17) ?_
        refine sx rfl (stp_pick_t (v := .bool true) ((rfl : _ = (.bool (!(inB p.prio 0 9)) : Value)).trans (congrArg Value.bool h17)) rfl ?_)
        refine sx rfl (stp_move (v := .bool true) rfl ?_)
        iterate 4 refine sx_off (j := 22) (dd := 25) rfl rfl (by decide) (yl_off (e := true) rfl rfl) ?_
        refine sx rfl (stp_pick_t (v := .bool true) rfl rfl ?_)
        refine sx rfl (stp_assign (v := .bool true) rfl ?_)
        refine sx_nil ?_
        refine wp_ret ?_; repeat (first | refine then_ret ?_ | refine blk_ret ?_)
        refine ret1 Tryz.results212 rfl ?_
        exact ⟨(congrArg (fun z => Ending.returned (.bool z)) (by rw [pB_t (by unfold planMany; omega)])), st15.bare⟩
    · skip
      have h12p := of_decide_eq_true h12
      iterate 4 refine sx_off (j := 10) (dd := 13) rfl rfl (by decide) (yl_off (e := decide (30 < (p.edges.length : Int))) rfl h12) ?_
      refine sx rfl (stp_pick_t (v := .bool true) ((rfl : _ = (.bool (decide (30 < (p.edges.length : Int))) : Value)).trans (congrArg Value.bool h12)) rfl ?_)
      refine sx rfl (stp_move (v := .bool true) rfl ?_)
      iterate 4 refine sx_off (j := 16) (dd := 19) rfl rfl (by decide) (yl_off (e := true) rfl rfl) ?_
      refine sx rfl (stp_pick_t (v := .bool true) rfl rfl ?_)
      refine sx rfl (stp_move (v := .bool true) rfl ?_)
      iterate 4 refine sx_off (j := 22) (dd := 25) rfl rfl (by decide) (yl_off (e := true) rfl rfl) ?_
      refine sx rfl (stp_pick_t (v := .bool true) rfl rfl ?_)
      refine sx rfl (stp_assign (v := .bool true) rfl ?_)
      refine sx_nil ?_
      refine wp_ret ?_; repeat (first | refine then_ret ?_ | refine blk_ret ?_)
      refine ret1 Tryz.results212 rfl ?_
      exact ⟨(congrArg (fun z => Ending.returned (.bool z)) (by rw [pB_t (by unfold planMany; omega)])), st9.bare⟩
  · skip
    have h11p := inB_not (bnot_t h11)
    iterate 4 refine sx_off (j := 4) (dd := 7) rfl rfl (by decide) (yl_off (e := !(inB p.tasks 1 12)) rfl h11) ?_
    refine sx rfl (stp_pick_t (v := .bool true) ((rfl : _ = (.bool (!(inB p.tasks 1 12)) : Value)).trans (congrArg Value.bool h11)) rfl ?_)
    refine sx rfl (stp_move (v := .bool true) rfl ?_)
    iterate 4 refine sx_off (j := 10) (dd := 13) rfl rfl (by decide) (yl_off (e := true) rfl rfl) ?_
    refine sx rfl (stp_pick_t (v := .bool true) rfl rfl ?_)
    refine sx rfl (stp_move (v := .bool true) rfl ?_)
    iterate 4 refine sx_off (j := 16) (dd := 19) rfl rfl (by decide) (yl_off (e := true) rfl rfl) ?_
    refine sx rfl (stp_pick_t (v := .bool true) rfl rfl ?_)
    refine sx rfl (stp_move (v := .bool true) rfl ?_)
    iterate 4 refine sx_off (j := 22) (dd := 25) rfl rfl (by decide) (yl_off (e := true) rfl rfl) ?_
    refine sx rfl (stp_pick_t (v := .bool true) rfl rfl ?_)
    refine sx rfl (stp_assign (v := .bool true) rfl ?_)
    refine sx_nil ?_
    refine wp_ret ?_; repeat (first | refine then_ret ?_ | refine blk_ret ?_)
    refine ret1 Tryz.results212 rfl ?_
    exact ⟨(congrArg (fun z => Ending.returned (.bool z)) (by rw [pB_t (by unfold planMany; omega)])), st9.bare⟩
set_option maxHeartbeats 2000000 in
theorem PlanFaultI (w : World) {p : Plan} {cs : List Value} {fp : List Nat} (hc : Shape.C w cs p fp) :
    Calls Tryz.prog 160 #[.agg cs.toArray] w fun e w' => e = .returned (I (planFault p)) ∧ St w w' [] := by
  refine enter1 Tryz.func160 rfl Tryz.ntmps160 (by decide) ?_
  refine wp_seq ?_
  refine sx_region ?_
  refine sx rfl (stp_box_agg (cs := cs) rfl (St.start w) ?_); intro b1 W2 hb3 st4
  refine sx rfl (stp_assign (v := I 0) rfl ?_)
  refine sx_nil ?_
  refine wp_seq ?_
  refine wp_seq ?_
  refine sx_region ?_
  refine sx rfl (stp_fieldAddr fa_Plan_3 rfl ?_)
  have hk6 := hc
  obtain ⟨v6_0, g6_0, rfl, hok6, h6_0, rfl⟩ := hk6
  refine sx rfl (stp_load_bx ld_int rfl rfl (st4.get 0 rfl) (i := 3) rfl rfl ?_)
  refine sx rfl (stp_call3 Tryz.func47 rfl rfl rfl rfl ((within_n W2 p.tasks 1 12).mono ?_)); rintro _ W7 ⟨rfl, hk8⟩; refine ⟨_, rfl, ?_⟩
  have st9 := St.call st4 hk8
  refine sx rfl (stp_not rfl ?_)
  refine sx rfl (stp_move (v := .bool (!(inB p.tasks 1 12))) rfl ?_)
  rcases bd (!(inB p.tasks 1 12)) with h11 | h11
  · skip
    have h11p := inB_iff'.1 (bnot_f h11)
    refine sx_on (j := 4) (dd := 13) rfl rfl (by decide) (yl_on (e := !(inB p.tasks 1 12)) rfl h11) (stp_fieldAddr fa_Plan_4 rfl ?_)
    refine sx_on (j := 4) (dd := 13) rfl rfl (by decide) (yl_on (e := !(inB p.tasks 1 12)) rfl h11) (stp_load_bx ld_EdgeS rfl rfl (st9.get 0 rfl) (i := 4) rfl rfl ?_)
    refine sx_on (j := 4) (dd := 13) rfl rfl (by decide) (yl_on (e := !(inB p.tasks 1 12)) rfl h11) (stp_len sl_EdgeS rfl h6_0 ?_)
    refine sx_on (j := 4) (dd := 13) rfl rfl (by decide) (yl_on (e := !(inB p.tasks 1 12)) rfl h11) (stp_gtr rfl rfl ?_)
    refine sx rfl (stp_pick_f (v := .bool (decide (30 < (p.edges.length : Int)))) ((rfl : _ = (.bool (!(inB p.tasks 1 12)) : Value)).trans (congrArg Value.bool h11)) rfl ?_)
    refine sx rfl (stp_move (v := .bool (decide (30 < (p.edges.length : Int)))) rfl ?_)
    rcases bd (decide (30 < (p.edges.length : Int))) with h12 | h12
    · skip
      have h12p := of_decide_eq_false h12
      refine sx_on (j := 10) (dd := 19) rfl rfl (by decide) (yl_on (e := decide (30 < (p.edges.length : Int))) rfl h12) (stp_fieldAddr fa_Plan_0 rfl ?_)
      refine sx_on (j := 10) (dd := 19) rfl rfl (by decide) (yl_on (e := decide (30 < (p.edges.length : Int))) rfl h12) (stp_load_bx ld_int rfl rfl (st9.get 0 rfl) (i := 0) rfl rfl ?_)
      refine sx_on (j := 10) (dd := 19) rfl rfl (by decide) (yl_on (e := decide (30 < (p.edges.length : Int))) rfl h12) (stp_call3 Tryz.func47 rfl rfl rfl rfl ((within_n W7 p.prio 0 9).mono ?_)); rintro _ W13 ⟨rfl, hk14⟩; refine ⟨_, rfl, ?_⟩
      have st15 := St.call st9 hk14
      refine sx_on (j := 10) (dd := 19) rfl rfl (by decide) (yl_on (e := decide (30 < (p.edges.length : Int))) rfl h12) (stp_not rfl ?_)
      refine sx rfl (stp_pick_f (v := .bool (!(inB p.prio 0 9))) ((rfl : _ = (.bool (decide (30 < (p.edges.length : Int))) : Value)).trans (congrArg Value.bool h12)) rfl ?_)
      refine sx rfl (stp_move (v := .bool (!(inB p.prio 0 9))) rfl ?_)
      rcases bd (!(inB p.prio 0 9)) with h17 | h17
      · skip
        have h17p := inB_iff'.1 (bnot_f h17)
        refine sx_on (j := 16) (dd := 25) rfl rfl (by decide) (yl_on (e := !(inB p.prio 0 9)) rfl h17) (stp_fieldAddr fa_Plan_1 rfl ?_)
        refine sx_on (j := 16) (dd := 25) rfl rfl (by decide) (yl_on (e := !(inB p.prio 0 9)) rfl h17) (stp_load_bx ld_int rfl rfl (st15.get 0 rfl) (i := 1) rfl rfl ?_)
        refine sx_on (j := 16) (dd := 25) rfl rfl (by decide) (yl_on (e := !(inB p.prio 0 9)) rfl h17) (stp_call3 Tryz.func47 rfl rfl rfl rfl ((within_n W13 p.most 1 5).mono ?_)); rintro _ W18 ⟨rfl, hk19⟩; refine ⟨_, rfl, ?_⟩
        have st20 := St.call st15 hk19
        refine sx_on (j := 16) (dd := 25) rfl rfl (by decide) (yl_on (e := !(inB p.prio 0 9)) rfl h17) (stp_not rfl ?_)
        refine sx rfl (stp_pick_f (v := .bool (!(inB p.most 1 5))) ((rfl : _ = (.bool (!(inB p.prio 0 9)) : Value)).trans (congrArg Value.bool h17)) rfl ?_)
        refine sx rfl (stp_move (v := .bool (!(inB p.most 1 5))) rfl ?_)
        rcases bd (!(inB p.most 1 5)) with h22 | h22
        · skip
          have h22p := inB_iff'.1 (bnot_f h22)
          refine sx_on (j := 22) (dd := 31) rfl rfl (by decide) (yl_on (e := !(inB p.most 1 5)) rfl h22) (stp_fieldAddr fa_Plan_2 rfl ?_)
          refine sx_on (j := 22) (dd := 31) rfl rfl (by decide) (yl_on (e := !(inB p.most 1 5)) rfl h22) (stp_load_bx ld_int rfl rfl (st20.get 0 rfl) (i := 2) rfl rfl ?_)
          refine sx_on (j := 22) (dd := 31) rfl rfl (by decide) (yl_on (e := !(inB p.most 1 5)) rfl h22) (stp_call3 Tryz.func47 rfl rfl rfl rfl ((within_n W18 p.wait 1 20).mono ?_)); rintro _ W23 ⟨rfl, hk24⟩; refine ⟨_, rfl, ?_⟩
          have st25 := St.call st20 hk24
          refine sx_on (j := 22) (dd := 31) rfl rfl (by decide) (yl_on (e := !(inB p.most 1 5)) rfl h22) (stp_not rfl ?_)
          refine sx rfl (stp_pick_f (v := .bool (!(inB p.wait 1 20))) ((rfl : _ = (.bool (!(inB p.most 1 5)) : Value)).trans (congrArg Value.bool h22)) rfl ?_)
          refine sx_nil ?_
          refine sx_if rfl (fun h27 => ?_) (fun h27 => ?_)
          · skip
            have h27p := inB_not (bnot_t h27)
            refine wp_seq ?_
            refine sx_region ?_
            refine sx rfl (stp_assign (v := I 1) rfl ?_)
            refine sx_nil ?_
            refine wp_ret ?_; repeat (first | refine then_ret ?_ | refine blk_ret ?_)
            refine ret1 Tryz.results160 rfl ?_
            exact ⟨(congrArg (fun z => Ending.returned (I z)) (by rw [pf1 (by unfold planMany; omega)])), st25.bare⟩
          · skip
            have h27p := inB_iff'.1 (bnot_f h27)
            refine wp_skip ?_
            refine wp_seq ?_
            refine wp_seq ?_
            refine sx_region ?_
            have hM : ¬ planMany p := by unfold planMany; omega
            have hMb := pM hM
            refine sx rfl (stp_fieldAddr fa_Plan_4 rfl ?_)
            refine sx rfl (stp_load_bx ld_EdgeS rfl rfl (st25.get 0 rfl) (i := 4) rfl rfl ?_)
            refine sx rfl (stp_len sl_EdgeS rfl h6_0 ?_)
            refine sx rfl (stp_move (v := I 0) rfl ?_)
            refine sx_nil ?_
            refine wp_block ?_
            refine sx_loop (fun (m : Nat) (f : Nat → Value) (W : World) => ∃ (k : Nat), k ≤ p.edges.length ∧ EdgesIn p.tasks.toNat (p.edges.take k) ∧ m = p.edges.length - k ∧ f 1 = .pointer (some ⟨b1, 0, none⟩) ∧ f 38 = v6_0 ∧ f 39 = I (p.edges.length : Int) ∧ f 40 = I (k : Int) ∧ St w W ([Res.bx b1 [I p.prio, I p.most, I p.wait, I p.tasks, v6_0] 106])) (p.edges.length - 0) ?_ ?_
            · exact ⟨0, (by omega), EdgesIn.nil, rfl, rfl, rfl, rfl, rfl, st25⟩
            intro m28 f29 W30 hJ31
            obtain ⟨k, hk, hEk, rfl, hs33_1, hs33_38, hs33_39, hs33_40, st32⟩ := hJ31
            refine wp_seq ?_
            refine sx_region ?_
            refine sx rfl (stp_lss hs33_40 hs33_39 ?_)
            refine sx_nil ?_
            refine wp_seq ?_
            refine sx_if rfl (fun h34 => ?_) (fun h34 => ?_)
            · skip
              have h34p := of_decide_eq_true h34
              refine wp_skip ?_
              refine wp_seq ?_
              refine wp_block ?_
              refine wp_seq ?_
              refine sx_region ?_
              have hiab516 : k < p.edges.length := (by omega)
              have hq_ := idx h6_0 (i := k) hiab516
              obtain ⟨b35, o35, cs35, f35, hp35, hr35, hc35, hm35⟩ := hq_
              refine sx rfl (stp_indexAddr sl_EdgeS hs33_38 hp35 hs33_40 rfl ?_)
              refine sx rfl (stp_load_rga ld_Edge rfl rfl hr35 st32.below (Shape.len hc35) ?_)
              refine sx rfl (stp_alloc zz_Edge st32 ?_); intro b36 W37 hb38 st39
              refine sx rfl (stp_store_all (cs := cs35) ld_Edge hc35 rfl rfl st39 rfl ?_); intro W41 st42
              refine sx_nil ?_
              refine wp_seq ?_
              refine sx_region ?_
              refine sx rfl (stp_fieldAddr fa_Edge_0 rfl ?_)
              have hk43 := hc35
              obtain ⟨he43, rfl, hok43⟩ := hk43
              have he43 : _ = [I (p.edges[k]'hiab516).from_, I (p.edges[k]'hiab516).to_] := he43
              subst he43
              refine sx rfl (stp_load_bx ld_int rfl rfl (st42.get 0 rfl) (i := 0) rfl rfl ?_)
              refine sx rfl (stp_fieldAddr fa_Plan_3 hs33_1 ?_)
              refine sx rfl (stp_load_bx ld_int rfl rfl (st42.get 1 rfl) (i := 3) rfl rfl ?_)
              refine sx rfl (stp_sub rfl rfl (by (simp only [I64] at *; omega)) ?_)
              refine sx rfl (stp_call3 Tryz.func47 rfl rfl rfl rfl ((within_n W41 (p.edges[k]'hiab516).from_ 0 (p.tasks - 1)).mono ?_)); rintro _ W44 ⟨rfl, hk45⟩; refine ⟨_, rfl, ?_⟩
              have st46 := St.call st42 hk45
              refine sx rfl (stp_not rfl ?_)
              refine sx rfl (stp_move (v := .bool (!(inB (p.edges[k]'hiab516).from_ 0 (p.tasks - 1)))) rfl ?_)
              rcases bd (!(inB (p.edges[k]'hiab516).from_ 0 (p.tasks - 1))) with h48 | h48
              · skip
                have h48p := inB_iff'.1 (bnot_f h48)
                refine sx_on (j := 7) (dd := 51) rfl rfl (by decide) (yl_on (e := !(inB (p.edges[k]'hiab516).from_ 0 (p.tasks - 1))) rfl h48) (stp_fieldAddr fa_Edge_1 rfl ?_)
                refine sx_on (j := 7) (dd := 51) rfl rfl (by decide) (yl_on (e := !(inB (p.edges[k]'hiab516).from_ 0 (p.tasks - 1))) rfl h48) (stp_load_bx ld_int rfl rfl (st46.get 0 rfl) (i := 1) rfl rfl ?_)
                refine sx_on (j := 7) (dd := 51) rfl rfl (by decide) (yl_on (e := !(inB (p.edges[k]'hiab516).from_ 0 (p.tasks - 1))) rfl h48) (stp_fieldAddr fa_Plan_3 hs33_1 ?_)
                refine sx_on (j := 7) (dd := 51) rfl rfl (by decide) (yl_on (e := !(inB (p.edges[k]'hiab516).from_ 0 (p.tasks - 1))) rfl h48) (stp_load_bx ld_int rfl rfl (st46.get 1 rfl) (i := 3) rfl rfl ?_)
                refine sx_on (j := 7) (dd := 51) rfl rfl (by decide) (yl_on (e := !(inB (p.edges[k]'hiab516).from_ 0 (p.tasks - 1))) rfl h48) (stp_sub rfl rfl (by (simp only [I64] at *; omega)) ?_)
                refine sx_on (j := 7) (dd := 51) rfl rfl (by decide) (yl_on (e := !(inB (p.edges[k]'hiab516).from_ 0 (p.tasks - 1))) rfl h48) (stp_call3 Tryz.func47 rfl rfl rfl rfl ((within_n W44 (p.edges[k]'hiab516).to_ 0 (p.tasks - 1)).mono ?_)); rintro _ W49 ⟨rfl, hk50⟩; refine ⟨_, rfl, ?_⟩
                have st51 := St.call st46 hk50
                refine sx_on (j := 7) (dd := 51) rfl rfl (by decide) (yl_on (e := !(inB (p.edges[k]'hiab516).from_ 0 (p.tasks - 1))) rfl h48) (stp_not rfl ?_)
                refine sx rfl (stp_pick_f (v := .bool (!(inB (p.edges[k]'hiab516).to_ 0 (p.tasks - 1)))) ((rfl : _ = (.bool (!(inB (p.edges[k]'hiab516).from_ 0 (p.tasks - 1))) : Value)).trans (congrArg Value.bool h48)) rfl ?_)
                refine sx_nil ?_
                refine sx_if rfl (fun h53 => ?_) (fun h53 => ?_)
                · skip
                  have h53p := inB_not (bnot_t h53)
                  refine wp_seq ?_
                  refine sx_region ?_
                  refine sx rfl (stp_assign (v := I 2) rfl ?_)
                  refine sx_nil ?_
                  refine wp_ret ?_; repeat (first | refine then_ret ?_ | refine blk_ret ?_)
                  refine ret1 Tryz.results160 rfl ?_
                  have hnE : ¬ EdgesIn p.tasks.toNat p.edges := fun hE => by have hea := hE.at (k := k) (by omega); omega
                  exact ⟨(congrArg (fun z => Ending.returned (I z)) (by rw [pf2 hM hnE])), st51.bare⟩
                · skip
                  have h53p := inB_iff'.1 (bnot_f h53)
                  refine wp_skip ?_
                  refine sx_region ?_
                  refine sx rfl (stp_add hs33_40 rfl (by (simp only [I64] at *; omega)) ?_)
                  refine sx rfl (stp_move (v := I ((k : Int) + 1)) rfl ?_)
                  refine sx_nil ?_
                  have st54 := st51.f1
                  have st55 := st54.d1
                  exact ⟨_, p.edges.length - (k + 1), (by omega), rfl, k + 1, (by omega), (hEk.step (by omega) (by omega)), rfl, hs33_1, hs33_38, hs33_39, rfl, st55⟩
              · skip
                have h48p := inB_not (bnot_t h48)
                iterate 7 refine sx_off (j := 7) (dd := 51) rfl rfl (by decide) (yl_off (e := !(inB (p.edges[k]'hiab516).from_ 0 (p.tasks - 1))) rfl h48) ?_
                refine sx rfl (stp_pick_t (v := .bool true) ((rfl : _ = (.bool (!(inB (p.edges[k]'hiab516).from_ 0 (p.tasks - 1))) : Value)).trans (congrArg Value.bool h48)) rfl ?_)
                refine sx_nil ?_
                refine sx_t rfl rfl ?_
                refine wp_seq ?_
                refine sx_region ?_
                refine sx rfl (stp_assign (v := I 2) rfl ?_)
                refine sx_nil ?_
                refine wp_ret ?_; repeat (first | refine then_ret ?_ | refine blk_ret ?_)
                refine ret1 Tryz.results160 rfl ?_
                have hnE : ¬ EdgesIn p.tasks.toNat p.edges := fun hE => by have hea := hE.at (k := k) (by omega); omega
                exact ⟨(congrArg (fun z => Ending.returned (I z)) (by rw [pf2 hM hnE])), st46.bare⟩
            · skip
              have h34p := of_decide_eq_false h34
              refine wp_exit ?_
              refine wp_seq ?_
              refine wp_seq ?_
              refine sx_region ?_
              have hE : EdgesIn p.tasks.toNat p.edges := by rw [show k = p.edges.length by omega, List.take_length] at hEk; exact hEk
              refine sx rfl (stp_fieldAddr fa_Plan_4 hs33_1 ?_)
              refine sx rfl (stp_load_bx ld_EdgeS rfl rfl (st32.get 0 rfl) (i := 4) rfl rfl ?_)
              refine sx rfl (stp_len sl_EdgeS rfl h6_0 ?_)
              refine sx rfl (stp_move (v := I 0) rfl ?_)
              refine sx_nil ?_
              refine wp_block ?_
              refine sx_loop (fun (m : Nat) (f : Nat → Value) (W : World) => ∃ (k2 : Nat), k2 ≤ p.edges.length ∧ (p.edges.take k2).Nodup ∧ m = p.edges.length - k2 ∧ f 1 = .pointer (some ⟨b1, 0, none⟩) ∧ f 62 = v6_0 ∧ f 63 = I (p.edges.length : Int) ∧ f 64 = I (k2 : Int) ∧ St w W ([Res.bx b1 [I p.prio, I p.most, I p.wait, I p.tasks, v6_0] 106])) (p.edges.length - 0) ?_ ?_
              · exact ⟨0, (by omega), List.nodup_nil, rfl, hs33_1, rfl, rfl, rfl, st32⟩
              intro m56 f57 W58 hJ59
              obtain ⟨k2, hk2, hNk, rfl, hs61_1, hs61_62, hs61_63, hs61_64, st60⟩ := hJ59
              refine wp_seq ?_
              refine sx_region ?_
              refine sx rfl (stp_lss hs61_64 hs61_63 ?_)
              refine sx_nil ?_
              refine wp_seq ?_
              refine sx_if rfl (fun h62 => ?_) (fun h62 => ?_)
              · skip
                have h62p := of_decide_eq_true h62
                refine wp_skip ?_
                refine wp_seq ?_
                refine wp_block ?_
                refine wp_seq ?_
                refine sx_region ?_
                refine sx rfl (stp_move (v := I (k2 : Int)) hs61_64 ?_)
                have hi9adb2 : k2 < p.edges.length := (by omega)
                have hq_ := idx h6_0 (i := k2) hi9adb2
                obtain ⟨b63, o63, cs63, f63, hp63, hr63, hc63, hm63⟩ := hq_
                refine sx rfl (stp_indexAddr sl_EdgeS hs61_62 hp63 hs61_64 rfl ?_)
                refine sx rfl (stp_load_rga ld_Edge rfl rfl hr63 st60.below (Shape.len hc63) ?_)
                refine sx rfl (stp_alloc zz_Edge st60 ?_); intro b64 W65 hb66 st67
                refine sx rfl (stp_assign (v := I (k2 : Int)) rfl ?_)
                refine sx rfl (stp_store_all (cs := cs63) ld_Edge hc63 rfl rfl st67 rfl ?_); intro W69 st70
                refine sx_nil ?_
                refine wp_seq ?_
                refine sx_any [Pl.is (.pointer (some ⟨b1, 0 + 4, none⟩)), Pl.is (v6_0) (Sl.yl h6_0), Pl.is (I (k2 : Int)), Pl.ssl (α := Edge) (p.edges.take k2), Pl.is (.agg cs63.toArray), Pl.bool (decide ((p.edges[k2]'hi9adb2) ∈ (p.edges.take k2)))] mix (by rfl) st70 ⟨(fun f W hst hbl hd hf => stp_fieldAddr fa_Plan_4 ((hf 1 rfl).trans hs61_1) ⟨Below.refl _ _, rfl⟩), (fun f W hst hbl hd hf => stp_load_bx ld_EdgeS rfl (hd 0 69 rfl rfl) (hst.get 1 rfl) (i := 4) rfl rfl ⟨Below.refl _ _, rfl⟩), (fun f W hst hbl hd hf => stp_move (v := I (k2 : Int)) ((hf 5 rfl).trans (show _ = I (k2 : Int) from rfl)) ⟨Below.refl _ _, rfl⟩), (fun f W hst hbl hd hf => stp_slice_h (h := k2) sl_EdgeS (hd 1 70 rfl rfl) h6_0 (hd 2 71 rfl rfl) rfl (by omega) (fun v_ g_ h_ hm_ => ⟨Below.refl _ _, g_, h_.below hst.below⟩)), (fun f W hst hbl hd hf => stp_load_bxa ld_Edge rfl ((hf 6 rfl).trans (show _ = (.pointer (some ⟨b64, 0, none⟩) : Value) from rfl)) (hst.get 0 rfl) (Shape.len hc63) ⟨Below.refl _ _, rfl⟩), (fun f W hst hbl hd hf => by obtain ⟨fp71, h71⟩ := hd 3 72 rfl rfl; exact stp_call2 Tryz.func215 rfl rfl (hd 4 73 rfl rfl) ((ContE W h71 hc63).mono (by rintro e W2 ⟨rfl, hk⟩; exact ⟨_, rfl, hk.below, rfl⟩))), trivial⟩ ?_
                intro f72 W73 st74 hb75 hv76 hf77
                refine sx_if (hv76 5 74 (by decide) rfl) (fun h78 => ?_) (fun h78 => ?_)
                · skip
                  have h78p := of_decide_eq_true h78
                  refine wp_seq ?_
                  refine sx_region ?_
                  refine sx rfl (stp_assign (v := I 3) rfl ?_)
                  refine sx_nil ?_
                  refine wp_ret ?_; repeat (first | refine then_ret ?_ | refine blk_ret ?_)
                  refine ret1 Tryz.results160 rfl ?_
                  have hnN : ¬ p.edges.Nodup := not_nodup_at (k := k2) (by omega) (by assumption)
                  exact ⟨(congrArg (fun z => Ending.returned (I z)) (by rw [pf3 hM hE hnN])), st74.bare⟩
                · skip
                  have h78p := of_decide_eq_false h78
                  refine wp_skip ?_
                  refine sx_region ?_
                  refine sx rfl (stp_add ((hf77 64 rfl).trans hs61_64) rfl (by (simp only [I64] at *; omega)) ?_)
                  refine sx rfl (stp_move (v := I ((k2 : Int) + 1)) rfl ?_)
                  refine sx_nil ?_
                  have st79 := st74.f1
                  have st80 := st79.d1
                  exact ⟨_, p.edges.length - (k2 + 1), (by omega), rfl, k2 + 1, (by omega), (nodup_step hNk (by omega) (by assumption)), rfl, ((hf77 1 rfl).trans hs61_1), ((hf77 62 rfl).trans hs61_62), ((hf77 63 rfl).trans hs61_63), rfl, st80⟩
              · skip
                have h62p := of_decide_eq_false h62
                refine wp_exit ?_
                refine wp_seq ?_
                refine wp_seq ?_
                refine sx_region ?_
                have hN : p.edges.Nodup := by rw [show k2 = p.edges.length by omega, List.take_length] at hNk; exact hNk
                refine sx rfl (stp_load_bxs (cs := [I p.prio, I p.most, I p.wait, I p.tasks, v6_0]) ld_Plan rfl hs61_1 (st60.get 0 rfl) rfl rfl ?_)
                refine sx rfl (stp_call1 Tryz.func216 rfl rfl ((WaitsI W58 (C_below hc st60.below) (by omega) (by omega) hE).mono ?_)); rintro _ W83 ⟨v81, fp81, rfl, hk84⟩; refine ⟨_, rfl, ?_⟩
                have st85 := St.call st60 hk84
                have hwl : (castL (relaxN p.edges (List.replicate p.tasks.toNat 0) p.tasks.toNat)).length = p.tasks.toNat := by rw [castL_len, relaxN_len, List.length_replicate]
                have hbd := relaxN_bd (n := p.tasks.toNat) (by omega) hE p.tasks.toNat
                refine sx rfl (stp_len sl_IntS rfl (own_Sl (st85.get 0 rfl)) ?_)
                refine sx rfl (stp_move (v := I 0) rfl ?_)
                refine sx_nil ?_
                refine wp_block ?_
                refine sx_loop (fun (m : Nat) (f : Nat → Value) (W : World) => ∃ (k3 : Nat), k3 ≤ p.tasks.toNat ∧ (∀ t : Nat, t < k3 → ¬ Rch p.edges (t : Int) (t : Int)) ∧ m = p.tasks.toNat - k3 ∧ f 77 = v81 ∧ f 78 = I ((castL (relaxN p.edges (List.replicate p.tasks.toNat 0) p.tasks.toNat)).length : Int) ∧ f 79 = I (k3 : Int) ∧ St w W ([Res.own (α := List Int) v81 (castL (relaxN p.edges (List.replicate p.tasks.toNat 0) p.tasks.toNat)) fp81, Res.bx b1 [I p.prio, I p.most, I p.wait, I p.tasks, v6_0] 106])) (p.tasks.toNat - 0) ?_ ?_
                · exact ⟨0, (by omega), (fun t ht => absurd ht (Nat.not_lt_zero t)), rfl, rfl, rfl, rfl, st85⟩
                intro m87 f88 W89 hJ90
                obtain ⟨k3, hk3, hW, rfl, hs92_77, hs92_78, hs92_79, st91⟩ := hJ90
                refine wp_seq ?_
                refine sx_region ?_
                refine sx rfl (stp_lss hs92_79 hs92_78 ?_)
                refine sx_nil ?_
                refine wp_seq ?_
                refine sx_if rfl (fun h93 => ?_) (fun h93 => ?_)
                · skip
                  have h93p := of_decide_eq_true h93
                  refine wp_skip ?_
                  refine wp_seq ?_
                  refine wp_block ?_
                  refine wp_seq ?_
                  refine sx_region ?_
                  refine sx rfl (stp_move (v := I (k3 : Int)) hs92_79 ?_)
                  have hie76f8 : k3 < (castL (relaxN p.edges (List.replicate p.tasks.toNat 0) p.tasks.toNat)).length := (by omega)
                  have hq_ := idx (own_Sl (st91.get 0 rfl)) (i := k3) hie76f8
                  obtain ⟨b94, o94, cs94, f94, hp94, hr94, hc94, hm94⟩ := hq_
                  have hk94 := hc94
                  obtain ⟨rfl, rfl, hok94⟩ := hk94
                  refine sx rfl (stp_indexAddr sl_IntS hs92_77 hp94 hs92_79 rfl ?_)
                  refine sx rfl (stp_load_rg ld_int rfl rfl hr94 (Below.refl _ _) (i := 0) rfl rfl ?_)
                  refine sx rfl (stp_assign (v := I (k3 : Int)) rfl ?_)
                  refine sx rfl (stp_assign (v := I ((castL (relaxN p.edges (List.replicate p.tasks.toNat 0) p.tasks.toNat))[k3]'hie76f8)) rfl ?_)
                  refine sx_nil ?_
                  refine wp_seq ?_
                  refine sx_region ?_
                  refine sx rfl (stp_move (v := I ((castL (relaxN p.edges (List.replicate p.tasks.toNat 0) p.tasks.toNat))[k3]'hie76f8)) rfl ?_)
                  refine sx rfl (stp_move (v := I (k3 : Int)) rfl ?_)
                  refine sx rfl (stp_shrI rfl rfl (castL_rng hbd _ _).1 (by omega) ?_)
                  refine sx rfl (stp_andI rfl rfl (shrI_rng (castL_rng hbd _ _)) (by omega) ?_)
                  refine sx rfl (stp_eql rfl rfl ?_)
                  refine sx_nil ?_
                  refine sx_if rfl (fun h95 => ?_) (fun h95 => ?_)
                  · skip
                    have h95p := of_decide_eq_true h95
                    refine wp_seq ?_
                    refine sx_region ?_
                    refine sx rfl (stp_assign (v := I 4) rfl ?_)
                    refine sx_nil ?_
                    refine wp_ret ?_; repeat (first | refine then_ret ?_ | refine blk_ret ?_)
                    refine ret1 Tryz.results160 rfl ?_
                    have hC : planCyc p := ⟨k3, (by omega), (waits_bit hE (by omega) _).1 (by assumption)⟩
                    exact ⟨(congrArg (fun z => Ending.returned (I z)) (by rw [pf4 hM hE hN hC])), st91.bare⟩
                  · skip
                    have h95p := of_decide_eq_false h95
                    refine wp_skip ?_
                    refine sx_region ?_
                    refine sx rfl (stp_add hs92_79 rfl (by (simp only [I64] at *; omega)) ?_)
                    refine sx rfl (stp_move (v := I ((k3 : Int) + 1)) rfl ?_)
                    refine sx_nil ?_
                    exact ⟨_, p.tasks.toNat - (k3 + 1), (by omega), rfl, k3 + 1, (by omega), (fun t ht => by rcases Nat.lt_succ_iff_lt_or_eq.1 ht with h1 | rfl; exact hW t h1; exact fun hr => absurd ((waits_bit hE (by omega) _).2 hr) h95p), rfl, hs92_77, hs92_78, rfl, st91⟩
                · skip
                  have h93p := of_decide_eq_false h93
                  refine wp_exit ?_
                  refine wp_seq ?_
                  refine sx_region ?_
                  refine sx rfl (stp_assign (v := I 0) rfl ?_)
                  refine sx_nil ?_
                  refine wp_ret ?_; repeat (first | refine then_ret ?_ | refine blk_ret ?_)
                  refine ret1 Tryz.results160 rfl ?_
                  have hC : ¬ planCyc p := by rintro ⟨t, ht, hr⟩; exact hW t (by omega) hr
                  exact ⟨(congrArg (fun z => Ending.returned (I z)) (by rw [pf0 hM hE hN hC])), st91.bare⟩
        · skip
          have h22p := inB_not (bnot_t h22)
          iterate 4 refine sx_off (j := 22) (dd := 31) rfl rfl (by decide) (yl_off (e := !(inB p.most 1 5)) rfl h22) ?_
          refine sx rfl (stp_pick_t (v := .bool true) ((rfl : _ = (.bool (!(inB p.most 1 5)) : Value)).trans (congrArg Value.bool h22)) rfl ?_)
          refine sx_nil ?_
          refine sx_t rfl rfl ?_
          refine wp_seq ?_
          refine sx_region ?_
          refine sx rfl (stp_assign (v := I 1) rfl ?_)
          refine sx_nil ?_
          refine wp_ret ?_; repeat (first | refine then_ret ?_ | refine blk_ret ?_)
          refine ret1 Tryz.results160 rfl ?_
          exact ⟨(congrArg (fun z => Ending.returned (I z)) (by rw [pf1 (by unfold planMany; omega)])), st20.bare⟩
      · skip
        have h17p := inB_not (bnot_t h17)
        iterate 4 refine sx_off (j := 16) (dd := 25) rfl rfl (by decide) (yl_off (e := !(inB p.prio 0 9)) rfl h17) ?_
        refine sx rfl (stp_pick_t (v := .bool true) ((rfl : _ = (.bool (!(inB p.prio 0 9)) : Value)).trans (congrArg Value.bool h17)) rfl ?_)
        refine sx rfl (stp_move (v := .bool true) rfl ?_)
        iterate 4 refine sx_off (j := 22) (dd := 31) rfl rfl (by decide) (yl_off (e := true) rfl rfl) ?_
        refine sx rfl (stp_pick_t (v := .bool true) rfl rfl ?_)
        refine sx_nil ?_
        refine sx_t rfl rfl ?_
        refine wp_seq ?_
        refine sx_region ?_
        refine sx rfl (stp_assign (v := I 1) rfl ?_)
        refine sx_nil ?_
        refine wp_ret ?_; repeat (first | refine then_ret ?_ | refine blk_ret ?_)
        refine ret1 Tryz.results160 rfl ?_
        exact ⟨(congrArg (fun z => Ending.returned (I z)) (by rw [pf1 (by unfold planMany; omega)])), st15.bare⟩
    · skip
      have h12p := of_decide_eq_true h12
      iterate 4 refine sx_off (j := 10) (dd := 19) rfl rfl (by decide) (yl_off (e := decide (30 < (p.edges.length : Int))) rfl h12) ?_
      refine sx rfl (stp_pick_t (v := .bool true) ((rfl : _ = (.bool (decide (30 < (p.edges.length : Int))) : Value)).trans (congrArg Value.bool h12)) rfl ?_)
      refine sx rfl (stp_move (v := .bool true) rfl ?_)
      iterate 4 refine sx_off (j := 16) (dd := 25) rfl rfl (by decide) (yl_off (e := true) rfl rfl) ?_
      refine sx rfl (stp_pick_t (v := .bool true) rfl rfl ?_)
      refine sx rfl (stp_move (v := .bool true) rfl ?_)
      iterate 4 refine sx_off (j := 22) (dd := 31) rfl rfl (by decide) (yl_off (e := true) rfl rfl) ?_
      refine sx rfl (stp_pick_t (v := .bool true) rfl rfl ?_)
      refine sx_nil ?_
      refine sx_t rfl rfl ?_
      refine wp_seq ?_
      refine sx_region ?_
      refine sx rfl (stp_assign (v := I 1) rfl ?_)
      refine sx_nil ?_
      refine wp_ret ?_; repeat (first | refine then_ret ?_ | refine blk_ret ?_)
      refine ret1 Tryz.results160 rfl ?_
      exact ⟨(congrArg (fun z => Ending.returned (I z)) (by rw [pf1 (by unfold planMany; omega)])), st9.bare⟩
  · skip
    have h11p := inB_not (bnot_t h11)
    iterate 4 refine sx_off (j := 4) (dd := 13) rfl rfl (by decide) (yl_off (e := !(inB p.tasks 1 12)) rfl h11) ?_
    refine sx rfl (stp_pick_t (v := .bool true) ((rfl : _ = (.bool (!(inB p.tasks 1 12)) : Value)).trans (congrArg Value.bool h11)) rfl ?_)
    refine sx rfl (stp_move (v := .bool true) rfl ?_)
    iterate 4 refine sx_off (j := 10) (dd := 19) rfl rfl (by decide) (yl_off (e := true) rfl rfl) ?_
    refine sx rfl (stp_pick_t (v := .bool true) rfl rfl ?_)
    refine sx rfl (stp_move (v := .bool true) rfl ?_)
    iterate 4 refine sx_off (j := 16) (dd := 25) rfl rfl (by decide) (yl_off (e := true) rfl rfl) ?_
    refine sx rfl (stp_pick_t (v := .bool true) rfl rfl ?_)
    refine sx rfl (stp_move (v := .bool true) rfl ?_)
    iterate 4 refine sx_off (j := 22) (dd := 31) rfl rfl (by decide) (yl_off (e := true) rfl rfl) ?_
    refine sx rfl (stp_pick_t (v := .bool true) rfl rfl ?_)
    refine sx_nil ?_
    refine sx_t rfl rfl ?_
    refine wp_seq ?_
    refine sx_region ?_
    refine sx rfl (stp_assign (v := I 1) rfl ?_)
    refine sx_nil ?_
    refine wp_ret ?_; repeat (first | refine then_ret ?_ | refine blk_ret ?_)
    refine ret1 Tryz.results160 rfl ?_
    exact ⟨(congrArg (fun z => Ending.returned (I z)) (by rw [pf1 (by unfold planMany; omega)])), st9.bare⟩
set_option maxHeartbeats 2000000 in
theorem PlanFaultS (w : World) {p : Plan} {cs : List Value} {fp : List Nat} (hc : Shape.C w cs p fp) :
    Calls Tryz.prog 155 #[.agg cs.toArray] w fun e w' => e = .returned (I (planFault p)) ∧ St w w' [] := by
  refine enter1 Tryz.func155 rfl Tryz.ntmps155 (by decide) ?_
  refine wp_seq ?_
  refine sx_region ?_
  refine sx rfl (stp_box_agg (cs := cs) rfl (St.start w) ?_); intro b1 W2 hb3 st4
  refine sx rfl (stp_assign (v := I 0) rfl ?_)
  refine sx_nil ?_
  refine wp_seq ?_
  refine wp_seq ?_
  refine sx_region ?_
  refine sx rfl (stp_load_bxa ld_Plan rfl rfl (st4.get 0 rfl) (Shape.len hc) ?_)
  refine sx rfl (stp_call1 Tryz.func212 rfl rfl ((ManyS W2 (C_below hc st4.below)).mono ?_)); rintro _ W6 ⟨rfl, hk7⟩; refine ⟨_, rfl, ?_⟩
  have st8 := St.call st4 hk7
  refine sx_nil ?_
  refine sx_if rfl (fun h10 => ?_) (fun h10 => ?_)
  · skip
    refine wp_seq ?_
    refine sx_region ?_
    refine sx rfl (stp_assign (v := I 1) rfl ?_)
    refine sx_nil ?_
    refine wp_ret ?_; repeat (first | refine then_ret ?_ | refine blk_ret ?_)
    refine ret1 Tryz.results155 rfl ?_
    exact ⟨(congrArg (fun z => Ending.returned (I z)) (by rw [pf1 (pB_iff.1 (by assumption))])), st8.bare⟩
  · skip
    refine wp_skip ?_
    refine wp_seq ?_
    refine wp_seq ?_
    refine sx_region ?_
    have hM : ¬ planMany p := fun hm => by rw [pB_t hm] at h10; cases h10
    have hMb := pM hM
    refine sx rfl (stp_assign (v := I 0) rfl ?_)
    refine sx_nil ?_
    refine wp_block ?_
    refine sx_loop (fun (m : Nat) (f : Nat → Value) (W : World) => ∃ (k : Nat), k ≤ p.edges.length ∧ EdgesIn p.tasks.toNat (p.edges.take k) ∧ m = p.edges.length - k ∧ f 1 = .pointer (some ⟨b1, 0, none⟩) ∧ f 3 = I (k : Int) ∧ St w W ([Res.bx b1 cs 106])) (p.edges.length - 0) ?_ ?_
    · exact ⟨0, (by omega), EdgesIn.nil, rfl, rfl, rfl, st8⟩
    intro m11 f12 W13 hJ14
    obtain ⟨k, hk, hEk, rfl, hs16_1, hs16_3, st15⟩ := hJ14
    refine wp_seq ?_
    refine wp_seq ?_
    refine sx_region ?_
    refine sx rfl (stp_move (v := I (k : Int)) hs16_3 ?_)
    refine sx rfl (stp_fieldAddr fa_Plan_4 hs16_1 ?_)
    have hk17 := hc
    obtain ⟨v17_0, g17_0, rfl, hok17, h17_0, rfl⟩ := hk17
    refine sx rfl (stp_load_bx ld_EdgeS rfl rfl (st15.get 0 rfl) (i := 4) rfl rfl ?_)
    refine sx rfl (stp_len sl_EdgeS rfl h17_0 ?_)
    refine sx rfl (stp_lss rfl rfl ?_)
    refine sx_nil ?_
    refine sx_if rfl (fun h18 => ?_) (fun h18 => ?_)
    · skip
      have h18p := of_decide_eq_true h18
      refine wp_skip ?_
      refine wp_seq ?_
      refine wp_block ?_
      refine wp_seq ?_
      have hiab516 : k < p.edges.length := (by omega)
      rcases bd (!(inB (p.edges[k]'hiab516).from_ 0 (p.tasks - 1))) with h21 | h21
      · skip
        have h21p := inB_iff'.1 (bnot_f h21)
        have hiab516 : k < p.edges.length := (by omega)
        have hq_ := idx h17_0 (i := k) hiab516
        obtain ⟨b22, o22, cs22, f22, hp22, hr22, hc22, hm22⟩ := hq_
        have hk23 := hc22
        obtain ⟨he23, rfl, hok23⟩ := hk23
        have he23 : _ = [I (p.edges[k]'hiab516).from_, I (p.edges[k]'hiab516).to_] := he23
        subst he23
        refine sx_any [Pl.is (.pointer (some ⟨b1, 0 + 4, none⟩)), Pl.is (v17_0) (Sl.yl h17_0), Pl.is (I (k : Int)), Pl.is (.pointer (some ⟨b22, o22, none⟩)), Pl.is (.pointer (some ⟨b22, o22 + 0, none⟩)), Pl.is (I (p.edges[k]'hiab516).from_), Pl.is (.pointer (some ⟨b1, 0 + 3, none⟩)), Pl.is (I p.tasks), Pl.is (I (p.tasks - 1)), Pl.bool (inB (p.edges[k]'hiab516).from_ 0 (p.tasks - 1)), Pl.bool false, Pl.bool false, Pl.is (.pointer (some ⟨b1, 0 + 4, none⟩)), Pl.is (v17_0) (Sl.yl h17_0), Pl.is (I (k : Int)), Pl.is (.pointer (some ⟨b22, o22, none⟩)), Pl.is (.pointer (some ⟨b22, o22 + 1, none⟩)), Pl.is (I (p.edges[k]'hiab516).to_), Pl.is (.pointer (some ⟨b1, 0 + 3, none⟩)), Pl.is (I p.tasks), Pl.is (I (p.tasks - 1)), Pl.bool (inB (p.edges[k]'hiab516).to_ 0 (p.tasks - 1)), Pl.bool (!(inB (p.edges[k]'hiab516).to_ 0 (p.tasks - 1))), Pl.bool (!(inB (p.edges[k]'hiab516).to_ 0 (p.tasks - 1)))] mix (by rfl) st15 ⟨(fun f W hst hbl hd hf => stp_fieldAddr fa_Plan_4 ((hf 1 rfl).trans hs16_1) ⟨Below.refl _ _, rfl⟩), (fun f W hst hbl hd hf => stp_load_bx ld_EdgeS rfl (hd 0 16 rfl rfl) (hst.get 0 rfl) (i := 4) rfl rfl ⟨Below.refl _ _, rfl⟩), (fun f W hst hbl hd hf => stp_move (v := I (k : Int)) ((hf 3 rfl).trans hs16_3) ⟨Below.refl _ _, rfl⟩), (fun f W hst hbl hd hf => stp_indexAddr sl_EdgeS (hd 1 17 rfl rfl) hp22 (hd 2 18 rfl rfl) rfl ⟨Below.refl _ _, rfl⟩), (fun f W hst hbl hd hf => stp_fieldAddr fa_Edge_0 (hd 3 19 rfl rfl) ⟨Below.refl _ _, rfl⟩), (fun f W hst hbl hd hf => stp_load_rg ld_int rfl (hd 4 20 rfl rfl) hr22 hst.below (i := 0) rfl rfl ⟨Below.refl _ _, rfl⟩), (fun f W hst hbl hd hf => stp_fieldAddr fa_Plan_3 ((hf 1 rfl).trans hs16_1) ⟨Below.refl _ _, rfl⟩), (fun f W hst hbl hd hf => stp_load_bx ld_int rfl (hd 6 22 rfl rfl) (hst.get 0 rfl) (i := 3) rfl rfl ⟨Below.refl _ _, rfl⟩), (fun f W hst hbl hd hf => stp_sub (hd 7 23 rfl rfl) rfl (by (simp only [I64] at *; omega)) ⟨Below.refl _ _, rfl⟩), (fun f W hst hbl hd hf => stp_call3 Tryz.func43 rfl (hd 5 21 rfl rfl) rfl (hd 8 24 rfl rfl) ((l01In_n W (p.edges[k]'hiab516).from_ 0 (p.tasks - 1)).mono (by rintro e W2 ⟨rfl, hk⟩; exact ⟨_, rfl, hk.below, rfl⟩))), (fun f W hst hbl hd hf => stp_not (hd 9 25 rfl rfl) ⟨Below.refl _ _, congrArg Value.bool h21⟩), (fun f W hst hbl hd hf => stp_move (v := .bool false) (hd 10 26 rfl rfl) ⟨Below.refl _ _, rfl⟩), (fun f W hst hbl hd hf => stp_fieldAddr fa_Plan_4 ((hf 1 rfl).trans hs16_1) ⟨Below.refl _ _, rfl⟩), (fun f W hst hbl hd hf => stp_load_bx ld_EdgeS rfl (hd 12 28 rfl rfl) (hst.get 0 rfl) (i := 4) rfl rfl ⟨Below.refl _ _, rfl⟩), (fun f W hst hbl hd hf => stp_move (v := I (k : Int)) ((hf 3 rfl).trans hs16_3) ⟨Below.refl _ _, rfl⟩), (fun f W hst hbl hd hf => stp_indexAddr sl_EdgeS (hd 13 29 rfl rfl) hp22 (hd 14 30 rfl rfl) rfl ⟨Below.refl _ _, rfl⟩), (fun f W hst hbl hd hf => stp_fieldAddr fa_Edge_1 (hd 15 31 rfl rfl) ⟨Below.refl _ _, rfl⟩), (fun f W hst hbl hd hf => stp_load_rg ld_int rfl (hd 16 32 rfl rfl) hr22 hst.below (i := 1) rfl rfl ⟨Below.refl _ _, rfl⟩), (fun f W hst hbl hd hf => stp_fieldAddr fa_Plan_3 ((hf 1 rfl).trans hs16_1) ⟨Below.refl _ _, rfl⟩), (fun f W hst hbl hd hf => stp_load_bx ld_int rfl (hd 18 34 rfl rfl) (hst.get 0 rfl) (i := 3) rfl rfl ⟨Below.refl _ _, rfl⟩), (fun f W hst hbl hd hf => stp_sub (hd 19 35 rfl rfl) rfl (by (simp only [I64] at *; omega)) ⟨Below.refl _ _, rfl⟩), (fun f W hst hbl hd hf => stp_call3 Tryz.func43 rfl (hd 17 33 rfl rfl) rfl (hd 20 36 rfl rfl) ((l01In_n W (p.edges[k]'hiab516).to_ 0 (p.tasks - 1)).mono (by rintro e W2 ⟨rfl, hk⟩; exact ⟨_, rfl, hk.below, rfl⟩))), (fun f W hst hbl hd hf => stp_not (hd 21 37 rfl rfl) ⟨Below.refl _ _, rfl⟩), (fun f W hst hbl hd hf => stp_pick_f (v := .bool (!(inB (p.edges[k]'hiab516).to_ 0 (p.tasks - 1)))) (hd 11 27 rfl rfl) (hd 22 38 rfl rfl) ⟨Below.refl _ _, rfl⟩), trivial⟩ ?_
        intro f24 W25 st26 hb27 hv28 hf29
        refine sx_if (hv28 23 39 (by decide) rfl) (fun h30 => ?_) (fun h30 => ?_)
        · skip
          have h30p := inB_not (bnot_t h30)
          refine wp_seq ?_
          refine sx_region ?_
          refine sx rfl (stp_assign (v := I 2) rfl ?_)
          refine sx_nil ?_
          refine wp_ret ?_; repeat (first | refine then_ret ?_ | refine blk_ret ?_)
          refine ret1 Tryz.results155 rfl ?_
          have hnE : ¬ EdgesIn p.tasks.toNat p.edges := fun hE => by have hea := hE.at (k := k) (by omega); omega
          exact ⟨(congrArg (fun z => Ending.returned (I z)) (by rw [pf2 hM hnE])), st26.bare⟩
        · skip
          have h30p := inB_iff'.1 (bnot_f h30)
          refine wp_skip ?_
          refine sx_region ?_
          refine sx rfl (stp_move (v := I (k : Int)) ((hf29 3 rfl).trans hs16_3) ?_)
          refine sx rfl (stp_add rfl rfl (by (simp only [I64] at *; omega)) ?_)
          skip
          skip
          refine sx rfl (stp_assign (v := I ((k : Int) + 1)) rfl ?_)
          refine sx_nil ?_
          exact ⟨_, p.edges.length - (k + 1), (by omega), rfl, k + 1, (by omega), (hEk.step (by omega) (by omega)), rfl, ((hf29 1 rfl).trans hs16_1), rfl, st26⟩
      · skip
        have h21p := inB_not (bnot_t h21)
        have hiab516 : k < p.edges.length := (by omega)
        have hq_ := idx h17_0 (i := k) hiab516
        obtain ⟨b31, o31, cs31, f31, hp31, hr31, hc31, hm31⟩ := hq_
        have hk32 := hc31
        obtain ⟨he32, rfl, hok32⟩ := hk32
        have he32 : _ = [I (p.edges[k]'hiab516).from_, I (p.edges[k]'hiab516).to_] := he32
        subst he32
        refine sx_any [Pl.is (.pointer (some ⟨b1, 0 + 4, none⟩)), Pl.is (v17_0) (Sl.yl h17_0), Pl.is (I (k : Int)), Pl.is (.pointer (some ⟨b31, o31, none⟩)), Pl.is (.pointer (some ⟨b31, o31 + 0, none⟩)), Pl.is (I (p.edges[k]'hiab516).from_), Pl.is (.pointer (some ⟨b1, 0 + 3, none⟩)), Pl.is (I p.tasks), Pl.is (I (p.tasks - 1)), Pl.bool (inB (p.edges[k]'hiab516).from_ 0 (p.tasks - 1)), Pl.bool true, Pl.bool true, Pl.off, Pl.off, Pl.off, Pl.off, Pl.off, Pl.off, Pl.off, Pl.off, Pl.off, Pl.off, Pl.off, Pl.bool true] mix (by rfl) st15 ⟨(fun f W hst hbl hd hf => stp_fieldAddr fa_Plan_4 ((hf 1 rfl).trans hs16_1) ⟨Below.refl _ _, rfl⟩), (fun f W hst hbl hd hf => stp_load_bx ld_EdgeS rfl (hd 0 16 rfl rfl) (hst.get 0 rfl) (i := 4) rfl rfl ⟨Below.refl _ _, rfl⟩), (fun f W hst hbl hd hf => stp_move (v := I (k : Int)) ((hf 3 rfl).trans hs16_3) ⟨Below.refl _ _, rfl⟩), (fun f W hst hbl hd hf => stp_indexAddr sl_EdgeS (hd 1 17 rfl rfl) hp31 (hd 2 18 rfl rfl) rfl ⟨Below.refl _ _, rfl⟩), (fun f W hst hbl hd hf => stp_fieldAddr fa_Edge_0 (hd 3 19 rfl rfl) ⟨Below.refl _ _, rfl⟩), (fun f W hst hbl hd hf => stp_load_rg ld_int rfl (hd 4 20 rfl rfl) hr31 hst.below (i := 0) rfl rfl ⟨Below.refl _ _, rfl⟩), (fun f W hst hbl hd hf => stp_fieldAddr fa_Plan_3 ((hf 1 rfl).trans hs16_1) ⟨Below.refl _ _, rfl⟩), (fun f W hst hbl hd hf => stp_load_bx ld_int rfl (hd 6 22 rfl rfl) (hst.get 0 rfl) (i := 3) rfl rfl ⟨Below.refl _ _, rfl⟩), (fun f W hst hbl hd hf => stp_sub (hd 7 23 rfl rfl) rfl (by (simp only [I64] at *; omega)) ⟨Below.refl _ _, rfl⟩), (fun f W hst hbl hd hf => stp_call3 Tryz.func43 rfl (hd 5 21 rfl rfl) rfl (hd 8 24 rfl rfl) ((l01In_n W (p.edges[k]'hiab516).from_ 0 (p.tasks - 1)).mono (by rintro e W2 ⟨rfl, hk⟩; exact ⟨_, rfl, hk.below, rfl⟩))), (fun f W hst hbl hd hf => stp_not (hd 9 25 rfl rfl) ⟨Below.refl _ _, congrArg Value.bool h21⟩), (fun f W hst hbl hd hf => stp_move (v := .bool true) (hd 10 26 rfl rfl) ⟨Below.refl _ _, rfl⟩), (fun f W hst hbl hd hf => rfl), (fun f W hst hbl hd hf => rfl), (fun f W hst hbl hd hf => rfl), (fun f W hst hbl hd hf => rfl), (fun f W hst hbl hd hf => rfl), (fun f W hst hbl hd hf => rfl), (fun f W hst hbl hd hf => rfl), (fun f W hst hbl hd hf => rfl), (fun f W hst hbl hd hf => rfl), (fun f W hst hbl hd hf => rfl), (fun f W hst hbl hd hf => rfl), (fun f W hst hbl hd hf => stp_pick_t (v := .bool true) (hd 11 27 rfl rfl) rfl ⟨Below.refl _ _, rfl⟩), trivial⟩ ?_
        intro f33 W34 st35 hb36 hv37 hf38
        refine sx_t (hv37 23 39 (by decide) rfl) rfl ?_
        refine wp_seq ?_
        refine sx_region ?_
        refine sx rfl (stp_assign (v := I 2) rfl ?_)
        refine sx_nil ?_
        refine wp_ret ?_; repeat (first | refine then_ret ?_ | refine blk_ret ?_)
        refine ret1 Tryz.results155 rfl ?_
        have hnE : ¬ EdgesIn p.tasks.toNat p.edges := fun hE => by have hea := hE.at (k := k) (by omega); omega
        exact ⟨(congrArg (fun z => Ending.returned (I z)) (by rw [pf2 hM hnE])), st35.bare⟩
    · skip
      have h18p := of_decide_eq_false h18
      refine wp_exit ?_
      refine wp_seq ?_
      refine wp_seq ?_
      refine sx_region ?_
      have hE : EdgesIn p.tasks.toNat p.edges := by rw [show k = p.edges.length by omega, List.take_length] at hEk; exact hEk
      refine sx rfl (stp_assign (v := I 0) rfl ?_)
      refine sx_nil ?_
      refine wp_block ?_
      refine sx_loop (fun (m : Nat) (f : Nat → Value) (W : World) => ∃ (k2 : Nat), k2 ≤ p.edges.length ∧ (p.edges.take k2).Nodup ∧ m = p.edges.length - k2 ∧ f 1 = .pointer (some ⟨b1, 0, none⟩) ∧ f 4 = I (k2 : Int) ∧ St w W ([Res.bx b1 [I p.prio, I p.most, I p.wait, I p.tasks, v17_0] 106])) (p.edges.length - 0) ?_ ?_
      · exact ⟨0, (by omega), List.nodup_nil, rfl, hs16_1, rfl, st15⟩
      intro m39 f40 W41 hJ42
      obtain ⟨k2, hk2, hNk, rfl, hs44_1, hs44_4, st43⟩ := hJ42
      refine wp_seq ?_
      refine wp_seq ?_
      refine sx_region ?_
      refine sx rfl (stp_move (v := I (k2 : Int)) hs44_4 ?_)
      refine sx rfl (stp_fieldAddr fa_Plan_4 hs44_1 ?_)
      refine sx rfl (stp_load_bx ld_EdgeS rfl rfl (st43.get 0 rfl) (i := 4) rfl rfl ?_)
      refine sx rfl (stp_len sl_EdgeS rfl h17_0 ?_)
      refine sx rfl (stp_lss rfl rfl ?_)
      refine sx_nil ?_
      refine sx_if rfl (fun h45 => ?_) (fun h45 => ?_)
      · skip
        have h45p := of_decide_eq_true h45
        refine wp_skip ?_
        refine wp_seq ?_
        refine wp_block ?_
        refine wp_seq ?_
        refine sx_region ?_
        refine sx rfl (stp_assign (v := I 0) rfl ?_)
        refine sx_nil ?_
        refine wp_block ?_
        refine sx_loop (fun (m : Nat) (f : Nat → Value) (W : World) => ∃ (j : Nat), j ≤ k2 ∧ (p.edges[k2]'(by omega)) ∉ p.edges.take j ∧ m = k2 - j ∧ f 1 = .pointer (some ⟨b1, 0, none⟩) ∧ f 4 = I (k2 : Int) ∧ f 5 = I (j : Int) ∧ St w W ([Res.bx b1 [I p.prio, I p.most, I p.wait, I p.tasks, v17_0] 106])) (k2 - 0) ?_ ?_
        · exact ⟨0, (by omega), (by simp), rfl, hs44_1, hs44_4, rfl, st43⟩
        intro m46 f47 W48 hJ49
        obtain ⟨j, hj, hj2, rfl, hs51_1, hs51_4, hs51_5, st50⟩ := hJ49
        refine wp_seq ?_
        refine wp_seq ?_
        refine sx_region ?_
        refine sx rfl (stp_move (v := I (j : Int)) hs51_5 ?_)
        refine sx rfl (stp_move (v := I (k2 : Int)) hs51_4 ?_)
        refine sx rfl (stp_lss rfl rfl ?_)
        refine sx_nil ?_
        refine sx_if rfl (fun h52 => ?_) (fun h52 => ?_)
        · skip
          have h52p := of_decide_eq_true h52
          refine wp_skip ?_
          refine wp_seq ?_
          refine wp_block ?_
          refine wp_seq ?_
          have hi9adb2 : k2 < p.edges.length := (by omega)
          have hq_ := idx h17_0 (i := k2) hi9adb2
          obtain ⟨b53, o53, cs53, f53, hp53, hr53, hc53, hm53⟩ := hq_
          have hk54 := hc53
          obtain ⟨he54, rfl, hok54⟩ := hk54
          have he54 : _ = [I (p.edges[k2]'hi9adb2).from_, I (p.edges[k2]'hi9adb2).to_] := he54
          subst he54
          have hif5231 : j < p.edges.length := (by omega)
          have hq_ := idx h17_0 (i := j) hif5231
          obtain ⟨b55, o55, cs55, f55, hp55, hr55, hc55, hm55⟩ := hq_
          have hk56 := hc55
          obtain ⟨he56, rfl, hok56⟩ := hk56
          have he56 : _ = [I (p.edges[j]'hif5231).from_, I (p.edges[j]'hif5231).to_] := he56
          subst he56
          refine sx_any [Pl.is (.pointer (some ⟨b1, 0 + 4, none⟩)), Pl.is (v17_0) (Sl.yl h17_0), Pl.is (I (k2 : Int)), Pl.is (.pointer (some ⟨b53, o53, none⟩)), Pl.is (.agg #[I (p.edges[k2]'hi9adb2).from_, I (p.edges[k2]'hi9adb2).to_]), Pl.is (.pointer (some ⟨b1, 0 + 4, none⟩)), Pl.is (v17_0) (Sl.yl h17_0), Pl.is (I (j : Int)), Pl.is (.pointer (some ⟨b55, o55, none⟩)), Pl.is (.agg #[I (p.edges[j]'hif5231).from_, I (p.edges[j]'hif5231).to_]), Pl.bool (eqB (p.edges[k2]'hi9adb2) (p.edges[j]'hif5231))] mix (by rfl) st50 ⟨(fun f W hst hbl hd hf => stp_fieldAddr fa_Plan_4 ((hf 1 rfl).trans hs51_1) ⟨Below.refl _ _, rfl⟩), (fun f W hst hbl hd hf => stp_load_bx ld_EdgeS rfl (hd 0 52 rfl rfl) (hst.get 0 rfl) (i := 4) rfl rfl ⟨Below.refl _ _, rfl⟩), (fun f W hst hbl hd hf => stp_move (v := I (k2 : Int)) ((hf 4 rfl).trans hs51_4) ⟨Below.refl _ _, rfl⟩), (fun f W hst hbl hd hf => stp_indexAddr sl_EdgeS (hd 1 53 rfl rfl) hp53 (hd 2 54 rfl rfl) rfl ⟨Below.refl _ _, rfl⟩), (fun f W hst hbl hd hf => stp_load_rgs (cs := [I (p.edges[k2]'hi9adb2).from_, I (p.edges[k2]'hi9adb2).to_]) ld_Edge rfl (hd 3 55 rfl rfl) hr53 hst.below (i := 0) rfl rfl rfl ⟨Below.refl _ _, rfl⟩), (fun f W hst hbl hd hf => stp_fieldAddr fa_Plan_4 ((hf 1 rfl).trans hs51_1) ⟨Below.refl _ _, rfl⟩), (fun f W hst hbl hd hf => stp_load_bx ld_EdgeS rfl (hd 5 57 rfl rfl) (hst.get 0 rfl) (i := 4) rfl rfl ⟨Below.refl _ _, rfl⟩), (fun f W hst hbl hd hf => stp_move (v := I (j : Int)) ((hf 5 rfl).trans hs51_5) ⟨Below.refl _ _, rfl⟩), (fun f W hst hbl hd hf => stp_indexAddr sl_EdgeS (hd 6 58 rfl rfl) hp55 (hd 7 59 rfl rfl) rfl ⟨Below.refl _ _, rfl⟩), (fun f W hst hbl hd hf => stp_load_rgs (cs := [I (p.edges[j]'hif5231).from_, I (p.edges[j]'hif5231).to_]) ld_Edge rfl (hd 8 60 rfl rfl) hr55 hst.below (i := 0) rfl rfl rfl ⟨Below.refl _ _, rfl⟩), (fun f W hst hbl hd hf => stp_aeql (se_Edge (p.edges[k2]'hi9adb2) (p.edges[j]'hif5231)) eg_Edge (hd 4 56 rfl rfl) (hd 9 61 rfl rfl) ⟨Below.refl _ _, rfl⟩), trivial⟩ ?_
          intro f57 W58 st59 hb60 hv61 hf62
          refine sx_if (hv61 10 62 (by decide) rfl) (fun h63 => ?_) (fun h63 => ?_)
          · skip
            refine wp_seq ?_
            refine sx_region ?_
            refine sx rfl (stp_assign (v := I 3) rfl ?_)
            refine sx_nil ?_
            refine wp_ret ?_; repeat (first | refine then_ret ?_ | refine blk_ret ?_)
            refine ret1 Tryz.results155 rfl ?_
            have hnN : ¬ p.edges.Nodup := not_nodup_at (k := k2) (by omega) (by rw [eqB_iff.1 h63]; exact mem_take_at (by omega) (by omega))
            exact ⟨(congrArg (fun z => Ending.returned (I z)) (by rw [pf3 hM hE hnN])), st59.bare⟩
          · skip
            refine wp_skip ?_
            refine sx_region ?_
            refine sx rfl (stp_move (v := I (j : Int)) ((hf62 5 rfl).trans hs51_5) ?_)
            refine sx rfl (stp_add rfl rfl (by (simp only [I64] at *; omega)) ?_)
            refine sx rfl (stp_assign (v := I ((j : Int) + 1)) rfl ?_)
            refine sx_nil ?_
            exact ⟨_, k2 - (j + 1), (by omega), rfl, j + 1, (by omega), (not_mem_take_step (by omega) hj2 (fun e => by rw [eqB_t e] at h63; cases h63)), rfl, ((hf62 1 rfl).trans hs51_1), ((hf62 4 rfl).trans hs51_4), rfl, st59⟩
        · skip
          have h52p := of_decide_eq_false h52
          refine wp_exit ?_
          refine sx_region ?_
          refine sx rfl (stp_move (v := I (k2 : Int)) hs51_4 ?_)
          refine sx rfl (stp_add rfl rfl (by (simp only [I64] at *; omega)) ?_)
          skip
          refine sx rfl (stp_assign (v := I ((k2 : Int) + 1)) rfl ?_)
          refine sx_nil ?_
          exact ⟨_, p.edges.length - (k2 + 1), (by omega), rfl, k2 + 1, (by omega), (nodup_step hNk (by omega) (by rw [show j = k2 by omega] at hj2; exact hj2)), rfl, hs51_1, rfl, st50⟩
      · skip
        have h45p := of_decide_eq_false h45
        refine wp_exit ?_
        refine wp_seq ?_
        refine wp_seq ?_
        refine sx_region ?_
        have hN : p.edges.Nodup := by rw [show k2 = p.edges.length by omega, List.take_length] at hNk; exact hNk
        refine sx rfl (stp_assign (v := I 0) rfl ?_)
        refine sx_nil ?_
        refine wp_block ?_
        refine sx_loop (fun (m : Nat) (f : Nat → Value) (W : World) => ∃ (k3 : Nat), k3 ≤ p.tasks.toNat ∧ (∀ t : Nat, t < k3 → ¬ Rch p.edges (t : Int) (t : Int)) ∧ m = p.tasks.toNat - k3 ∧ f 1 = .pointer (some ⟨b1, 0, none⟩) ∧ f 6 = I (k3 : Int) ∧ St w W ([Res.bx b1 [I p.prio, I p.most, I p.wait, I p.tasks, v17_0] 106])) (p.tasks.toNat - 0) ?_ ?_
        · exact ⟨0, (by omega), (fun t ht => absurd ht (Nat.not_lt_zero t)), rfl, hs44_1, rfl, st43⟩
        intro m64 f65 W66 hJ67
        obtain ⟨k3, hk3, hW, rfl, hs69_1, hs69_6, st68⟩ := hJ67
        refine wp_seq ?_
        refine wp_seq ?_
        refine sx_region ?_
        refine sx rfl (stp_move (v := I (k3 : Int)) hs69_6 ?_)
        refine sx rfl (stp_fieldAddr fa_Plan_3 hs69_1 ?_)
        refine sx rfl (stp_load_bx ld_int rfl rfl (st68.get 0 rfl) (i := 3) rfl rfl ?_)
        refine sx rfl (stp_lss rfl rfl ?_)
        refine sx_nil ?_
        refine sx_if rfl (fun h70 => ?_) (fun h70 => ?_)
        · skip
          have h70p := of_decide_eq_true h70
          refine wp_skip ?_
          refine wp_seq ?_
          refine wp_block ?_
          refine wp_seq ?_
          refine sx_region ?_
          refine sx rfl (stp_load_bxs (cs := [I p.prio, I p.most, I p.wait, I p.tasks, v17_0]) ld_Plan rfl hs69_1 (st68.get 0 rfl) rfl rfl ?_)
          refine sx rfl (stp_move (v := I (k3 : Int)) hs69_6 ?_)
          refine sx rfl (stp_call2 Tryz.func213 rfl rfl rfl ((FromS W66 (C_below hc st68.below) (k3 : Int) (by omega) (by omega) hE (by omega)).mono ?_)); rintro _ W73 ⟨v71, fp71, rfl, hk74⟩; refine ⟨_, rfl, ?_⟩
          have st75 := St.call st68 hk74
          refine sx rfl (stp_move (v := I (k3 : Int)) hs69_6 ?_)
          have hfl := fromOf_len p.edges p.tasks.toNat (k3 : Int)
          have hi60dda : k3 < (fromOf p.edges p.tasks.toNat (k3 : Int)).length := (by omega)
          have hq_ := idx (own_Sl (st75.get 0 rfl)) (i := k3) hi60dda
          obtain ⟨b77, o77, cs77, f77, hp77, hr77, hc77, hm77⟩ := hq_
          have hk77 := hc77
          obtain ⟨rfl, rfl, hok77⟩ := hk77
          refine sx rfl (stp_indexAddr sl_boolS rfl hp77 rfl rfl ?_)
          refine sx rfl (stp_load_rg ld_bool rfl rfl hr77 (Below.refl _ _) (i := 0) rfl rfl ?_)
          refine sx_nil ?_
          refine sx_if rfl (fun h78 => ?_) (fun h78 => ?_)
          · skip
            refine wp_seq ?_
            refine sx_region ?_
            refine sx rfl (stp_assign (v := I 4) rfl ?_)
            refine sx_nil ?_
            refine wp_ret ?_; repeat (first | refine then_ret ?_ | refine blk_ret ?_)
            refine ret1 Tryz.results155 rfl ?_
            have hC : planCyc p := ⟨k3, (by omega), pB_iff.1 ((fromOf_at _).symm.trans h78)⟩
            exact ⟨(congrArg (fun z => Ending.returned (I z)) (by rw [pf4 hM hE hN hC])), st75.bare⟩
          · skip
            refine wp_skip ?_
            refine sx_region ?_
            refine sx rfl (stp_move (v := I (k3 : Int)) hs69_6 ?_)
            refine sx rfl (stp_add rfl rfl (by (simp only [I64] at *; omega)) ?_)
            skip
            refine sx rfl (stp_assign (v := I ((k3 : Int) + 1)) rfl ?_)
            refine sx_nil ?_
            have st79 := st75.f1
            have st80 := st79.d1
            exact ⟨_, p.tasks.toNat - (k3 + 1), (by omega), rfl, k3 + 1, (by omega), (fun t ht => by rcases Nat.lt_succ_iff_lt_or_eq.1 ht with h1 | rfl; exact hW t h1; exact fun hr => absurd ((fromOf_at _).symm.trans h78) (by rw [pB_t hr]; decide)), rfl, hs69_1, rfl, st80⟩
        · skip
          have h70p := of_decide_eq_false h70
          refine wp_exit ?_
          refine wp_seq ?_
          refine sx_region ?_
          refine sx rfl (stp_assign (v := I 0) rfl ?_)
          refine sx_nil ?_
          refine wp_ret ?_; repeat (first | refine then_ret ?_ | refine blk_ret ?_)
          refine ret1 Tryz.results155 rfl ?_
          have hC : ¬ planCyc p := by rintro ⟨t, ht, hr⟩; exact hW t (by omega) hr
          exact ⟨(congrArg (fun z => Ending.returned (I z)) (by rw [pf0 hM hE hN hC])), st68.bare⟩
end Go.Proofs.YtchnllpegfbleaaGreat
